/- The abstract code of some functions, as the program gen.py prints it. Conditions: none. -/
import Derived.Test.YtgnghiijbegacaaDoorLgE
set_option linter.unusedVariables false
namespace Go.Lg
open Go
section
variable {P : Program} {Γ : Tables} {Q : AX → St → Prop} {s : St}
/- (probecard/probecardlaw03.C).Of (function 12) -/
def law03_C_Of_r0 : List RO := [
    ⟨some 1, .box true (.tmp 0), none, none⟩,
    ⟨some 2, .alloc false [(.slice none 0 0), (.slice none 0 0), (.slice none 0 0), (.slice none 0 0)], none, none⟩]
def law03_C_Of_r1 : List RO := [
    ⟨some 3, .alloc false [(.slice none 0 0), (.slice none 0 0), (.slice none 0 0), (.slice none 0 0)], none, none⟩]
def law03_C_Of_r2 : List RO := [
    ⟨some 4, .mv (.const (.int .i64 0)), none, none⟩]
def law03_C_Of_r3 : List RO := [
    ⟨some 13, .mv (.tmp 4), none, none⟩,
    ⟨some 14, .fadr 0 (.tmp 1), none, none⟩,
    ⟨some 15, .load 1 false (.tmp 14), none, none⟩,
    ⟨some 16, .bin .rem (.tmp 15) (.const (.int .u8 4)), none, none⟩,
    ⟨some 17, .conv .i64 (.tmp 16), none, none⟩,
    ⟨some 18, .bin .leq (.tmp 13) (.tmp 17), none, none⟩]
def law03_C_Of_r5 : List RO := [
    ⟨some 21, .fadr 0 (.tmp 3), none, none⟩,
    ⟨some 22, .load 1 false (.tmp 21), none, none⟩,
    ⟨some 23, .build [(1, (.const (.int .u8 0))), (1, (.const (.slice none 0 0))), (1, (.const (.int .i64 0))), (1, (.const (.int .i64 0)))], none, none⟩,
    ⟨some 24, .bsl true 48 4 [(.tmp 23)], none, none⟩,
    ⟨some 25, .app false 48 4 (.tmp 22) (.tmp 24), none, none⟩,
    ⟨some 26, .fadr 0 (.tmp 3), none, none⟩,
    ⟨none, .store 1 (.tmp 26) (.tmp 25), none, none⟩]
def law03_C_Of_r4 : List RO := [
    ⟨some 19, .mv (.tmp 4), none, none⟩,
    ⟨some 20, .bin .add (.tmp 19) (.const (.int .i64 1)), none, none⟩,
    ⟨some 4, .mv (.tmp 20), none, none⟩]
def law03_C_Of_g0 : IC := .gh (.seq (.seq (.reg law03_C_Of_r3 [.keep [1, 2, 3, 4, 18] [2, 3, 25, 144, 168]]) (.cond (.tmp 18) .skip (.exit 0))) (.seq (.block 1 (.reg law03_C_Of_r5 [.keep [1, 2, 3, 4] [2, 3, 25, 144, 168]])) (.reg law03_C_Of_r4 [.keep [1, 2, 3, 4] [2, 3, 25, 144, 168]]))) [.keep [1, 2, 3, 4] [2, 3, 25, 144, 168]]
def law03_C_Of_l1 : IC := .loop law03_C_Of_g0
def law03_C_Of_r6 : List RO := [
    ⟨some 27, .fadr 0 (.tmp 3), none, none⟩,
    ⟨some 28, .load 1 false (.tmp 27), none, none⟩,
    ⟨some 29, .len 0 (.tmp 28), none, none⟩,
    ⟨some 5, .mv (.tmp 29), none, none⟩]
def law03_C_Of_r7 : List RO := [
    ⟨some 30, .fadr 1 (.tmp 1), none, none⟩,
    ⟨some 31, .load 1 false (.tmp 30), none, none⟩,
    ⟨some 32, .bin .rem (.tmp 31) (.const (.int .u8 3)), none, none⟩,
    ⟨some 33, .conv .i64 (.tmp 32), none, none⟩,
    ⟨some 6, .mv (.tmp 33), none, none⟩]
def law03_C_Of_r8 : List RO := [
    ⟨some 7, .mv (.const (.int .i64 0)), none, none⟩]
def law03_C_Of_r9 : List RO := [
    ⟨some 34, .mv (.tmp 7), none, none⟩,
    ⟨some 35, .mv (.tmp 6), none, none⟩,
    ⟨some 36, .bin .lss (.tmp 34) (.tmp 35), none, none⟩]
def law03_C_Of_r11 : List RO := [
    ⟨some 39, .fadr 0 (.tmp 3), none, none⟩,
    ⟨some 40, .load 1 false (.tmp 39), none, none⟩,
    ⟨some 41, .bsl true 3 1 [(.const (.int .i64 0))], none, none⟩,
    ⟨some 42, .build [(1, (.const (.int .u8 14))), (1, (.tmp 41)), (1, (.const (.int .i64 0))), (1, (.const (.int .i64 0)))], none, none⟩,
    ⟨some 43, .bsl true 48 4 [(.tmp 42)], none, none⟩,
    ⟨some 44, .app false 48 4 (.tmp 40) (.tmp 43), none, some 25⟩,
    ⟨some 45, .fadr 0 (.tmp 3), none, none⟩,
    ⟨none, .store 1 (.tmp 45) (.tmp 44), none, none⟩]
def law03_C_Of_r10 : List RO := [
    ⟨some 37, .mv (.tmp 7), none, none⟩,
    ⟨some 38, .bin .add (.tmp 37) (.const (.int .i64 1)), none, none⟩,
    ⟨some 7, .mv (.tmp 38), none, none⟩]
def law03_C_Of_g2 : IC := .gh (.seq (.seq (.reg law03_C_Of_r9 [.keep [1, 2, 3, 5, 6, 7, 36] [2, 3, 25, 144, 168]]) (.cond (.tmp 36) .skip (.exit 2))) (.seq (.block 3 (.reg law03_C_Of_r11 [.keep [1, 2, 3, 5, 6, 7] [2, 3, 25, 144, 168]])) (.reg law03_C_Of_r10 [.keep [1, 2, 3, 5, 6, 7] [2, 3, 25, 144, 168]]))) [.keep [1, 2, 3, 5, 6, 7] [2, 3, 25, 144, 168]]
def law03_C_Of_l3 : IC := .loop law03_C_Of_g2
def law03_C_Of_r12 : List RO := [
    ⟨some 46, .fadr 5 (.tmp 1), none, none⟩,
    ⟨some 47, .load 1 false (.tmp 46), none, none⟩]
def law03_C_Of_r13 : List RO := [
    ⟨some 48, .fadr 0 (.tmp 3), none, none⟩,
    ⟨some 49, .load 1 false (.tmp 48), none, none⟩,
    ⟨some 50, .build [(1, (.const (.int .u8 15))), (1, (.const (.slice none 0 0))), (1, (.const (.int .i64 0))), (1, (.const (.int .i64 0)))], none, none⟩,
    ⟨some 51, .build [(1, (.const (.int .u8 15))), (1, (.const (.slice none 0 0))), (1, (.const (.int .i64 0))), (1, (.const (.int .i64 1)))], none, none⟩,
    ⟨some 52, .bsl true 48 4 [(.tmp 50), (.tmp 51)], none, none⟩,
    ⟨some 53, .app false 48 4 (.tmp 49) (.tmp 52), none, some 25⟩,
    ⟨some 54, .fadr 0 (.tmp 3), none, none⟩,
    ⟨none, .store 1 (.tmp 54) (.tmp 53), none, none⟩]
def law03_C_Of_r14 : List RO := [
    ⟨some 8, .mv (.const (.int .i64 0)), none, none⟩]
def law03_C_Of_r15 : List RO := [
    ⟨some 55, .mv (.tmp 8), none, none⟩,
    ⟨some 56, .fadr 10 (.tmp 1), none, none⟩,
    ⟨some 57, .load 1 false (.tmp 56), none, none⟩,
    ⟨some 58, .len 0 (.tmp 57), none, none⟩,
    ⟨some 59, .bin .lss (.tmp 55) (.tmp 58), none, none⟩,
    ⟨some 60, .mv (.tmp 59), none, none⟩,
    ⟨some 61, .mv (.tmp 8), some (60, true), none⟩,
    ⟨some 62, .bin .lss (.tmp 61) (.const (.int .i64 8)), some (60, true), none⟩,
    ⟨some 63, .pick (.tmp 60) (.tmp 62) (.const (.bool false)), none, none⟩]
def law03_C_Of_r17 : List RO := [
    ⟨some 66, .fadr 0 (.tmp 3), none, none⟩,
    ⟨some 67, .ldR 3 1 false (.tmp 66), none, none⟩,
    ⟨some 68, .ldT 12 true (.tmp 1), none, none⟩,
    ⟨some 69, .fadr 10 (.tmp 1), none, none⟩,
    ⟨some 70, .ldT 1 false (.tmp 69), none, none⟩,
    ⟨some 71, .mv (.tmp 8), none, none⟩,
    ⟨some 72, .iadr 4 (.tmp 70) (.tmp 71), none, none⟩,
    ⟨some 73, .ldT 4 true (.tmp 72), none, none⟩,
    ⟨some 74, .fadr 0 (.tmp 3), none, none⟩,
    ⟨some 75, .ldR 3 1 false (.tmp 74), none, none⟩,
    ⟨some 76, .call 39 [(.tmp 68), (.tmp 73), (.tmp 75)], none, none⟩,
    ⟨some 77, .bsl true 48 4 [(.tmp 76)], none, none⟩,
    ⟨some 78, .app false 48 4 (.tmp 67) (.tmp 77), none, some 25⟩,
    ⟨some 79, .fadr 0 (.tmp 3), none, none⟩,
    ⟨none, .stR 3 1 (.tmp 79) (.tmp 78), none, none⟩]
def law03_C_Of_r16 : List RO := [
    ⟨some 64, .mv (.tmp 8), none, none⟩,
    ⟨some 65, .bin .add (.tmp 64) (.const (.int .i64 1)), none, none⟩,
    ⟨some 8, .mv (.tmp 65), none, none⟩]
def law03_C_Of_g4 : IC := .gh (.seq (.seq (.reg law03_C_Of_r15 [.keep [1, 2, 3, 5, 6, 8, 63] [2, 3, 25, 144, 168]]) (.cond (.tmp 63) .skip (.exit 4))) (.seq (.block 5 (.reg law03_C_Of_r17 [.keep [1, 2, 3, 5, 6, 8] [2, 3, 25, 144, 168]])) (.reg law03_C_Of_r16 [.keep [1, 2, 3, 5, 6, 8] [2, 3, 25, 144, 168]]))) [.keep [1, 2, 3, 5, 6, 8] [2, 3, 25, 144, 168]]
def law03_C_Of_l5 : IC := .loop law03_C_Of_g4
def law03_C_Of_r18 : List RO := [
    ⟨some 80, .fadr 0 (.tmp 3), none, none⟩,
    ⟨some 81, .load 1 false (.tmp 80), none, none⟩,
    ⟨some 82, .len 0 (.tmp 81), none, none⟩,
    ⟨some 9, .mv (.tmp 82), none, none⟩]
def law03_C_Of_r19 : List RO := [
    ⟨some 10, .mv (.const (.int .i64 0)), none, none⟩]
def law03_C_Of_r20 : List RO := [
    ⟨some 83, .mv (.tmp 10), none, none⟩,
    ⟨some 84, .mv (.tmp 6), none, none⟩,
    ⟨some 85, .bin .lss (.tmp 83) (.tmp 84), none, none⟩]
def law03_C_Of_r22 : List RO := [
    ⟨some 88, .fadr 0 (.tmp 3), none, none⟩,
    ⟨some 89, .ldR 3 1 false (.tmp 88), none, none⟩,
    ⟨some 90, .mv (.tmp 5), none, none⟩,
    ⟨some 91, .mv (.tmp 10), none, none⟩,
    ⟨some 92, .bin .add (.tmp 90) (.tmp 91), none, none⟩,
    ⟨some 93, .mv (.tmp 10), none, none⟩,
    ⟨some 94, .fadr 2 (.tmp 1), none, none⟩,
    ⟨some 95, .iadrA 2 1 (.tmp 94) (.tmp 93), none, none⟩,
    ⟨some 96, .ldT 1 false (.tmp 95), none, none⟩,
    ⟨some 97, .conv .i64 (.tmp 96), none, none⟩,
    ⟨some 98, .mv (.tmp 9), none, none⟩,
    ⟨some 99, .bin .rem (.tmp 97) (.tmp 98), none, none⟩,
    ⟨some 100, .bsl true 3 1 [(.tmp 99)], none, none⟩,
    ⟨some 101, .iadr 4 (.tmp 89) (.tmp 92), none, none⟩,
    ⟨some 102, .fadr 1 (.tmp 101), none, none⟩,
    ⟨none, .store 1 (.tmp 102) (.tmp 100), none, none⟩]
def law03_C_Of_r21 : List RO := [
    ⟨some 86, .mv (.tmp 10), none, none⟩,
    ⟨some 87, .bin .add (.tmp 86) (.const (.int .i64 1)), none, none⟩,
    ⟨some 10, .mv (.tmp 87), none, none⟩]
def law03_C_Of_g6 : IC := .gh (.seq (.seq (.reg law03_C_Of_r20 [.keep [1, 2, 3, 5, 6, 9, 10, 85] [2, 3, 25, 144, 168]]) (.cond (.tmp 85) .skip (.exit 6))) (.seq (.block 7 (.reg law03_C_Of_r22 [.keep [1, 2, 3, 5, 6, 9, 10] [2, 3, 25, 144, 168]])) (.reg law03_C_Of_r21 [.keep [1, 2, 3, 5, 6, 9, 10] [2, 3, 25, 144, 168]]))) [.keep [1, 2, 3, 5, 6, 9, 10] [2, 3, 25, 144, 168]]
def law03_C_Of_l7 : IC := .loop law03_C_Of_g6
def law03_C_Of_r23 : List RO := [
    ⟨some 103, .fadr 5 (.tmp 1), none, none⟩,
    ⟨some 104, .load 1 false (.tmp 103), none, none⟩]
def law03_C_Of_r24 : List RO := [
    ⟨some 105, .fadr 6 (.tmp 1), none, none⟩,
    ⟨some 106, .iadrA 4 1 (.tmp 105) (.const (.int .i64 0)), none, none⟩,
    ⟨some 107, .ldT 1 false (.tmp 106), none, none⟩,
    ⟨some 108, .conv .i64 (.tmp 107), none, none⟩,
    ⟨some 109, .mv (.tmp 9), none, none⟩,
    ⟨some 110, .bin .rem (.tmp 108) (.tmp 109), none, none⟩,
    ⟨some 111, .bsl true 3 1 [(.tmp 110)], none, none⟩,
    ⟨some 112, .fadr 6 (.tmp 1), none, none⟩,
    ⟨some 113, .iadrA 4 1 (.tmp 112) (.const (.int .i64 1)), none, none⟩,
    ⟨some 114, .ldT 1 false (.tmp 113), none, none⟩,
    ⟨some 115, .conv .i64 (.tmp 114), none, none⟩,
    ⟨some 116, .mv (.tmp 9), none, none⟩,
    ⟨some 117, .bin .rem (.tmp 115) (.tmp 116), none, none⟩,
    ⟨some 118, .fadr 6 (.tmp 1), none, none⟩,
    ⟨some 119, .iadrA 4 1 (.tmp 118) (.const (.int .i64 2)), none, none⟩,
    ⟨some 120, .ldT 1 false (.tmp 119), none, none⟩,
    ⟨some 121, .conv .i64 (.tmp 120), none, none⟩,
    ⟨some 122, .mv (.tmp 9), none, none⟩,
    ⟨some 123, .bin .rem (.tmp 121) (.tmp 122), none, none⟩,
    ⟨some 124, .bsl true 3 1 [(.tmp 117), (.tmp 123)], none, none⟩,
    ⟨some 125, .fadr 6 (.tmp 1), none, none⟩,
    ⟨some 126, .iadrA 4 1 (.tmp 125) (.const (.int .i64 3)), none, none⟩,
    ⟨some 127, .ldT 1 false (.tmp 126), none, none⟩,
    ⟨some 128, .conv .i64 (.tmp 127), none, none⟩,
    ⟨some 129, .mv (.tmp 9), none, none⟩,
    ⟨some 130, .bin .rem (.tmp 128) (.tmp 129), none, none⟩,
    ⟨some 131, .build [(1, (.tmp 111)), (1, (.tmp 124)), (1, (.tmp 130))], none, none⟩,
    ⟨some 132, .bsl true 102 3 [(.tmp 131)], none, none⟩,
    ⟨some 133, .fadr 2 (.tmp 3), none, none⟩,
    ⟨none, .stR 3 1 (.tmp 133) (.tmp 132), none, none⟩]
def law03_C_Of_r25 : List RO := [
    ⟨some 11, .mv (.const (.int .i64 0)), none, none⟩]
def law03_C_Of_r26 : List RO := [
    ⟨some 134, .mv (.tmp 11), none, none⟩,
    ⟨some 135, .mv (.tmp 9), none, none⟩,
    ⟨some 136, .bin .lss (.tmp 134) (.tmp 135), none, none⟩]
def law03_C_Of_r28 : List RO := [
    ⟨some 139, .fadr 1 (.tmp 3), none, none⟩,
    ⟨some 140, .ldR 3 1 false (.tmp 139), none, none⟩,
    ⟨some 141, .mv (.tmp 11), none, none⟩,
    ⟨some 142, .call 40 [(.tmp 141)], none, none⟩,
    ⟨some 143, .bsl true 9 1 [(.tmp 142)], none, none⟩,
    ⟨some 144, .app false 9 1 (.tmp 140) (.tmp 143), none, none⟩,
    ⟨some 145, .fadr 1 (.tmp 3), none, none⟩,
    ⟨none, .stR 3 1 (.tmp 145) (.tmp 144), none, none⟩]
def law03_C_Of_r27 : List RO := [
    ⟨some 137, .mv (.tmp 11), none, none⟩,
    ⟨some 138, .bin .add (.tmp 137) (.const (.int .i64 1)), none, none⟩,
    ⟨some 11, .mv (.tmp 138), none, none⟩]
def law03_C_Of_g8 : IC := .gh (.seq (.seq (.reg law03_C_Of_r26 [.keep [1, 2, 3, 9, 11, 136] [2, 3, 25, 144, 168]]) (.cond (.tmp 136) .skip (.exit 8))) (.seq (.block 9 (.reg law03_C_Of_r28 [.keep [1, 2, 3, 9, 11] [2, 3, 25, 144, 168]])) (.reg law03_C_Of_r27 [.keep [1, 2, 3, 9, 11] [2, 3, 25, 144, 168]]))) [.keep [1, 2, 3, 9, 11] [2, 3, 25, 144, 168]]
def law03_C_Of_l9 : IC := .loop law03_C_Of_g8
def law03_C_Of_r29 : List RO := [
    ⟨some 12, .mv (.const (.int .i64 0)), none, none⟩]
def law03_C_Of_r30 : List RO := [
    ⟨some 146, .mv (.tmp 12), none, none⟩,
    ⟨some 147, .fadr 11 (.tmp 1), none, none⟩,
    ⟨some 148, .load 1 false (.tmp 147), none, none⟩,
    ⟨some 149, .len 0 (.tmp 148), none, none⟩,
    ⟨some 150, .bin .lss (.tmp 146) (.tmp 149), none, none⟩,
    ⟨some 151, .mv (.tmp 150), none, none⟩,
    ⟨some 152, .mv (.tmp 12), some (151, true), none⟩,
    ⟨some 153, .bin .lss (.tmp 152) (.const (.int .i64 3)), some (151, true), none⟩,
    ⟨some 154, .pick (.tmp 151) (.tmp 153) (.const (.bool false)), none, none⟩]
def law03_C_Of_r32 : List RO := [
    ⟨some 157, .fadr 3 (.tmp 3), none, none⟩,
    ⟨some 158, .ldR 3 1 false (.tmp 157), none, none⟩,
    ⟨some 159, .fadr 11 (.tmp 1), none, none⟩,
    ⟨some 160, .ldT 1 false (.tmp 159), none, none⟩,
    ⟨some 161, .mv (.tmp 12), none, none⟩,
    ⟨some 162, .iadr 1 (.tmp 160) (.tmp 161), none, none⟩,
    ⟨some 163, .ldT 1 false (.tmp 162), none, none⟩,
    ⟨some 164, .conv .i64 (.tmp 163), none, none⟩,
    ⟨some 165, .mv (.tmp 9), none, none⟩,
    ⟨some 166, .bin .rem (.tmp 164) (.tmp 165), none, none⟩,
    ⟨some 167, .bsl true 3 1 [(.tmp 166)], none, none⟩,
    ⟨some 168, .app false 3 1 (.tmp 158) (.tmp 167), none, none⟩,
    ⟨some 169, .fadr 3 (.tmp 3), none, none⟩,
    ⟨none, .stR 3 1 (.tmp 169) (.tmp 168), none, none⟩]
def law03_C_Of_r31 : List RO := [
    ⟨some 155, .mv (.tmp 12), none, none⟩,
    ⟨some 156, .bin .add (.tmp 155) (.const (.int .i64 1)), none, none⟩,
    ⟨some 12, .mv (.tmp 156), none, none⟩]
def law03_C_Of_g10 : IC := .gh (.seq (.seq (.reg law03_C_Of_r30 [.keep [1, 2, 3, 9, 12, 154] [2, 3, 25, 144, 168]]) (.cond (.tmp 154) .skip (.exit 10))) (.seq (.block 11 (.reg law03_C_Of_r32 [.keep [1, 2, 3, 9, 12] [2, 3, 25, 144, 168]])) (.reg law03_C_Of_r31 [.keep [1, 2, 3, 9, 12] [2, 3, 25, 144, 168]]))) [.keep [1, 2, 3, 9, 12] [2, 3, 25, 144, 168]]
def law03_C_Of_l11 : IC := .loop law03_C_Of_g10
def law03_C_Of_r33 : List RO := [
    ⟨some 170, .fadr 3 (.tmp 3), none, none⟩,
    ⟨some 171, .load 1 false (.tmp 170), none, none⟩,
    ⟨some 172, .mv (.tmp 9), none, none⟩,
    ⟨some 173, .bin .sub (.tmp 172) (.const (.int .i64 1)), none, none⟩,
    ⟨some 174, .bsl true 3 1 [(.tmp 173)], none, none⟩,
    ⟨some 175, .app false 3 1 (.tmp 171) (.tmp 174), none, some 168⟩,
    ⟨some 176, .fadr 3 (.tmp 3), none, none⟩,
    ⟨none, .store 1 (.tmp 176) (.tmp 175), none, none⟩]
def law03_C_Of_r34 : List RO := [
    ⟨some 177, .load 4 true (.tmp 3), none, none⟩,
    ⟨none, .store 4 (.tmp 2) (.tmp 177), none, none⟩]
def law03_C_Of_ic : IC := (.seq (.reg law03_C_Of_r0 [.keep [1, 2] [2, 25, 144, 168]]) (.seq (.reg law03_C_Of_r1 [.nlb 3 0 25 48 4, .nlb 3 1 144 9 1, .nlb 3 3 168 3 1, .keep [1, 2, 3] [2, 3, 25, 144, 168]]) (.seq (.seq (.reg law03_C_Of_r2 [.keep [1, 2, 3, 4] [2, 3, 25, 144, 168]]) (.block 0 law03_C_Of_l1)) (.seq (.reg law03_C_Of_r6 [.keep [1, 2, 3, 5] [2, 3, 25, 144, 168]]) (.seq (.reg law03_C_Of_r7 [.keep [1, 2, 3, 5, 6] [2, 3, 25, 144, 168]]) (.seq (.seq (.reg law03_C_Of_r8 [.keep [1, 2, 3, 5, 6, 7] [2, 3, 25, 144, 168]]) (.block 2 law03_C_Of_l3)) (.seq (.seq (.reg law03_C_Of_r12 [.keep [1, 2, 3, 5, 6, 47] [2, 3, 25, 144, 168]]) (.cond (.tmp 47) (.reg law03_C_Of_r13 [.keep [1, 2, 3, 5, 6] [2, 3, 25, 144, 168]]) .skip)) (.seq (.seq (.reg law03_C_Of_r14 [.keep [1, 2, 3, 5, 6, 8] [2, 3, 25, 144, 168]]) (.block 4 law03_C_Of_l5)) (.seq (.reg law03_C_Of_r18 [.keep [1, 2, 3, 5, 6, 9] [2, 3, 25, 144, 168]]) (.seq (.seq (.reg law03_C_Of_r19 [.keep [1, 2, 3, 5, 6, 9, 10] [2, 3, 25, 144, 168]]) (.block 6 law03_C_Of_l7)) (.seq (.seq (.reg law03_C_Of_r23 [.keep [1, 2, 3, 9, 104] [2, 3, 25, 144, 168]]) (.cond (.tmp 104) (.reg law03_C_Of_r24 [.keep [1, 2, 3, 9] [2, 3, 25, 144, 168]]) .skip)) (.seq (.seq (.reg law03_C_Of_r25 [.keep [1, 2, 3, 9, 11] [2, 3, 25, 144, 168]]) (.block 8 law03_C_Of_l9)) (.seq (.seq (.reg law03_C_Of_r29 [.keep [1, 2, 3, 9, 12] [2, 3, 25, 144, 168]]) (.block 10 law03_C_Of_l11)) (.seq (.reg law03_C_Of_r33 [.keep [2, 3] [2, 3, 25, 144, 168]]) (.seq (.reg law03_C_Of_r34 [.keep [2] [2, 25, 144, 168]]) .ret)))))))))))))))
@[simp ↓] theorem law03_C_Of_g0_run : run P Γ law03_C_Of_g0 Q s = run P Γ (.gh (.seq (.seq (.reg law03_C_Of_r3 [.keep [1, 2, 3, 4, 18] [2, 3, 25, 144, 168]]) (.cond (.tmp 18) .skip (.exit 0))) (.seq (.block 1 (.reg law03_C_Of_r5 [.keep [1, 2, 3, 4] [2, 3, 25, 144, 168]])) (.reg law03_C_Of_r4 [.keep [1, 2, 3, 4] [2, 3, 25, 144, 168]]))) [.keep [1, 2, 3, 4] [2, 3, 25, 144, 168]]) Q s := Eq.trans rfl rfl
@[simp ↓] theorem law03_C_Of_g2_run : run P Γ law03_C_Of_g2 Q s = run P Γ (.gh (.seq (.seq (.reg law03_C_Of_r9 [.keep [1, 2, 3, 5, 6, 7, 36] [2, 3, 25, 144, 168]]) (.cond (.tmp 36) .skip (.exit 2))) (.seq (.block 3 (.reg law03_C_Of_r11 [.keep [1, 2, 3, 5, 6, 7] [2, 3, 25, 144, 168]])) (.reg law03_C_Of_r10 [.keep [1, 2, 3, 5, 6, 7] [2, 3, 25, 144, 168]]))) [.keep [1, 2, 3, 5, 6, 7] [2, 3, 25, 144, 168]]) Q s := Eq.trans rfl rfl
@[simp ↓] theorem law03_C_Of_g4_run : run P Γ law03_C_Of_g4 Q s = run P Γ (.gh (.seq (.seq (.reg law03_C_Of_r15 [.keep [1, 2, 3, 5, 6, 8, 63] [2, 3, 25, 144, 168]]) (.cond (.tmp 63) .skip (.exit 4))) (.seq (.block 5 (.reg law03_C_Of_r17 [.keep [1, 2, 3, 5, 6, 8] [2, 3, 25, 144, 168]])) (.reg law03_C_Of_r16 [.keep [1, 2, 3, 5, 6, 8] [2, 3, 25, 144, 168]]))) [.keep [1, 2, 3, 5, 6, 8] [2, 3, 25, 144, 168]]) Q s := Eq.trans rfl rfl
@[simp ↓] theorem law03_C_Of_g6_run : run P Γ law03_C_Of_g6 Q s = run P Γ (.gh (.seq (.seq (.reg law03_C_Of_r20 [.keep [1, 2, 3, 5, 6, 9, 10, 85] [2, 3, 25, 144, 168]]) (.cond (.tmp 85) .skip (.exit 6))) (.seq (.block 7 (.reg law03_C_Of_r22 [.keep [1, 2, 3, 5, 6, 9, 10] [2, 3, 25, 144, 168]])) (.reg law03_C_Of_r21 [.keep [1, 2, 3, 5, 6, 9, 10] [2, 3, 25, 144, 168]]))) [.keep [1, 2, 3, 5, 6, 9, 10] [2, 3, 25, 144, 168]]) Q s := Eq.trans rfl rfl
@[simp ↓] theorem law03_C_Of_g8_run : run P Γ law03_C_Of_g8 Q s = run P Γ (.gh (.seq (.seq (.reg law03_C_Of_r26 [.keep [1, 2, 3, 9, 11, 136] [2, 3, 25, 144, 168]]) (.cond (.tmp 136) .skip (.exit 8))) (.seq (.block 9 (.reg law03_C_Of_r28 [.keep [1, 2, 3, 9, 11] [2, 3, 25, 144, 168]])) (.reg law03_C_Of_r27 [.keep [1, 2, 3, 9, 11] [2, 3, 25, 144, 168]]))) [.keep [1, 2, 3, 9, 11] [2, 3, 25, 144, 168]]) Q s := Eq.trans rfl rfl
@[simp ↓] theorem law03_C_Of_g10_run : run P Γ law03_C_Of_g10 Q s = run P Γ (.gh (.seq (.seq (.reg law03_C_Of_r30 [.keep [1, 2, 3, 9, 12, 154] [2, 3, 25, 144, 168]]) (.cond (.tmp 154) .skip (.exit 10))) (.seq (.block 11 (.reg law03_C_Of_r32 [.keep [1, 2, 3, 9, 12] [2, 3, 25, 144, 168]])) (.reg law03_C_Of_r31 [.keep [1, 2, 3, 9, 12] [2, 3, 25, 144, 168]]))) [.keep [1, 2, 3, 9, 12] [2, 3, 25, 144, 168]]) Q s := Eq.trans rfl rfl
@[simp ↓] theorem law03_C_Of_ic_run : run P Γ law03_C_Of_ic Q s = run P Γ (.seq (.reg law03_C_Of_r0 [.keep [1, 2] [2, 25, 144, 168]]) (.seq (.reg law03_C_Of_r1 [.nlb 3 0 25 48 4, .nlb 3 1 144 9 1, .nlb 3 3 168 3 1, .keep [1, 2, 3] [2, 3, 25, 144, 168]]) (.seq (.seq (.reg law03_C_Of_r2 [.keep [1, 2, 3, 4] [2, 3, 25, 144, 168]]) (.block 0 law03_C_Of_l1)) (.seq (.reg law03_C_Of_r6 [.keep [1, 2, 3, 5] [2, 3, 25, 144, 168]]) (.seq (.reg law03_C_Of_r7 [.keep [1, 2, 3, 5, 6] [2, 3, 25, 144, 168]]) (.seq (.seq (.reg law03_C_Of_r8 [.keep [1, 2, 3, 5, 6, 7] [2, 3, 25, 144, 168]]) (.block 2 law03_C_Of_l3)) (.seq (.seq (.reg law03_C_Of_r12 [.keep [1, 2, 3, 5, 6, 47] [2, 3, 25, 144, 168]]) (.cond (.tmp 47) (.reg law03_C_Of_r13 [.keep [1, 2, 3, 5, 6] [2, 3, 25, 144, 168]]) .skip)) (.seq (.seq (.reg law03_C_Of_r14 [.keep [1, 2, 3, 5, 6, 8] [2, 3, 25, 144, 168]]) (.block 4 law03_C_Of_l5)) (.seq (.reg law03_C_Of_r18 [.keep [1, 2, 3, 5, 6, 9] [2, 3, 25, 144, 168]]) (.seq (.seq (.reg law03_C_Of_r19 [.keep [1, 2, 3, 5, 6, 9, 10] [2, 3, 25, 144, 168]]) (.block 6 law03_C_Of_l7)) (.seq (.seq (.reg law03_C_Of_r23 [.keep [1, 2, 3, 9, 104] [2, 3, 25, 144, 168]]) (.cond (.tmp 104) (.reg law03_C_Of_r24 [.keep [1, 2, 3, 9] [2, 3, 25, 144, 168]]) .skip)) (.seq (.seq (.reg law03_C_Of_r25 [.keep [1, 2, 3, 9, 11] [2, 3, 25, 144, 168]]) (.block 8 law03_C_Of_l9)) (.seq (.seq (.reg law03_C_Of_r29 [.keep [1, 2, 3, 9, 12] [2, 3, 25, 144, 168]]) (.block 10 law03_C_Of_l11)) (.seq (.reg law03_C_Of_r33 [.keep [2, 3] [2, 3, 25, 144, 168]]) (.seq (.reg law03_C_Of_r34 [.keep [2] [2, 25, 144, 168]]) .ret))))))))))))))) Q s := Eq.trans rfl rfl
theorem law03_C_Of_l1_run (h : ∀ K : St → Prop, K = run P Γ law03_C_Of_l1 Q → run P Γ law03_C_Of_g0 (thenX K Q) s) : run P Γ law03_C_Of_l1 Q s := run_loop h
theorem law03_C_Of_l3_run (h : ∀ K : St → Prop, K = run P Γ law03_C_Of_l3 Q → run P Γ law03_C_Of_g2 (thenX K Q) s) : run P Γ law03_C_Of_l3 Q s := run_loop h
theorem law03_C_Of_l5_run (h : ∀ K : St → Prop, K = run P Γ law03_C_Of_l5 Q → run P Γ law03_C_Of_g4 (thenX K Q) s) : run P Γ law03_C_Of_l5 Q s := run_loop h
theorem law03_C_Of_l7_run (h : ∀ K : St → Prop, K = run P Γ law03_C_Of_l7 Q → run P Γ law03_C_Of_g6 (thenX K Q) s) : run P Γ law03_C_Of_l7 Q s := run_loop h
theorem law03_C_Of_l9_run (h : ∀ K : St → Prop, K = run P Γ law03_C_Of_l9 Q → run P Γ law03_C_Of_g8 (thenX K Q) s) : run P Γ law03_C_Of_l9 Q s := run_loop h
theorem law03_C_Of_l11_run (h : ∀ K : St → Prop, K = run P Γ law03_C_Of_l11 Q → run P Γ law03_C_Of_g10 (thenX K Q) s) : run P Γ law03_C_Of_l11 Q s := run_loop h
attribute [simp] law03_C_Of_r0 law03_C_Of_r1 law03_C_Of_r2 law03_C_Of_r3 law03_C_Of_r5 law03_C_Of_r4 law03_C_Of_r6 law03_C_Of_r7 law03_C_Of_r8 law03_C_Of_r9 law03_C_Of_r11 law03_C_Of_r10 law03_C_Of_r12 law03_C_Of_r13 law03_C_Of_r14 law03_C_Of_r15 law03_C_Of_r17 law03_C_Of_r16 law03_C_Of_r18 law03_C_Of_r19 law03_C_Of_r20 law03_C_Of_r22 law03_C_Of_r21 law03_C_Of_r23 law03_C_Of_r24 law03_C_Of_r25 law03_C_Of_r26 law03_C_Of_r28 law03_C_Of_r27 law03_C_Of_r29 law03_C_Of_r30 law03_C_Of_r32 law03_C_Of_r31 law03_C_Of_r33 law03_C_Of_r34
def law03_C_Of_rv : List RV := [.cell 2 4 true]

/- probecard/scans.Balance (function 13) -/
def scans_Balance_r0 : List RO := [
    ⟨some 2, .box true (.tmp 0), none, none⟩,
    ⟨some 4, .mv (.const (.slice none 0 0)), none, none⟩,
    ⟨some 5, .mv (.const (.int .i64 0)), none, none⟩]
def scans_Balance_r1 : List RO := [
    ⟨some 11, .load 4 true (.tmp 2), none, none⟩,
    ⟨some 12, .call 41 [(.tmp 11)], none, none⟩,
    ⟨some 6, .mv (.tmp 12), none, none⟩]
def scans_Balance_r2 : List RO := [
    ⟨some 14, .mv (.tmp 6), none, none⟩,
    ⟨some 15, .bin .neq (.tmp 14) (.const (.int .i64 0)), none, none⟩,
    ⟨some 13, .mv (.tmp 15), none, none⟩]
def scans_Balance_r3 : List RO := [
    ⟨some 16, .mv (.tmp 6), none, none⟩,
    ⟨some 4, .mv (.const (.slice none 0 0)), none, none⟩,
    ⟨some 5, .mv (.tmp 16), none, none⟩]
def scans_Balance_r4 : List RO := [
    ⟨some 18, .mv (.tmp 1), none, none⟩,
    ⟨some 19, .bin .lss (.tmp 18) (.const (.int .i64 1)), none, none⟩,
    ⟨some 17, .mv (.tmp 19), none, none⟩]
def scans_Balance_r5 : List RO := [
    ⟨some 4, .mv (.const (.slice none 0 0)), none, none⟩,
    ⟨some 5, .mv (.const (.int .i64 1)), none, none⟩]
def scans_Balance_r6 : List RO := [
    ⟨some 21, .mv (.tmp 1), none, none⟩,
    ⟨some 22, .bin .gtr (.tmp 21) (.const (.int .i64 64)), none, none⟩,
    ⟨some 20, .mv (.tmp 22), none, none⟩]
def scans_Balance_r7 : List RO := [
    ⟨some 4, .mv (.const (.slice none 0 0)), none, none⟩,
    ⟨some 5, .mv (.const (.int .i64 3)), none, none⟩]
def scans_Balance_r8 : List RO := [
    ⟨some 23, .load 4 true (.tmp 2), none, none⟩,
    ⟨some 24, .call 17 [(.tmp 23)], none, none⟩,
    ⟨some 7, .mv (.tmp 24), none, none⟩]
def scans_Balance_r9 : List RO := [
    ⟨some 25, .mv (.tmp 1), none, none⟩,
    ⟨some 26, .mv (.tmp 7), none, none⟩,
    ⟨some 27, .len 0 (.tmp 26), none, none⟩,
    ⟨some 28, .mmx false [(.tmp 25), (.tmp 27)], none, none⟩,
    ⟨some 1, .mv (.tmp 28), none, none⟩]
def scans_Balance_r10 : List RO := [
    ⟨some 8, .mv (.const (.slice none 0 0)), none, none⟩]
def scans_Balance_r11 : List RO := [
    ⟨some 29, .mv (.tmp 1), none, none⟩,
    ⟨some 30, .mv (.const (.int .i64 0)), none, none⟩]
def scans_Balance_r12 : List RO := [
    ⟨some 31, .bin .lss (.tmp 30) (.tmp 29), none, none⟩]
def scans_Balance_r13 : List RO := [
    ⟨some 32, .mv (.tmp 30), none, none⟩,
    ⟨some 9, .mv (.tmp 32), none, none⟩]
def scans_Balance_r14 : List RO := [
    ⟨some 33, .mv (.tmp 7), none, none⟩,
    ⟨some 34, .len 0 (.tmp 33), none, none⟩,
    ⟨some 35, .mv (.tmp 1), none, none⟩,
    ⟨some 36, .mv (.tmp 9), none, none⟩,
    ⟨some 37, .bin .sub (.tmp 35) (.tmp 36), none, none⟩,
    ⟨some 38, .bin .quo (.tmp 34) (.tmp 37), none, none⟩,
    ⟨some 10, .mv (.tmp 38), none, none⟩]
def scans_Balance_r15 : List RO := [
    ⟨some 39, .mv (.tmp 7), none, none⟩,
    ⟨some 40, .len 0 (.tmp 39), none, none⟩,
    ⟨some 41, .mv (.tmp 1), none, none⟩,
    ⟨some 42, .mv (.tmp 9), none, none⟩,
    ⟨some 43, .bin .sub (.tmp 41) (.tmp 42), none, none⟩,
    ⟨some 44, .bin .rem (.tmp 40) (.tmp 43), none, none⟩,
    ⟨some 45, .bin .gtr (.tmp 44) (.const (.int .i64 0)), none, none⟩]
def scans_Balance_r16 : List RO := [
    ⟨some 46, .mv (.tmp 10), none, none⟩,
    ⟨some 47, .bin .add (.tmp 46) (.const (.int .i64 1)), none, none⟩,
    ⟨some 10, .mv (.tmp 47), none, none⟩]
def scans_Balance_r17 : List RO := [
    ⟨some 48, .mv (.tmp 8), none, none⟩,
    ⟨some 49, .mv (.tmp 7), none, none⟩,
    ⟨some 50, .mv (.tmp 10), none, none⟩,
    ⟨some 51, .slice 1 (.tmp 49) none (some (.tmp 50)) none, none, none⟩,
    ⟨some 52, .call 43 [(.tmp 51)], none, none⟩,
    ⟨some 53, .call 42 [(.tmp 52)], none, none⟩,
    ⟨some 54, .bsl true 31 1 [(.tmp 53)], none, none⟩,
    ⟨some 55, .app false 31 1 (.tmp 48) (.tmp 54), none, none⟩,
    ⟨some 8, .mv (.tmp 55), none, none⟩]
def scans_Balance_r18 : List RO := [
    ⟨some 56, .mv (.tmp 7), none, none⟩,
    ⟨some 57, .mv (.tmp 10), none, none⟩,
    ⟨some 58, .slice 1 (.tmp 56) (some (.tmp 57)) none none, none, none⟩,
    ⟨some 7, .mv (.tmp 58), none, none⟩]
def scans_Balance_r19 : List RO := [
    ⟨some 59, .bin .add (.tmp 30) (.const (.int .i64 1)), none, none⟩,
    ⟨some 30, .mv (.tmp 59), none, none⟩]
def scans_Balance_g0 : IC := .gh (.seq (.reg scans_Balance_r12 [.keep [1, 7, 8, 29, 30, 31] [55]]) (.seq (.cond (.tmp 31) .skip (.exit 1)) (.seq (.block 2 (.seq (.reg scans_Balance_r13 [.keep [1, 7, 8, 9, 29, 30] [55]]) (.seq (.reg scans_Balance_r14 [.keep [1, 7, 8, 9, 10, 29, 30] [55]]) (.seq (.seq (.reg scans_Balance_r15 [.keep [1, 7, 8, 10, 29, 30, 45] [55]]) (.cond (.tmp 45) (.reg scans_Balance_r16 [.keep [1, 7, 8, 10, 29, 30] [55]]) .skip)) (.seq (.reg scans_Balance_r17 [.keep [1, 7, 8, 10, 29, 30] [55]]) (.reg scans_Balance_r18 [.keep [1, 7, 8, 29, 30] [55]])))))) (.reg scans_Balance_r19 [.keep [1, 7, 8, 29, 30] [55]])))) [.keep [1, 7, 8, 29, 30] [55]]
def scans_Balance_l1 : IC := .loop scans_Balance_g0
def scans_Balance_r20 : List RO := [
    ⟨some 60, .mv (.tmp 8), none, none⟩,
    ⟨some 61, .call 44 [(.tmp 60)], none, none⟩,
    ⟨some 4, .mv (.tmp 61), none, none⟩,
    ⟨some 5, .mv (.const (.int .i64 0)), none, none⟩]
def scans_Balance_ic : IC := (.seq (.reg scans_Balance_r0 [.keep [1, 2] []]) (.seq (.seq (.reg scans_Balance_r1 [.keep [1, 2, 6] []]) (.block 0 (.seq (.reg scans_Balance_r2 [.keep [1, 2, 6, 13] []]) (.cond (.tmp 13) (.seq (.reg scans_Balance_r3 [.keep [4, 5] []]) .ret) (.seq (.reg scans_Balance_r4 [.keep [1, 2, 17] []]) (.cond (.tmp 17) (.seq (.reg scans_Balance_r5 [.keep [4, 5] []]) .ret) (.seq (.reg scans_Balance_r6 [.keep [1, 2, 20] []]) (.cond (.tmp 20) (.seq (.reg scans_Balance_r7 [.keep [4, 5] []]) .ret) .skip)))))))) (.seq (.reg scans_Balance_r8 [.keep [1, 7] []]) (.seq (.reg scans_Balance_r9 [.keep [1, 7] []]) (.seq (.reg scans_Balance_r10 [.nl 8 55 31 1, .keep [1, 7, 8] [55]]) (.seq (.seq (.reg scans_Balance_r11 [.keep [1, 7, 8, 29, 30] [55]]) (.gh (.block 1 scans_Balance_l1) [.frz 55])) (.seq (.reg scans_Balance_r20 [.keep [4, 5] []]) .ret)))))))
@[simp ↓] theorem scans_Balance_g0_run : run P Γ scans_Balance_g0 Q s = run P Γ (.gh (.seq (.reg scans_Balance_r12 [.keep [1, 7, 8, 29, 30, 31] [55]]) (.seq (.cond (.tmp 31) .skip (.exit 1)) (.seq (.block 2 (.seq (.reg scans_Balance_r13 [.keep [1, 7, 8, 9, 29, 30] [55]]) (.seq (.reg scans_Balance_r14 [.keep [1, 7, 8, 9, 10, 29, 30] [55]]) (.seq (.seq (.reg scans_Balance_r15 [.keep [1, 7, 8, 10, 29, 30, 45] [55]]) (.cond (.tmp 45) (.reg scans_Balance_r16 [.keep [1, 7, 8, 10, 29, 30] [55]]) .skip)) (.seq (.reg scans_Balance_r17 [.keep [1, 7, 8, 10, 29, 30] [55]]) (.reg scans_Balance_r18 [.keep [1, 7, 8, 29, 30] [55]])))))) (.reg scans_Balance_r19 [.keep [1, 7, 8, 29, 30] [55]])))) [.keep [1, 7, 8, 29, 30] [55]]) Q s := Eq.trans rfl rfl
@[simp ↓] theorem scans_Balance_ic_run : run P Γ scans_Balance_ic Q s = run P Γ (.seq (.reg scans_Balance_r0 [.keep [1, 2] []]) (.seq (.seq (.reg scans_Balance_r1 [.keep [1, 2, 6] []]) (.block 0 (.seq (.reg scans_Balance_r2 [.keep [1, 2, 6, 13] []]) (.cond (.tmp 13) (.seq (.reg scans_Balance_r3 [.keep [4, 5] []]) .ret) (.seq (.reg scans_Balance_r4 [.keep [1, 2, 17] []]) (.cond (.tmp 17) (.seq (.reg scans_Balance_r5 [.keep [4, 5] []]) .ret) (.seq (.reg scans_Balance_r6 [.keep [1, 2, 20] []]) (.cond (.tmp 20) (.seq (.reg scans_Balance_r7 [.keep [4, 5] []]) .ret) .skip)))))))) (.seq (.reg scans_Balance_r8 [.keep [1, 7] []]) (.seq (.reg scans_Balance_r9 [.keep [1, 7] []]) (.seq (.reg scans_Balance_r10 [.nl 8 55 31 1, .keep [1, 7, 8] [55]]) (.seq (.seq (.reg scans_Balance_r11 [.keep [1, 7, 8, 29, 30] [55]]) (.gh (.block 1 scans_Balance_l1) [.frz 55])) (.seq (.reg scans_Balance_r20 [.keep [4, 5] []]) .ret))))))) Q s := Eq.trans rfl rfl
theorem scans_Balance_l1_run (h : ∀ K : St → Prop, K = run P Γ scans_Balance_l1 Q → run P Γ scans_Balance_g0 (thenX K Q) s) : run P Γ scans_Balance_l1 Q s := run_loop h
attribute [simp] scans_Balance_r0 scans_Balance_r1 scans_Balance_r2 scans_Balance_r3 scans_Balance_r4 scans_Balance_r5 scans_Balance_r6 scans_Balance_r7 scans_Balance_r8 scans_Balance_r9 scans_Balance_r10 scans_Balance_r11 scans_Balance_r12 scans_Balance_r13 scans_Balance_r14 scans_Balance_r15 scans_Balance_r16 scans_Balance_r17 scans_Balance_r18 scans_Balance_r19 scans_Balance_r20
def scans_Balance_rv : List RV := [.tmp 4, .tmp 5]

/- probecard/netlists.Check (function 14) -/
def netlists_Check_r0 : List RO := [
    ⟨some 1, .box true (.tmp 0), none, none⟩,
    ⟨some 2, .mv (.const (.int .i64 0)), none, none⟩]
def netlists_Check_r1 : List RO := [
    ⟨some 6, .load 4 true (.tmp 1), none, none⟩,
    ⟨some 7, .call 45 [(.tmp 6)], none, none⟩,
    ⟨some 5, .mv (.tmp 7), none, none⟩,
    ⟨some 8, .ext (.tmp 5) 0, none, none⟩,
    ⟨some 9, .ext (.tmp 5) 1, none, none⟩,
    ⟨some 3, .mv (.tmp 8), none, none⟩,
    ⟨some 4, .mv (.tmp 9), none, none⟩]
def netlists_Check_r2 : List RO := [
    ⟨some 10, .mv (.tmp 4), none, none⟩,
    ⟨some 2, .mv (.tmp 10), none, none⟩]
def netlists_Check_ic : IC := (.seq (.reg netlists_Check_r0 [.keep [1] []]) (.seq (.reg netlists_Check_r1 [.keep [4] []]) (.seq (.reg netlists_Check_r2 [.keep [2] []]) .ret)))
@[simp ↓] theorem netlists_Check_ic_run : run P Γ netlists_Check_ic Q s = run P Γ (.seq (.reg netlists_Check_r0 [.keep [1] []]) (.seq (.reg netlists_Check_r1 [.keep [4] []]) (.seq (.reg netlists_Check_r2 [.keep [2] []]) .ret))) Q s := Eq.trans rfl rfl
attribute [simp] netlists_Check_r0 netlists_Check_r1 netlists_Check_r2
def netlists_Check_rv : List RV := [.tmp 2]

/- probecard/netlists.Of (function 15) -/
def netlists_Of_r0 : List RO := [
    ⟨some 2, .box true (.tmp 0), none, none⟩,
    ⟨some 4, .mv (.const (.slice none 0 0)), none, none⟩]
def netlists_Of_r1 : List RO := [
    ⟨some 5, .mv (.const (.slice none 0 0)), none, none⟩]
def netlists_Of_r2 : List RO := [
    ⟨some 8, .fadr 0 (.tmp 2), none, none⟩,
    ⟨some 9, .load 1 false (.tmp 8), none, none⟩,
    ⟨some 10, .len 0 (.tmp 9), none, none⟩,
    ⟨some 11, .mv (.const (.int .i64 0)), none, none⟩]
def netlists_Of_r3 : List RO := [
    ⟨some 12, .bin .lss (.tmp 11) (.tmp 10), none, none⟩]
def netlists_Of_r4 : List RO := [
    ⟨some 13, .mv (.tmp 11), none, none⟩,
    ⟨some 14, .iadr 4 (.tmp 9) (.tmp 11), none, none⟩,
    ⟨some 15, .load 4 true (.tmp 14), none, none⟩,
    ⟨some 7, .alloc false [(.int .u8 0), (.slice none 0 0), (.int .i64 0), (.int .i64 0)], none, none⟩,
    ⟨some 6, .mv (.tmp 13), none, none⟩,
    ⟨none, .store 4 (.tmp 7) (.tmp 15), none, none⟩]
def netlists_Of_r5 : List RO := [
    ⟨some 16, .mv (.tmp 1), none, none⟩,
    ⟨some 17, .fadr 0 (.tmp 7), none, none⟩,
    ⟨some 18, .load 1 false (.tmp 17), none, none⟩,
    ⟨some 19, .call 46 [(.tmp 16), (.tmp 18)], none, none⟩]
def netlists_Of_r6 : List RO := [
    ⟨some 20, .mv (.tmp 5), none, none⟩,
    ⟨some 21, .mv (.tmp 6), none, none⟩,
    ⟨some 22, .bsl true 3 1 [(.tmp 21)], none, none⟩,
    ⟨some 23, .app false 3 1 (.tmp 20) (.tmp 22), none, none⟩,
    ⟨some 5, .mv (.tmp 23), none, none⟩]
def netlists_Of_r7 : List RO := [
    ⟨some 24, .bin .add (.tmp 11) (.const (.int .i64 1)), none, none⟩,
    ⟨some 11, .mv (.tmp 24), none, none⟩]
def netlists_Of_g0 : IC := .gh (.seq (.reg netlists_Of_r3 [.keep [1, 5, 9, 10, 11, 12] [23]]) (.seq (.cond (.tmp 12) .skip (.exit 0)) (.seq (.block 1 (.seq (.reg netlists_Of_r4 [.keep [1, 5, 6, 7, 9, 10, 11] [7, 23]]) (.seq (.reg netlists_Of_r5 [.keep [1, 5, 6, 9, 10, 11, 19] [23]]) (.cond (.tmp 19) (.reg netlists_Of_r6 [.keep [1, 5, 9, 10, 11] [23]]) .skip)))) (.reg netlists_Of_r7 [.keep [1, 5, 9, 10, 11] [23]])))) [.keep [1, 5, 9, 10, 11] [23]]
def netlists_Of_l1 : IC := .loop netlists_Of_g0
def netlists_Of_r8 : List RO := [
    ⟨some 25, .mv (.tmp 5), none, none⟩,
    ⟨some 26, .hcall 42 [(.tmp 25)] [23] 26000, none, none⟩,
    ⟨some 4, .mv (.tmp 26), none, none⟩]
def netlists_Of_ic : IC := (.seq (.reg netlists_Of_r0 [.keep [1, 2] []]) (.seq (.reg netlists_Of_r1 [.nl 5 23 3 1, .keep [1, 2, 5] [23]]) (.seq (.seq (.reg netlists_Of_r2 [.keep [1, 5, 9, 10, 11] [23]]) (.block 0 netlists_Of_l1)) (.seq (.reg netlists_Of_r8 [.keep [4] [23]]) .ret))))
@[simp ↓] theorem netlists_Of_g0_run : run P Γ netlists_Of_g0 Q s = run P Γ (.gh (.seq (.reg netlists_Of_r3 [.keep [1, 5, 9, 10, 11, 12] [23]]) (.seq (.cond (.tmp 12) .skip (.exit 0)) (.seq (.block 1 (.seq (.reg netlists_Of_r4 [.keep [1, 5, 6, 7, 9, 10, 11] [7, 23]]) (.seq (.reg netlists_Of_r5 [.keep [1, 5, 6, 9, 10, 11, 19] [23]]) (.cond (.tmp 19) (.reg netlists_Of_r6 [.keep [1, 5, 9, 10, 11] [23]]) .skip)))) (.reg netlists_Of_r7 [.keep [1, 5, 9, 10, 11] [23]])))) [.keep [1, 5, 9, 10, 11] [23]]) Q s := Eq.trans rfl rfl
@[simp ↓] theorem netlists_Of_ic_run : run P Γ netlists_Of_ic Q s = run P Γ (.seq (.reg netlists_Of_r0 [.keep [1, 2] []]) (.seq (.reg netlists_Of_r1 [.nl 5 23 3 1, .keep [1, 2, 5] [23]]) (.seq (.seq (.reg netlists_Of_r2 [.keep [1, 5, 9, 10, 11] [23]]) (.block 0 netlists_Of_l1)) (.seq (.reg netlists_Of_r8 [.keep [4] [23]]) .ret)))) Q s := Eq.trans rfl rfl
theorem netlists_Of_l1_run (h : ∀ K : St → Prop, K = run P Γ netlists_Of_l1 Q → run P Γ netlists_Of_g0 (thenX K Q) s) : run P Γ netlists_Of_l1 Q s := run_loop h
attribute [simp] netlists_Of_r0 netlists_Of_r1 netlists_Of_r2 netlists_Of_r3 netlists_Of_r4 netlists_Of_r5 netlists_Of_r6 netlists_Of_r7 netlists_Of_r8
def netlists_Of_rv : List RV := [.tmp 4]

/- probecard/probecardlaw34.lives (function 16) -/
def law34_lives_r0 : List RO := [
    ⟨some 0, .mv (.const (.bool false)), none, none⟩]
def law34_lives_r1 : List RO := [
    ⟨some 9, .call 47 [(.const (.int .i64 5))], none, none⟩,
    ⟨some 10, .call 13 [(.tmp 9), (.const (.int .i64 2))], none, none⟩,
    ⟨some 8, .mv (.tmp 10), none, none⟩,
    ⟨some 11, .ext (.tmp 8) 0, none, none⟩,
    ⟨some 12, .ext (.tmp 8) 1, none, none⟩,
    ⟨some 1, .mv (.tmp 11), none, none⟩,
    ⟨some 2, .mv (.tmp 12), none, none⟩]
def law34_lives_r2 : List RO := [
    ⟨some 13, .build [(1, (.const (.int .i64 0))), (1, (.const (.int .i64 0)))], none, none⟩,
    ⟨some 14, .build [(1, (.const (.int .i64 5))), (1, (.const (.int .i64 0)))], none, none⟩,
    ⟨some 15, .build [(1, (.const (.int .i64 1))), (1, (.const (.int .i64 0)))], none, none⟩,
    ⟨some 16, .bsl true 93 2 [(.tmp 13), (.tmp 14), (.tmp 15)], none, none⟩,
    ⟨some 3, .mv (.tmp 16), none, none⟩]
def law34_lives_r3 : List RO := [
    ⟨some 18, .call 47 [(.const (.int .i64 3))], none, none⟩,
    ⟨some 19, .bsl true 3 1 [(.const (.int .i64 1)), (.const (.int .i64 2)), (.const (.int .i64 3))], none, none⟩,
    ⟨some 20, .bsl true 31 1 [(.tmp 19)], none, none⟩,
    ⟨some 21, .mv (.tmp 3), none, none⟩,
    ⟨some 22, .call 21 [(.tmp 18), (.tmp 20), (.tmp 21)], none, none⟩,
    ⟨some 17, .mv (.tmp 22), none, none⟩,
    ⟨some 23, .ext (.tmp 17) 0, none, none⟩,
    ⟨some 24, .ext (.tmp 17) 1, none, none⟩,
    ⟨some 4, .mv (.tmp 23), none, none⟩,
    ⟨some 5, .mv (.tmp 24), none, none⟩]
def law34_lives_r4 : List RO := [
    ⟨some 26, .call 47 [(.const (.int .i64 3))], none, none⟩,
    ⟨some 27, .bsl true 3 1 [(.const (.int .i64 1)), (.const (.int .i64 2)), (.const (.int .i64 3))], none, none⟩,
    ⟨some 28, .bsl true 31 1 [(.tmp 27)], none, none⟩,
    ⟨some 29, .mv (.tmp 3), none, none⟩,
    ⟨some 30, .call 22 [(.tmp 26), (.tmp 28), (.tmp 29)], none, none⟩,
    ⟨some 25, .mv (.tmp 30), none, none⟩,
    ⟨some 31, .ext (.tmp 25) 0, none, none⟩,
    ⟨some 32, .ext (.tmp 25) 1, none, none⟩,
    ⟨some 6, .mv (.tmp 31), none, none⟩,
    ⟨some 7, .mv (.tmp 32), none, none⟩]
def law34_lives_r5 : List RO := [
    ⟨some 33, .mv (.tmp 2), none, none⟩,
    ⟨some 34, .bin .neq (.tmp 33) (.const (.int .i64 0)), none, none⟩,
    ⟨some 35, .mv (.tmp 34), none, none⟩,
    ⟨some 36, .mv (.tmp 5), some (35, false), none⟩,
    ⟨some 37, .bin .neq (.tmp 36) (.const (.int .i64 0)), some (35, false), none⟩,
    ⟨some 38, .pick (.tmp 35) (.const (.bool true)) (.tmp 37), none, none⟩,
    ⟨some 39, .mv (.tmp 38), none, none⟩,
    ⟨some 40, .mv (.tmp 7), some (39, false), none⟩,
    ⟨some 41, .bin .neq (.tmp 40) (.const (.int .i64 0)), some (39, false), none⟩,
    ⟨some 42, .pick (.tmp 39) (.const (.bool true)) (.tmp 41), none, none⟩,
    ⟨some 43, .mv (.tmp 42), none, none⟩,
    ⟨some 44, .mv (.tmp 1), some (43, false), none⟩,
    ⟨some 45, .len 0 (.tmp 44), some (43, false), none⟩,
    ⟨some 46, .bin .neq (.tmp 45) (.const (.int .i64 2)), some (43, false), none⟩,
    ⟨some 47, .pick (.tmp 43) (.const (.bool true)) (.tmp 46), none, none⟩,
    ⟨some 48, .mv (.tmp 47), none, none⟩,
    ⟨some 49, .mv (.tmp 1), some (48, false), none⟩,
    ⟨some 50, .iadr 1 (.tmp 49) (.const (.int .i64 0)), some (48, false), none⟩,
    ⟨some 51, .load 1 false (.tmp 50), some (48, false), none⟩,
    ⟨some 52, .len 0 (.tmp 51), some (48, false), none⟩,
    ⟨some 53, .bin .neq (.tmp 52) (.const (.int .i64 3)), some (48, false), none⟩,
    ⟨some 54, .pick (.tmp 48) (.const (.bool true)) (.tmp 53), none, none⟩,
    ⟨some 55, .mv (.tmp 54), none, none⟩,
    ⟨some 56, .mv (.tmp 1), some (55, false), none⟩,
    ⟨some 57, .iadr 1 (.tmp 56) (.const (.int .i64 1)), some (55, false), none⟩,
    ⟨some 58, .load 1 false (.tmp 57), some (55, false), none⟩,
    ⟨some 59, .len 0 (.tmp 58), some (55, false), none⟩,
    ⟨some 60, .bin .neq (.tmp 59) (.const (.int .i64 2)), some (55, false), none⟩,
    ⟨some 61, .pick (.tmp 55) (.const (.bool true)) (.tmp 60), none, none⟩,
    ⟨some 62, .mv (.tmp 61), none, none⟩,
    ⟨some 63, .mv (.tmp 6), some (62, false), none⟩,
    ⟨some 64, .len 0 (.tmp 63), some (62, false), none⟩,
    ⟨some 65, .bin .neq (.tmp 64) (.const (.int .i64 1)), some (62, false), none⟩,
    ⟨some 66, .pick (.tmp 62) (.const (.bool true)) (.tmp 65), none, none⟩,
    ⟨some 67, .mv (.tmp 66), none, none⟩,
    ⟨some 68, .mv (.tmp 6), some (67, false), none⟩,
    ⟨some 69, .iadr 1 (.tmp 68) (.const (.int .i64 0)), some (67, false), none⟩,
    ⟨some 70, .load 1 false (.tmp 69), some (67, false), none⟩,
    ⟨some 71, .len 0 (.tmp 70), some (67, false), none⟩,
    ⟨some 72, .bin .neq (.tmp 71) (.const (.int .i64 3)), some (67, false), none⟩,
    ⟨some 73, .pick (.tmp 67) (.const (.bool true)) (.tmp 72), none, none⟩]
def law34_lives_r6 : List RO := [
    ⟨some 0, .mv (.const (.bool false)), none, none⟩]
def law34_lives_r7 : List RO := [
    ⟨some 74, .mv (.tmp 1), none, none⟩,
    ⟨some 75, .iadr 1 (.tmp 74) (.const (.int .i64 0)), none, none⟩,
    ⟨some 76, .load 1 false (.tmp 75), none, none⟩,
    ⟨some 77, .iadr 1 (.tmp 76) (.const (.int .i64 0)), none, none⟩,
    ⟨some 78, .load 1 false (.tmp 77), none, none⟩,
    ⟨some 79, .bin .eql (.tmp 78) (.const (.int .i64 1)), none, none⟩,
    ⟨some 80, .mv (.tmp 79), none, none⟩,
    ⟨some 81, .mv (.tmp 1), some (80, true), none⟩,
    ⟨some 82, .iadr 1 (.tmp 81) (.const (.int .i64 1)), some (80, true), none⟩,
    ⟨some 83, .load 1 false (.tmp 82), some (80, true), none⟩,
    ⟨some 84, .iadr 1 (.tmp 83) (.const (.int .i64 1)), some (80, true), none⟩,
    ⟨some 85, .load 1 false (.tmp 84), some (80, true), none⟩,
    ⟨some 86, .bin .eql (.tmp 85) (.const (.int .i64 5)), some (80, true), none⟩,
    ⟨some 87, .pick (.tmp 80) (.tmp 86) (.const (.bool false)), none, none⟩,
    ⟨some 88, .mv (.tmp 87), none, none⟩,
    ⟨some 89, .mv (.tmp 4), some (88, true), none⟩,
    ⟨some 90, .bin .eql (.tmp 89) (.const (.int .i64 9)), some (88, true), none⟩,
    ⟨some 91, .pick (.tmp 88) (.tmp 90) (.const (.bool false)), none, none⟩,
    ⟨some 92, .mv (.tmp 91), none, none⟩,
    ⟨some 93, .mv (.tmp 6), some (92, true), none⟩,
    ⟨some 94, .iadr 1 (.tmp 93) (.const (.int .i64 0)), some (92, true), none⟩,
    ⟨some 95, .load 1 false (.tmp 94), some (92, true), none⟩,
    ⟨some 96, .iadr 1 (.tmp 95) (.const (.int .i64 0)), some (92, true), none⟩,
    ⟨some 97, .load 1 false (.tmp 96), some (92, true), none⟩,
    ⟨some 98, .bin .eql (.tmp 97) (.const (.int .i64 2)), some (92, true), none⟩,
    ⟨some 99, .pick (.tmp 92) (.tmp 98) (.const (.bool false)), none, none⟩,
    ⟨some 100, .mv (.tmp 99), none, none⟩,
    ⟨some 101, .mv (.tmp 6), some (100, true), none⟩,
    ⟨some 102, .iadr 1 (.tmp 101) (.const (.int .i64 0)), some (100, true), none⟩,
    ⟨some 103, .load 1 false (.tmp 102), some (100, true), none⟩,
    ⟨some 104, .iadr 1 (.tmp 103) (.const (.int .i64 1)), some (100, true), none⟩,
    ⟨some 105, .load 1 false (.tmp 104), some (100, true), none⟩,
    ⟨some 106, .bin .eql (.tmp 105) (.const (.int .i64 3)), some (100, true), none⟩,
    ⟨some 107, .pick (.tmp 100) (.tmp 106) (.const (.bool false)), none, none⟩,
    ⟨some 108, .mv (.tmp 107), none, none⟩,
    ⟨some 109, .mv (.tmp 6), some (108, true), none⟩,
    ⟨some 110, .iadr 1 (.tmp 109) (.const (.int .i64 0)), some (108, true), none⟩,
    ⟨some 111, .load 1 false (.tmp 110), some (108, true), none⟩,
    ⟨some 112, .iadr 1 (.tmp 111) (.const (.int .i64 2)), some (108, true), none⟩,
    ⟨some 113, .load 1 false (.tmp 112), some (108, true), none⟩,
    ⟨some 114, .bin .eql (.tmp 113) (.const (.int .i64 1)), some (108, true), none⟩,
    ⟨some 115, .pick (.tmp 108) (.tmp 114) (.const (.bool false)), none, none⟩,
    ⟨some 0, .mv (.tmp 115), none, none⟩]
def law34_lives_ic : IC := (.seq (.reg law34_lives_r0 [.keep [] []]) (.seq (.reg law34_lives_r1 [.keep [1, 2] []]) (.seq (.reg law34_lives_r2 [.keep [1, 2, 3] []]) (.seq (.reg law34_lives_r3 [.keep [1, 2, 3, 4, 5] []]) (.seq (.reg law34_lives_r4 [.keep [1, 2, 4, 5, 6, 7] []]) (.seq (.seq (.reg law34_lives_r5 [.keep [1, 4, 6, 73] []]) (.cond (.tmp 73) (.seq (.reg law34_lives_r6 [.keep [0] []]) .ret) .skip)) (.seq (.reg law34_lives_r7 [.keep [0] []]) .ret)))))))
@[simp ↓] theorem law34_lives_ic_run : run P Γ law34_lives_ic Q s = run P Γ (.seq (.reg law34_lives_r0 [.keep [] []]) (.seq (.reg law34_lives_r1 [.keep [1, 2] []]) (.seq (.reg law34_lives_r2 [.keep [1, 2, 3] []]) (.seq (.reg law34_lives_r3 [.keep [1, 2, 3, 4, 5] []]) (.seq (.reg law34_lives_r4 [.keep [1, 2, 4, 5, 6, 7] []]) (.seq (.seq (.reg law34_lives_r5 [.keep [1, 4, 6, 73] []]) (.cond (.tmp 73) (.seq (.reg law34_lives_r6 [.keep [0] []]) .ret) .skip)) (.seq (.reg law34_lives_r7 [.keep [0] []]) .ret))))))) Q s := Eq.trans rfl rfl
attribute [simp] law34_lives_r0 law34_lives_r1 law34_lives_r2 law34_lives_r3 law34_lives_r4 law34_lives_r5 law34_lives_r6 law34_lives_r7
def law34_lives_rv : List RV := [.tmp 0]

/- probecard/netlists.States (function 17) -/
def netlists_States_r0 : List RO := [
    ⟨some 1, .box true (.tmp 0), none, none⟩,
    ⟨some 2, .mv (.const (.slice none 0 0)), none, none⟩]
def netlists_States_r1 : List RO := [
    ⟨some 3, .load 4 true (.tmp 1), none, none⟩,
    ⟨some 4, .bsl true 41 1 [(.const (.int .u8 14))], none, none⟩,
    ⟨some 5, .call 15 [(.tmp 3), (.tmp 4)], none, none⟩,
    ⟨some 2, .mv (.tmp 5), none, none⟩]
def netlists_States_ic : IC := (.seq (.reg netlists_States_r0 [.keep [1] []]) (.seq (.reg netlists_States_r1 [.keep [2] []]) .ret))
@[simp ↓] theorem netlists_States_ic_run : run P Γ netlists_States_ic Q s = run P Γ (.seq (.reg netlists_States_r0 [.keep [1] []]) (.seq (.reg netlists_States_r1 [.keep [2] []]) .ret)) Q s := Eq.trans rfl rfl
attribute [simp] netlists_States_r0 netlists_States_r1
def netlists_States_rv : List RV := [.tmp 2]

/- probecard/scans.Check (function 18) -/
def scans_Check_r0 : List RO := [
    ⟨some 2, .box true (.tmp 0), none, none⟩,
    ⟨some 4, .mv (.const (.int .i64 0)), none, none⟩]
def scans_Check_r1 : List RO := [
    ⟨some 11, .load 4 true (.tmp 2), none, none⟩,
    ⟨some 12, .call 41 [(.tmp 11)], none, none⟩,
    ⟨some 5, .mv (.tmp 12), none, none⟩]
def scans_Check_r2 : List RO := [
    ⟨some 13, .mv (.tmp 5), none, none⟩,
    ⟨some 14, .bin .neq (.tmp 13) (.const (.int .i64 0)), none, none⟩]
def scans_Check_r3 : List RO := [
    ⟨some 15, .mv (.tmp 5), none, none⟩,
    ⟨some 4, .mv (.tmp 15), none, none⟩]
def scans_Check_r4 : List RO := [
    ⟨some 16, .mv (.tmp 1), none, none⟩,
    ⟨some 17, .len 0 (.tmp 16), none, none⟩,
    ⟨some 18, .bin .gtr (.tmp 17) (.const (.int .i64 64)), none, none⟩]
def scans_Check_r5 : List RO := [
    ⟨some 4, .mv (.const (.int .i64 3)), none, none⟩]
def scans_Check_r6 : List RO := [
    ⟨some 19, .mkmap, none, none⟩,
    ⟨some 6, .mv (.tmp 19), none, none⟩]
def scans_Check_r7 : List RO := [
    ⟨some 20, .mv (.tmp 1), none, none⟩,
    ⟨some 21, .len 0 (.tmp 20), none, none⟩,
    ⟨some 22, .mv (.const (.int .i64 0)), none, none⟩]
def scans_Check_r8 : List RO := [
    ⟨some 23, .bin .lss (.tmp 22) (.tmp 21), none, none⟩]
def scans_Check_r9 : List RO := [
    ⟨some 24, .iadr 1 (.tmp 20) (.tmp 22), none, none⟩,
    ⟨some 25, .load 1 false (.tmp 24), none, none⟩,
    ⟨some 8, .mv (.tmp 25), none, none⟩]
def scans_Check_r10 : List RO := [
    ⟨some 26, .mv (.tmp 8), none, none⟩,
    ⟨some 27, .len 0 (.tmp 26), none, none⟩,
    ⟨some 28, .bin .eql (.tmp 27) (.const (.int .i64 0)), none, none⟩]
def scans_Check_r11 : List RO := [
    ⟨some 4, .mv (.const (.int .i64 1)), none, none⟩]
def scans_Check_r12 : List RO := [
    ⟨some 29, .mv (.tmp 8), none, none⟩,
    ⟨some 30, .len 0 (.tmp 29), none, none⟩,
    ⟨some 31, .mv (.const (.int .i64 0)), none, none⟩]
def scans_Check_r13 : List RO := [
    ⟨some 32, .bin .lss (.tmp 31) (.tmp 30), none, none⟩]
def scans_Check_r14 : List RO := [
    ⟨some 33, .iadr 1 (.tmp 29) (.tmp 31), none, none⟩,
    ⟨some 34, .load 1 false (.tmp 33), none, none⟩,
    ⟨some 10, .mv (.tmp 34), none, none⟩]
def scans_Check_r15 : List RO := [
    ⟨some 35, .mv (.tmp 10), none, none⟩,
    ⟨some 36, .bin .lss (.tmp 35) (.const (.int .i64 0)), none, none⟩,
    ⟨some 37, .mv (.tmp 36), none, none⟩,
    ⟨some 38, .mv (.tmp 10), some (37, false), none⟩,
    ⟨some 39, .fadr 0 (.tmp 2), some (37, false), none⟩,
    ⟨some 40, .load 1 false (.tmp 39), some (37, false), none⟩,
    ⟨some 41, .len 0 (.tmp 40), some (37, false), none⟩,
    ⟨some 42, .bin .geq (.tmp 38) (.tmp 41), some (37, false), none⟩,
    ⟨some 43, .pick (.tmp 37) (.const (.bool true)) (.tmp 42), none, none⟩,
    ⟨some 44, .mv (.tmp 43), none, none⟩,
    ⟨some 45, .fadr 0 (.tmp 2), some (44, false), none⟩,
    ⟨some 46, .load 1 false (.tmp 45), some (44, false), none⟩,
    ⟨some 47, .mv (.tmp 10), some (44, false), none⟩,
    ⟨some 48, .iadr 4 (.tmp 46) (.tmp 47), some (44, false), none⟩,
    ⟨some 49, .fadr 0 (.tmp 48), some (44, false), none⟩,
    ⟨some 50, .load 1 false (.tmp 49), some (44, false), none⟩,
    ⟨some 51, .bin .neq (.tmp 50) (.const (.int .u8 14)), some (44, false), none⟩,
    ⟨some 52, .pick (.tmp 44) (.const (.bool true)) (.tmp 51), none, none⟩,
    ⟨some 53, .mv (.tmp 52), none, none⟩,
    ⟨some 54, .mv (.tmp 6), some (53, false), none⟩,
    ⟨some 55, .mv (.tmp 10), some (53, false), none⟩,
    ⟨some 56, .lkup (.int .i64) (.bool false) false (.tmp 54) (.tmp 55), some (53, false), none⟩,
    ⟨some 57, .pick (.tmp 53) (.const (.bool true)) (.tmp 56), none, none⟩]
def scans_Check_r16 : List RO := [
    ⟨some 4, .mv (.const (.int .i64 1)), none, none⟩]
def scans_Check_r17 : List RO := [
    ⟨some 58, .mv (.tmp 6), none, none⟩,
    ⟨some 59, .mv (.tmp 10), none, none⟩,
    ⟨none, .mup (.int .i64) (.tmp 58) (.tmp 59) (.const (.bool true)), none, none⟩]
def scans_Check_r18 : List RO := [
    ⟨some 60, .bin .add (.tmp 31) (.const (.int .i64 1)), none, none⟩,
    ⟨some 31, .mv (.tmp 60), none, none⟩]
def scans_Check_g0 : IC := .gh (.seq (.reg scans_Check_r13 [.keep [2, 6, 20, 21, 22, 29, 30, 31, 32] [19]]) (.seq (.cond (.tmp 32) .skip (.exit 2)) (.seq (.block 3 (.seq (.reg scans_Check_r14 [.keep [2, 6, 10, 20, 21, 22, 29, 30, 31] [19]]) (.seq (.seq (.reg scans_Check_r15 [.keep [2, 6, 10, 20, 21, 22, 29, 30, 31, 57] [19]]) (.cond (.tmp 57) (.seq (.reg scans_Check_r16 [.keep [4] []]) .ret) .skip)) (.reg scans_Check_r17 [.keep [2, 6, 20, 21, 22, 29, 30, 31] [19]])))) (.reg scans_Check_r18 [.keep [2, 6, 20, 21, 22, 29, 30, 31] [19]])))) [.keep [2, 6, 20, 21, 22, 29, 30, 31] [19]]
def scans_Check_l1 : IC := .loop scans_Check_g0
def scans_Check_r19 : List RO := [
    ⟨some 61, .bin .add (.tmp 22) (.const (.int .i64 1)), none, none⟩,
    ⟨some 22, .mv (.tmp 61), none, none⟩]
def scans_Check_g2 : IC := .gh (.seq (.reg scans_Check_r8 [.keep [2, 6, 20, 21, 22, 23] [19]]) (.seq (.cond (.tmp 23) .skip (.exit 0)) (.seq (.block 1 (.seq (.reg scans_Check_r9 [.keep [2, 6, 8, 20, 21, 22] [19]]) (.seq (.seq (.reg scans_Check_r10 [.keep [2, 6, 8, 20, 21, 22, 28] [19]]) (.cond (.tmp 28) (.seq (.reg scans_Check_r11 [.keep [4] []]) .ret) .skip)) (.seq (.reg scans_Check_r12 [.keep [2, 6, 20, 21, 22, 29, 30, 31] [19]]) (.block 2 scans_Check_l1))))) (.reg scans_Check_r19 [.keep [2, 6, 20, 21, 22] [19]])))) [.keep [2, 6, 20, 21, 22] [19]]
def scans_Check_l3 : IC := .loop scans_Check_g2
def scans_Check_r20 : List RO := [
    ⟨some 62, .mv (.tmp 6), none, none⟩,
    ⟨some 63, .len 2 (.tmp 62), none, none⟩,
    ⟨some 64, .load 4 true (.tmp 2), none, none⟩,
    ⟨some 65, .call 17 [(.tmp 64)], none, none⟩,
    ⟨some 66, .len 0 (.tmp 65), none, none⟩,
    ⟨some 67, .bin .neq (.tmp 63) (.tmp 66), none, none⟩]
def scans_Check_r21 : List RO := [
    ⟨some 4, .mv (.const (.int .i64 8)), none, none⟩]
def scans_Check_r22 : List RO := [
    ⟨some 4, .mv (.const (.int .i64 0)), none, none⟩]
def scans_Check_ic : IC := (.seq (.reg scans_Check_r0 [.keep [1, 2] []]) (.seq (.seq (.reg scans_Check_r1 [.keep [1, 2, 5] []]) (.seq (.reg scans_Check_r2 [.keep [1, 2, 5, 14] []]) (.cond (.tmp 14) (.seq (.reg scans_Check_r3 [.keep [4] []]) .ret) .skip))) (.seq (.seq (.reg scans_Check_r4 [.keep [1, 2, 18] []]) (.cond (.tmp 18) (.seq (.reg scans_Check_r5 [.keep [4] []]) .ret) .skip)) (.seq (.reg scans_Check_r6 [.keep [1, 2, 6] [19]]) (.seq (.seq (.reg scans_Check_r7 [.keep [2, 6, 20, 21, 22] [19]]) (.block 0 scans_Check_l3)) (.seq (.seq (.reg scans_Check_r20 [.keep [67] []]) (.cond (.tmp 67) (.seq (.reg scans_Check_r21 [.keep [4] []]) .ret) .skip)) (.seq (.reg scans_Check_r22 [.keep [4] []]) .ret)))))))
@[simp ↓] theorem scans_Check_g0_run : run P Γ scans_Check_g0 Q s = run P Γ (.gh (.seq (.reg scans_Check_r13 [.keep [2, 6, 20, 21, 22, 29, 30, 31, 32] [19]]) (.seq (.cond (.tmp 32) .skip (.exit 2)) (.seq (.block 3 (.seq (.reg scans_Check_r14 [.keep [2, 6, 10, 20, 21, 22, 29, 30, 31] [19]]) (.seq (.seq (.reg scans_Check_r15 [.keep [2, 6, 10, 20, 21, 22, 29, 30, 31, 57] [19]]) (.cond (.tmp 57) (.seq (.reg scans_Check_r16 [.keep [4] []]) .ret) .skip)) (.reg scans_Check_r17 [.keep [2, 6, 20, 21, 22, 29, 30, 31] [19]])))) (.reg scans_Check_r18 [.keep [2, 6, 20, 21, 22, 29, 30, 31] [19]])))) [.keep [2, 6, 20, 21, 22, 29, 30, 31] [19]]) Q s := Eq.trans rfl rfl
@[simp ↓] theorem scans_Check_g2_run : run P Γ scans_Check_g2 Q s = run P Γ (.gh (.seq (.reg scans_Check_r8 [.keep [2, 6, 20, 21, 22, 23] [19]]) (.seq (.cond (.tmp 23) .skip (.exit 0)) (.seq (.block 1 (.seq (.reg scans_Check_r9 [.keep [2, 6, 8, 20, 21, 22] [19]]) (.seq (.seq (.reg scans_Check_r10 [.keep [2, 6, 8, 20, 21, 22, 28] [19]]) (.cond (.tmp 28) (.seq (.reg scans_Check_r11 [.keep [4] []]) .ret) .skip)) (.seq (.reg scans_Check_r12 [.keep [2, 6, 20, 21, 22, 29, 30, 31] [19]]) (.block 2 scans_Check_l1))))) (.reg scans_Check_r19 [.keep [2, 6, 20, 21, 22] [19]])))) [.keep [2, 6, 20, 21, 22] [19]]) Q s := Eq.trans rfl rfl
@[simp ↓] theorem scans_Check_ic_run : run P Γ scans_Check_ic Q s = run P Γ (.seq (.reg scans_Check_r0 [.keep [1, 2] []]) (.seq (.seq (.reg scans_Check_r1 [.keep [1, 2, 5] []]) (.seq (.reg scans_Check_r2 [.keep [1, 2, 5, 14] []]) (.cond (.tmp 14) (.seq (.reg scans_Check_r3 [.keep [4] []]) .ret) .skip))) (.seq (.seq (.reg scans_Check_r4 [.keep [1, 2, 18] []]) (.cond (.tmp 18) (.seq (.reg scans_Check_r5 [.keep [4] []]) .ret) .skip)) (.seq (.reg scans_Check_r6 [.keep [1, 2, 6] [19]]) (.seq (.seq (.reg scans_Check_r7 [.keep [2, 6, 20, 21, 22] [19]]) (.block 0 scans_Check_l3)) (.seq (.seq (.reg scans_Check_r20 [.keep [67] []]) (.cond (.tmp 67) (.seq (.reg scans_Check_r21 [.keep [4] []]) .ret) .skip)) (.seq (.reg scans_Check_r22 [.keep [4] []]) .ret))))))) Q s := Eq.trans rfl rfl
theorem scans_Check_l1_run (h : ∀ K : St → Prop, K = run P Γ scans_Check_l1 Q → run P Γ scans_Check_g0 (thenX K Q) s) : run P Γ scans_Check_l1 Q s := run_loop h
theorem scans_Check_l3_run (h : ∀ K : St → Prop, K = run P Γ scans_Check_l3 Q → run P Γ scans_Check_g2 (thenX K Q) s) : run P Γ scans_Check_l3 Q s := run_loop h
attribute [simp] scans_Check_r0 scans_Check_r1 scans_Check_r2 scans_Check_r3 scans_Check_r4 scans_Check_r5 scans_Check_r6 scans_Check_r7 scans_Check_r8 scans_Check_r9 scans_Check_r10 scans_Check_r11 scans_Check_r12 scans_Check_r13 scans_Check_r14 scans_Check_r15 scans_Check_r16 scans_Check_r17 scans_Check_r18 scans_Check_r19 scans_Check_r20 scans_Check_r21 scans_Check_r22
def scans_Check_rv : List RV := [.tmp 4]

/- probecard/scans.Length (function 21) -/
def scans_Length_r0 : List RO := [
    ⟨some 3, .box true (.tmp 0), none, none⟩,
    ⟨some 6, .mv (.const (.int .i64 0)), none, none⟩,
    ⟨some 7, .mv (.const (.int .i64 0)), none, none⟩]
def scans_Length_r1 : List RO := [
    ⟨some 14, .load 4 true (.tmp 3), none, none⟩,
    ⟨some 15, .mv (.tmp 1), none, none⟩,
    ⟨some 16, .mv (.tmp 2), none, none⟩,
    ⟨some 17, .call 49 [(.tmp 14), (.tmp 15), (.tmp 16)], none, none⟩,
    ⟨some 13, .mv (.tmp 17), none, none⟩,
    ⟨some 18, .ext (.tmp 13) 0, none, none⟩,
    ⟨some 19, .ext (.tmp 13) 1, none, none⟩,
    ⟨some 8, .mv (.tmp 18), none, none⟩,
    ⟨some 9, .mv (.tmp 19), none, none⟩]
def scans_Length_r2 : List RO := [
    ⟨some 10, .mv (.const (.int .i64 0)), none, none⟩]
def scans_Length_r3 : List RO := [
    ⟨some 20, .mv (.tmp 1), none, none⟩,
    ⟨some 21, .len 0 (.tmp 20), none, none⟩,
    ⟨some 22, .mv (.const (.int .i64 0)), none, none⟩]
def scans_Length_r4 : List RO := [
    ⟨some 23, .bin .lss (.tmp 22) (.tmp 21), none, none⟩]
def scans_Length_r5 : List RO := [
    ⟨some 24, .iadr 1 (.tmp 20) (.tmp 22), none, none⟩,
    ⟨some 25, .load 1 false (.tmp 24), none, none⟩,
    ⟨some 12, .mv (.tmp 25), none, none⟩]
def scans_Length_r6 : List RO := [
    ⟨some 26, .mv (.tmp 10), none, none⟩,
    ⟨some 27, .mv (.tmp 12), none, none⟩,
    ⟨some 28, .mv (.tmp 8), none, none⟩,
    ⟨some 29, .call 50 [(.tmp 27), (.tmp 28)], none, none⟩,
    ⟨some 30, .bin .add (.tmp 26) (.tmp 29), none, none⟩,
    ⟨some 10, .mv (.tmp 30), none, none⟩]
def scans_Length_r7 : List RO := [
    ⟨some 31, .bin .add (.tmp 22) (.const (.int .i64 1)), none, none⟩,
    ⟨some 22, .mv (.tmp 31), none, none⟩]
def scans_Length_g0 : IC := .gh (.seq (.reg scans_Length_r4 [.keep [8, 9, 10, 20, 21, 22, 23] []]) (.seq (.cond (.tmp 23) .skip (.exit 0)) (.seq (.block 1 (.seq (.reg scans_Length_r5 [.keep [8, 9, 10, 12, 20, 21, 22] []]) (.reg scans_Length_r6 [.keep [8, 9, 10, 20, 21, 22] []]))) (.reg scans_Length_r7 [.keep [8, 9, 10, 20, 21, 22] []])))) [.keep [8, 9, 10, 20, 21, 22] []]
def scans_Length_l1 : IC := .loop scans_Length_g0
def scans_Length_r8 : List RO := [
    ⟨some 32, .mv (.tmp 9), none, none⟩,
    ⟨some 33, .bin .neq (.tmp 32) (.const (.int .i64 0)), none, none⟩]
def scans_Length_r9 : List RO := [
    ⟨some 34, .mv (.tmp 9), none, none⟩,
    ⟨some 6, .mv (.const (.int .i64 0)), none, none⟩,
    ⟨some 7, .mv (.tmp 34), none, none⟩]
def scans_Length_r10 : List RO := [
    ⟨some 35, .mv (.tmp 10), none, none⟩,
    ⟨some 6, .mv (.tmp 35), none, none⟩,
    ⟨some 7, .mv (.const (.int .i64 0)), none, none⟩]
def scans_Length_ic : IC := (.seq (.reg scans_Length_r0 [.keep [1, 2, 3] []]) (.seq (.reg scans_Length_r1 [.keep [1, 8, 9] []]) (.seq (.reg scans_Length_r2 [.keep [1, 8, 9, 10] []]) (.seq (.seq (.reg scans_Length_r3 [.keep [8, 9, 10, 20, 21, 22] []]) (.block 0 scans_Length_l1)) (.seq (.seq (.reg scans_Length_r8 [.keep [9, 10, 33] []]) (.cond (.tmp 33) (.seq (.reg scans_Length_r9 [.keep [6, 7] []]) .ret) .skip)) (.seq (.reg scans_Length_r10 [.keep [6, 7] []]) .ret))))))
@[simp ↓] theorem scans_Length_g0_run : run P Γ scans_Length_g0 Q s = run P Γ (.gh (.seq (.reg scans_Length_r4 [.keep [8, 9, 10, 20, 21, 22, 23] []]) (.seq (.cond (.tmp 23) .skip (.exit 0)) (.seq (.block 1 (.seq (.reg scans_Length_r5 [.keep [8, 9, 10, 12, 20, 21, 22] []]) (.reg scans_Length_r6 [.keep [8, 9, 10, 20, 21, 22] []]))) (.reg scans_Length_r7 [.keep [8, 9, 10, 20, 21, 22] []])))) [.keep [8, 9, 10, 20, 21, 22] []]) Q s := Eq.trans rfl rfl
@[simp ↓] theorem scans_Length_ic_run : run P Γ scans_Length_ic Q s = run P Γ (.seq (.reg scans_Length_r0 [.keep [1, 2, 3] []]) (.seq (.reg scans_Length_r1 [.keep [1, 8, 9] []]) (.seq (.reg scans_Length_r2 [.keep [1, 8, 9, 10] []]) (.seq (.seq (.reg scans_Length_r3 [.keep [8, 9, 10, 20, 21, 22] []]) (.block 0 scans_Length_l1)) (.seq (.seq (.reg scans_Length_r8 [.keep [9, 10, 33] []]) (.cond (.tmp 33) (.seq (.reg scans_Length_r9 [.keep [6, 7] []]) .ret) .skip)) (.seq (.reg scans_Length_r10 [.keep [6, 7] []]) .ret)))))) Q s := Eq.trans rfl rfl
theorem scans_Length_l1_run (h : ∀ K : St → Prop, K = run P Γ scans_Length_l1 Q → run P Γ scans_Length_g0 (thenX K Q) s) : run P Γ scans_Length_l1 Q s := run_loop h
attribute [simp] scans_Length_r0 scans_Length_r1 scans_Length_r2 scans_Length_r3 scans_Length_r4 scans_Length_r5 scans_Length_r6 scans_Length_r7 scans_Length_r8 scans_Length_r9 scans_Length_r10
def scans_Length_rv : List RV := [.tmp 6, .tmp 7]

/- probecard/scans.Shorten (function 22) -/
def scans_Shorten_r0 : List RO := [
    ⟨some 3, .box true (.tmp 0), none, none⟩,
    ⟨some 6, .mv (.const (.slice none 0 0)), none, none⟩,
    ⟨some 7, .mv (.const (.int .i64 0)), none, none⟩]
def scans_Shorten_r1 : List RO := [
    ⟨some 14, .load 4 true (.tmp 3), none, none⟩,
    ⟨some 15, .mv (.tmp 1), none, none⟩,
    ⟨some 16, .mv (.tmp 2), none, none⟩,
    ⟨some 17, .call 49 [(.tmp 14), (.tmp 15), (.tmp 16)], none, none⟩,
    ⟨some 13, .mv (.tmp 17), none, none⟩,
    ⟨some 18, .ext (.tmp 13) 0, none, none⟩,
    ⟨some 19, .ext (.tmp 13) 1, none, none⟩,
    ⟨some 8, .mv (.tmp 18), none, none⟩,
    ⟨some 9, .mv (.tmp 19), none, none⟩]
def scans_Shorten_r2 : List RO := [
    ⟨some 20, .mv (.tmp 9), none, none⟩,
    ⟨some 21, .bin .neq (.tmp 20) (.const (.int .i64 0)), none, none⟩]
def scans_Shorten_r3 : List RO := [
    ⟨some 22, .mv (.tmp 9), none, none⟩,
    ⟨some 6, .mv (.const (.slice none 0 0)), none, none⟩,
    ⟨some 7, .mv (.tmp 22), none, none⟩]
def scans_Shorten_r4 : List RO := [
    ⟨some 10, .mv (.const (.slice none 0 0)), none, none⟩]
def scans_Shorten_r5 : List RO := [
    ⟨some 23, .mv (.tmp 1), none, none⟩,
    ⟨some 24, .len 0 (.tmp 23), none, none⟩,
    ⟨some 25, .mv (.const (.int .i64 0)), none, none⟩]
def scans_Shorten_r6 : List RO := [
    ⟨some 26, .bin .lss (.tmp 25) (.tmp 24), none, none⟩]
def scans_Shorten_r7 : List RO := [
    ⟨some 27, .iadr 1 (.tmp 23) (.tmp 25), none, none⟩,
    ⟨some 28, .load 1 false (.tmp 27), none, none⟩,
    ⟨some 12, .mv (.tmp 28), none, none⟩]
def scans_Shorten_r8 : List RO := [
    ⟨some 29, .mv (.tmp 10), none, none⟩,
    ⟨some 30, .mv (.tmp 12), none, none⟩,
    ⟨some 31, .mv (.tmp 8), none, none⟩,
    ⟨some 32, .call 51 [(.tmp 30), (.tmp 31)], none, none⟩,
    ⟨some 33, .bsl true 31 1 [(.tmp 32)], none, none⟩,
    ⟨some 34, .app false 31 1 (.tmp 29) (.tmp 33), none, none⟩,
    ⟨some 10, .mv (.tmp 34), none, none⟩]
def scans_Shorten_r9 : List RO := [
    ⟨some 35, .bin .add (.tmp 25) (.const (.int .i64 1)), none, none⟩,
    ⟨some 25, .mv (.tmp 35), none, none⟩]
def scans_Shorten_g0 : IC := .gh (.seq (.reg scans_Shorten_r6 [.keep [8, 10, 23, 24, 25, 26] [34]]) (.seq (.cond (.tmp 26) .skip (.exit 0)) (.seq (.block 1 (.seq (.reg scans_Shorten_r7 [.keep [8, 10, 12, 23, 24, 25] [34]]) (.reg scans_Shorten_r8 [.keep [8, 10, 23, 24, 25] [34]]))) (.reg scans_Shorten_r9 [.keep [8, 10, 23, 24, 25] [34]])))) [.keep [8, 10, 23, 24, 25] [34]]
def scans_Shorten_l1 : IC := .loop scans_Shorten_g0
def scans_Shorten_r10 : List RO := [
    ⟨some 36, .mv (.tmp 10), none, none⟩,
    ⟨some 37, .call 44 [(.tmp 36)], none, none⟩,
    ⟨some 6, .mv (.tmp 37), none, none⟩,
    ⟨some 7, .mv (.const (.int .i64 0)), none, none⟩]
def scans_Shorten_ic : IC := (.seq (.reg scans_Shorten_r0 [.keep [1, 2, 3] []]) (.seq (.reg scans_Shorten_r1 [.keep [1, 8, 9] []]) (.seq (.seq (.reg scans_Shorten_r2 [.keep [1, 8, 9, 21] []]) (.cond (.tmp 21) (.seq (.reg scans_Shorten_r3 [.keep [6, 7] []]) .ret) .skip)) (.seq (.reg scans_Shorten_r4 [.nl 10 34 31 1, .keep [1, 8, 10] [34]]) (.seq (.seq (.reg scans_Shorten_r5 [.keep [8, 10, 23, 24, 25] [34]]) (.gh (.block 0 scans_Shorten_l1) [.frz 34])) (.seq (.reg scans_Shorten_r10 [.keep [6, 7] []]) .ret))))))
@[simp ↓] theorem scans_Shorten_g0_run : run P Γ scans_Shorten_g0 Q s = run P Γ (.gh (.seq (.reg scans_Shorten_r6 [.keep [8, 10, 23, 24, 25, 26] [34]]) (.seq (.cond (.tmp 26) .skip (.exit 0)) (.seq (.block 1 (.seq (.reg scans_Shorten_r7 [.keep [8, 10, 12, 23, 24, 25] [34]]) (.reg scans_Shorten_r8 [.keep [8, 10, 23, 24, 25] [34]]))) (.reg scans_Shorten_r9 [.keep [8, 10, 23, 24, 25] [34]])))) [.keep [8, 10, 23, 24, 25] [34]]) Q s := Eq.trans rfl rfl
@[simp ↓] theorem scans_Shorten_ic_run : run P Γ scans_Shorten_ic Q s = run P Γ (.seq (.reg scans_Shorten_r0 [.keep [1, 2, 3] []]) (.seq (.reg scans_Shorten_r1 [.keep [1, 8, 9] []]) (.seq (.seq (.reg scans_Shorten_r2 [.keep [1, 8, 9, 21] []]) (.cond (.tmp 21) (.seq (.reg scans_Shorten_r3 [.keep [6, 7] []]) .ret) .skip)) (.seq (.reg scans_Shorten_r4 [.nl 10 34 31 1, .keep [1, 8, 10] [34]]) (.seq (.seq (.reg scans_Shorten_r5 [.keep [8, 10, 23, 24, 25] [34]]) (.gh (.block 0 scans_Shorten_l1) [.frz 34])) (.seq (.reg scans_Shorten_r10 [.keep [6, 7] []]) .ret)))))) Q s := Eq.trans rfl rfl
theorem scans_Shorten_l1_run (h : ∀ K : St → Prop, K = run P Γ scans_Shorten_l1 Q → run P Γ scans_Shorten_g0 (thenX K Q) s) : run P Γ scans_Shorten_l1 Q s := run_loop h
attribute [simp] scans_Shorten_r0 scans_Shorten_r1 scans_Shorten_r2 scans_Shorten_r3 scans_Shorten_r4 scans_Shorten_r5 scans_Shorten_r6 scans_Shorten_r7 scans_Shorten_r8 scans_Shorten_r9 scans_Shorten_r10
def scans_Shorten_rv : List RV := [.tmp 6, .tmp 7]

/- probecard/netlists.Comb (function 35) -/
def netlists_Comb_r0 : List RO := [
    ⟨some 2, .mv (.const (.bool false)), none, none⟩]
def netlists_Comb_r1 : List RO := [
    ⟨some 3, .mv (.tmp 0), none, none⟩,
    ⟨some 4, .bin .geq (.tmp 3) (.const (.int .u8 1)), none, none⟩,
    ⟨some 5, .mv (.tmp 4), none, none⟩,
    ⟨some 6, .mv (.tmp 0), some (5, true), none⟩,
    ⟨some 7, .bin .leq (.tmp 6) (.const (.int .u8 13)), some (5, true), none⟩,
    ⟨some 8, .pick (.tmp 5) (.tmp 7) (.const (.bool false)), none, none⟩,
    ⟨some 2, .mv (.tmp 8), none, none⟩]
def netlists_Comb_ic : IC := (.seq (.reg netlists_Comb_r0 [.keep [0] []]) (.seq (.reg netlists_Comb_r1 [.keep [2] []]) .ret))
@[simp ↓] theorem netlists_Comb_ic_run : run P Γ netlists_Comb_ic Q s = run P Γ (.seq (.reg netlists_Comb_r0 [.keep [0] []]) (.seq (.reg netlists_Comb_r1 [.keep [2] []]) .ret)) Q s := Eq.trans rfl rfl
attribute [simp] netlists_Comb_r0 netlists_Comb_r1
def netlists_Comb_rv : List RV := [.tmp 2]

/- (probecard/probecardlaw03.C).gate (function 39) -/
def law03_C_gate_r0 : List RO := [
    ⟨some 3, .box true (.tmp 0), none, none⟩,
    ⟨some 4, .box true (.tmp 1), none, none⟩,
    ⟨some 6, .alloc false [(.int .u8 0), (.slice none 0 0), (.int .i64 0), (.int .i64 0)], none, none⟩]
def law03_C_gate_r1 : List RO := [
    ⟨some 17, .mv (.tmp 2), none, none⟩,
    ⟨some 18, .len 0 (.tmp 17), none, none⟩,
    ⟨some 7, .mv (.tmp 18), none, none⟩]
def law03_C_gate_r2 : List RO := [
    ⟨some 19, .fadr 1 (.tmp 4), none, none⟩,
    ⟨some 20, .iadrA 3 1 (.tmp 19) (.const (.int .i64 0)), none, none⟩,
    ⟨some 21, .load 1 false (.tmp 20), none, none⟩,
    ⟨some 22, .conv .i64 (.tmp 21), none, none⟩,
    ⟨some 23, .mv (.tmp 7), none, none⟩,
    ⟨some 24, .bin .rem (.tmp 22) (.tmp 23), none, none⟩,
    ⟨some 25, .fadr 1 (.tmp 4), none, none⟩,
    ⟨some 26, .iadrA 3 1 (.tmp 25) (.const (.int .i64 1)), none, none⟩,
    ⟨some 27, .load 1 false (.tmp 26), none, none⟩,
    ⟨some 28, .conv .i64 (.tmp 27), none, none⟩,
    ⟨some 29, .mv (.tmp 7), none, none⟩,
    ⟨some 30, .bin .rem (.tmp 28) (.tmp 29), none, none⟩,
    ⟨some 31, .fadr 1 (.tmp 4), none, none⟩,
    ⟨some 32, .iadrA 3 1 (.tmp 31) (.const (.int .i64 2)), none, none⟩,
    ⟨some 33, .load 1 false (.tmp 32), none, none⟩,
    ⟨some 34, .conv .i64 (.tmp 33), none, none⟩,
    ⟨some 35, .mv (.tmp 7), none, none⟩,
    ⟨some 36, .bin .rem (.tmp 34) (.tmp 35), none, none⟩,
    ⟨some 8, .mv (.tmp 24), none, none⟩,
    ⟨some 9, .mv (.tmp 30), none, none⟩,
    ⟨some 10, .mv (.tmp 36), none, none⟩]
def law03_C_gate_r3 : List RO := [
    ⟨some 11, .mv (.const (.slice none 0 0)), none, none⟩]
def law03_C_gate_r4 : List RO := [
    ⟨some 12, .mv (.const (.int .i64 0)), none, none⟩]
def law03_C_gate_r5 : List RO := [
    ⟨some 37, .mv (.tmp 12), none, none⟩,
    ⟨some 38, .mv (.tmp 7), none, none⟩,
    ⟨some 39, .bin .lss (.tmp 37) (.tmp 38), none, none⟩]
def law03_C_gate_r7 : List RO := [
    ⟨some 42, .mv (.tmp 2), none, none⟩,
    ⟨some 43, .mv (.tmp 12), none, none⟩,
    ⟨some 44, .iadr 4 (.tmp 42) (.tmp 43), none, none⟩,
    ⟨some 45, .fadr 0 (.tmp 44), none, none⟩,
    ⟨some 46, .load 1 false (.tmp 45), none, none⟩,
    ⟨some 47, .bin .eql (.tmp 46) (.const (.int .u8 12)), none, none⟩]
def law03_C_gate_r8 : List RO := [
    ⟨some 48, .mv (.tmp 11), none, none⟩,
    ⟨some 49, .mv (.tmp 12), none, none⟩,
    ⟨some 50, .bsl true 3 1 [(.tmp 49)], none, none⟩,
    ⟨some 51, .app false 3 1 (.tmp 48) (.tmp 50), none, none⟩,
    ⟨some 11, .mv (.tmp 51), none, none⟩]
def law03_C_gate_r6 : List RO := [
    ⟨some 40, .mv (.tmp 12), none, none⟩,
    ⟨some 41, .bin .add (.tmp 40) (.const (.int .i64 1)), none, none⟩,
    ⟨some 12, .mv (.tmp 41), none, none⟩]
def law03_C_gate_g0 : IC := .gh (.seq (.seq (.reg law03_C_gate_r5 [.keep [2, 3, 4, 6, 7, 8, 9, 10, 11, 12, 39] [6, 51, 70, 79, 86, 94, 105, 126, 142, 156]]) (.cond (.tmp 39) .skip (.exit 0))) (.seq (.block 1 (.seq (.reg law03_C_gate_r7 [.keep [2, 3, 4, 6, 7, 8, 9, 10, 11, 12, 47] [6, 51, 70, 79, 86, 94, 105, 126, 142, 156]]) (.cond (.tmp 47) (.reg law03_C_gate_r8 [.keep [2, 3, 4, 6, 7, 8, 9, 10, 11, 12] [6, 51, 70, 79, 86, 94, 105, 126, 142, 156]]) .skip))) (.reg law03_C_gate_r6 [.keep [2, 3, 4, 6, 7, 8, 9, 10, 11, 12] [6, 51, 70, 79, 86, 94, 105, 126, 142, 156]]))) [.keep [2, 3, 4, 6, 7, 8, 9, 10, 11, 12] [6, 51, 70, 79, 86, 94, 105, 126, 142, 156]]
def law03_C_gate_l1 : IC := .loop law03_C_gate_g0
def law03_C_gate_r9 : List RO := [
    ⟨some 52, .fadr 0 (.tmp 4), none, none⟩,
    ⟨some 53, .load 1 false (.tmp 52), none, none⟩,
    ⟨some 54, .bin .rem (.tmp 53) (.const (.int .u8 9)), none, none⟩,
    ⟨some 55, .conv .i64 (.tmp 54), none, none⟩,
    ⟨some 13, .mv (.tmp 55), none, none⟩]
def law03_C_gate_r10 : List RO := [
    ⟨some 56, .fadr 4 (.tmp 3), none, none⟩,
    ⟨some 57, .load 1 false (.tmp 56), none, none⟩]
def law03_C_gate_r11 : List RO := [
    ⟨some 58, .fadr 0 (.tmp 4), none, none⟩,
    ⟨some 59, .load 1 false (.tmp 58), none, none⟩,
    ⟨some 60, .bin .rem (.tmp 59) (.const (.int .u8 13)), none, none⟩,
    ⟨some 61, .conv .i64 (.tmp 60), none, none⟩,
    ⟨some 13, .mv (.tmp 61), none, none⟩]
def law03_C_gate_r12 : List RO := [
    ⟨some 63, .mv (.tmp 13), none, none⟩,
    ⟨some 64, .bin .lss (.tmp 63) (.const (.int .i64 6)), none, none⟩,
    ⟨some 62, .mv (.tmp 64), none, none⟩]
def law03_C_gate_r13 : List RO := [
    ⟨some 65, .mv (.tmp 13), none, none⟩,
    ⟨some 66, .conv .u8 (.tmp 65), none, none⟩,
    ⟨some 67, .bin .add (.const (.int .u8 5)) (.tmp 66), none, none⟩,
    ⟨some 68, .mv (.tmp 8), none, none⟩,
    ⟨some 69, .mv (.tmp 9), none, none⟩,
    ⟨some 70, .bsl false 3 1 [(.tmp 68), (.tmp 69)], none, none⟩,
    ⟨some 71, .build [(1, (.tmp 67)), (1, (.tmp 70)), (1, (.const (.int .i64 0))), (1, (.const (.int .i64 0)))], none, none⟩,
    ⟨some 14, .alloc false [(.int .u8 0), (.slice none 0 0), (.int .i64 0), (.int .i64 0)], none, none⟩,
    ⟨none, .store 4 (.tmp 14) (.tmp 71), none, none⟩]
def law03_C_gate_r14 : List RO := [
    ⟨some 72, .fadr 0 (.tmp 4), none, none⟩,
    ⟨some 73, .load 1 false (.tmp 72), none, none⟩,
    ⟨some 74, .bin .geq (.tmp 73) (.const (.int .u8 128)), none, none⟩]
def law03_C_gate_r15 : List RO := [
    ⟨some 75, .fadr 1 (.tmp 14), none, none⟩,
    ⟨some 76, .load 1 false (.tmp 75), none, none⟩,
    ⟨some 77, .mv (.tmp 10), none, none⟩,
    ⟨some 78, .bsl true 3 1 [(.tmp 77)], none, none⟩,
    ⟨some 79, .app false 3 1 (.tmp 76) (.tmp 78), none, none⟩,
    ⟨some 80, .fadr 1 (.tmp 14), none, none⟩,
    ⟨none, .store 1 (.tmp 80) (.tmp 79), none, none⟩]
def law03_C_gate_r16 : List RO := [
    ⟨some 81, .load 4 true (.tmp 14), none, none⟩,
    ⟨none, .store 4 (.tmp 6) (.tmp 81), none, none⟩]
def law03_C_gate_r17 : List RO := [
    ⟨some 83, .mv (.tmp 13), none, none⟩,
    ⟨some 84, .bin .eql (.tmp 83) (.const (.int .i64 6)), none, none⟩,
    ⟨some 82, .mv (.tmp 84), none, none⟩]
def law03_C_gate_r18 : List RO := [
    ⟨some 85, .mv (.tmp 8), none, none⟩,
    ⟨some 86, .bsl false 3 1 [(.tmp 85)], none, none⟩,
    ⟨some 87, .build [(1, (.const (.int .u8 4))), (1, (.tmp 86)), (1, (.const (.int .i64 0))), (1, (.const (.int .i64 0)))], none, none⟩,
    ⟨none, .store 4 (.tmp 6) (.tmp 87), none, none⟩]
def law03_C_gate_r19 : List RO := [
    ⟨some 89, .mv (.tmp 13), none, none⟩,
    ⟨some 90, .bin .eql (.tmp 89) (.const (.int .i64 7)), none, none⟩,
    ⟨some 88, .mv (.tmp 90), none, none⟩]
def law03_C_gate_r20 : List RO := [
    ⟨some 91, .mv (.tmp 8), none, none⟩,
    ⟨some 92, .mv (.tmp 9), none, none⟩,
    ⟨some 93, .mv (.tmp 10), none, none⟩,
    ⟨some 94, .bsl false 3 1 [(.tmp 91), (.tmp 92), (.tmp 93)], none, none⟩,
    ⟨some 95, .build [(1, (.const (.int .u8 11))), (1, (.tmp 94)), (1, (.const (.int .i64 0))), (1, (.const (.int .i64 0)))], none, none⟩,
    ⟨none, .store 4 (.tmp 6) (.tmp 95), none, none⟩]
def law03_C_gate_r21 : List RO := [
    ⟨some 97, .mv (.tmp 13), none, none⟩,
    ⟨some 98, .bin .eql (.tmp 97) (.const (.int .i64 9)), none, none⟩,
    ⟨some 99, .mv (.tmp 98), none, none⟩,
    ⟨some 100, .mv (.tmp 13), some (99, false), none⟩,
    ⟨some 101, .bin .eql (.tmp 100) (.const (.int .i64 10)), some (99, false), none⟩,
    ⟨some 102, .pick (.tmp 99) (.const (.bool true)) (.tmp 101), none, none⟩,
    ⟨some 96, .mv (.tmp 102), none, none⟩]
def law03_C_gate_r22 : List RO := [
    ⟨some 103, .mv (.tmp 8), none, none⟩,
    ⟨some 104, .mv (.tmp 9), none, none⟩,
    ⟨some 105, .bsl false 3 1 [(.tmp 103), (.tmp 104)], none, none⟩,
    ⟨some 106, .build [(1, (.const (.int .u8 12))), (1, (.tmp 105)), (1, (.const (.int .i64 0))), (1, (.const (.int .i64 0)))], none, none⟩,
    ⟨none, .store 4 (.tmp 6) (.tmp 106), none, none⟩]
def law03_C_gate_r23 : List RO := [
    ⟨some 108, .mv (.tmp 13), none, none⟩,
    ⟨some 109, .bin .gtr (.tmp 108) (.const (.int .i64 10)), none, none⟩,
    ⟨some 110, .mv (.tmp 109), none, none⟩,
    ⟨some 111, .mv (.tmp 11), some (110, true), none⟩,
    ⟨some 112, .len 0 (.tmp 111), some (110, true), none⟩,
    ⟨some 113, .bin .gtr (.tmp 112) (.const (.int .i64 0)), some (110, true), none⟩,
    ⟨some 114, .pick (.tmp 110) (.tmp 113) (.const (.bool false)), none, none⟩,
    ⟨some 107, .mv (.tmp 114), none, none⟩]
def law03_C_gate_r24 : List RO := [
    ⟨some 115, .fadr 1 (.tmp 4), none, none⟩,
    ⟨some 116, .iadrA 3 1 (.tmp 115) (.const (.int .i64 0)), none, none⟩,
    ⟨some 117, .load 1 false (.tmp 116), none, none⟩,
    ⟨some 118, .conv .i64 (.tmp 117), none, none⟩,
    ⟨some 119, .mv (.tmp 11), none, none⟩,
    ⟨some 120, .len 0 (.tmp 119), none, none⟩,
    ⟨some 121, .bin .rem (.tmp 118) (.tmp 120), none, none⟩,
    ⟨some 15, .mv (.tmp 121), none, none⟩]
def law03_C_gate_r25 : List RO := [
    ⟨some 122, .mv (.tmp 11), none, none⟩,
    ⟨some 123, .mv (.tmp 15), none, none⟩,
    ⟨some 124, .iadr 1 (.tmp 122) (.tmp 123), none, none⟩,
    ⟨some 125, .load 1 false (.tmp 124), none, none⟩,
    ⟨some 126, .bsl false 3 1 [(.tmp 125)], none, none⟩,
    ⟨some 127, .build [(1, (.const (.int .u8 13))), (1, (.tmp 126)), (1, (.const (.int .i64 0))), (1, (.const (.int .i64 0)))], none, none⟩,
    ⟨some 16, .alloc false [(.int .u8 0), (.slice none 0 0), (.int .i64 0), (.int .i64 0)], none, none⟩,
    ⟨none, .store 4 (.tmp 16) (.tmp 127), none, none⟩]
def law03_C_gate_r26 : List RO := [
    ⟨some 128, .mv (.tmp 11), none, none⟩,
    ⟨some 129, .len 0 (.tmp 128), none, none⟩,
    ⟨some 130, .bin .gtr (.tmp 129) (.const (.int .i64 1)), none, none⟩]
def law03_C_gate_r27 : List RO := [
    ⟨some 131, .fadr 1 (.tmp 16), none, none⟩,
    ⟨some 132, .ldR 16 1 false (.tmp 131), none, none⟩,
    ⟨some 133, .mv (.tmp 11), none, none⟩,
    ⟨some 134, .mv (.tmp 15), none, none⟩,
    ⟨some 135, .bin .add (.tmp 134) (.const (.int .i64 1)), none, none⟩,
    ⟨some 136, .mv (.tmp 11), none, none⟩,
    ⟨some 137, .len 0 (.tmp 136), none, none⟩,
    ⟨some 138, .bin .rem (.tmp 135) (.tmp 137), none, none⟩,
    ⟨some 139, .iadr 1 (.tmp 133) (.tmp 138), none, none⟩,
    ⟨some 140, .ldR 51 1 false (.tmp 139), none, none⟩,
    ⟨some 141, .bsl true 3 1 [(.tmp 140)], none, none⟩,
    ⟨some 142, .app false 3 1 (.tmp 132) (.tmp 141), none, none⟩,
    ⟨some 143, .fadr 1 (.tmp 16), none, none⟩,
    ⟨none, .stR 16 1 (.tmp 143) (.tmp 142), none, none⟩]
def law03_C_gate_r28 : List RO := [
    ⟨some 144, .load 4 true (.tmp 16), none, none⟩,
    ⟨none, .store 4 (.tmp 6) (.tmp 144), none, none⟩]
def law03_C_gate_r29 : List RO := [
    ⟨some 146, .fadr 0 (.tmp 4), none, none⟩,
    ⟨some 147, .load 1 false (.tmp 146), none, none⟩,
    ⟨some 148, .bin .gtr (.tmp 147) (.const (.int .u8 240)), none, none⟩,
    ⟨some 145, .mv (.tmp 148), none, none⟩]
def law03_C_gate_r30 : List RO := [
    ⟨some 149, .fadr 1 (.tmp 4), none, none⟩,
    ⟨some 150, .iadrA 3 1 (.tmp 149) (.const (.int .i64 0)), none, none⟩,
    ⟨some 151, .load 1 false (.tmp 150), none, none⟩,
    ⟨some 152, .bin .rem (.tmp 151) (.const (.int .u8 2)), none, none⟩,
    ⟨some 153, .bin .add (.const (.int .u8 1)) (.tmp 152), none, none⟩,
    ⟨some 154, .build [(1, (.tmp 153)), (1, (.const (.slice none 0 0))), (1, (.const (.int .i64 0))), (1, (.const (.int .i64 0)))], none, none⟩,
    ⟨none, .store 4 (.tmp 6) (.tmp 154), none, none⟩]
def law03_C_gate_c2 : IC := (.seq (.reg law03_C_gate_r24 [.keep [6, 11, 15] [6, 51, 70, 79, 86, 94, 105, 126, 142, 156]]) (.seq (.reg law03_C_gate_r25 [.keep [6, 11, 15, 16] [6, 16, 51, 70, 79, 86, 94, 105, 126, 142, 156]]) (.seq (.seq (.reg law03_C_gate_r26 [.keep [6, 11, 15, 16, 130] [6, 16, 51, 70, 79, 86, 94, 105, 126, 142, 156]]) (.cond (.tmp 130) (.reg law03_C_gate_r27 [.keep [6, 16] [6, 16, 70, 79, 86, 94, 105, 126, 142, 156]]) .skip)) (.seq (.reg law03_C_gate_r28 [.keep [6] [6, 70, 79, 86, 94, 105, 126, 142, 156]]) .ret))))
def law03_C_gate_c3 : IC := (.seq (.reg law03_C_gate_r21 [.keep [4, 6, 8, 9, 11, 13, 96] [6, 51, 70, 79, 86, 94, 105, 126, 142, 156]]) (.cond (.tmp 96) (.seq (.reg law03_C_gate_r22 [.keep [6] [6, 70, 79, 86, 94, 105, 126, 142, 156]]) .ret) (.seq (.reg law03_C_gate_r23 [.keep [4, 6, 8, 11, 107] [6, 51, 70, 79, 86, 94, 105, 126, 142, 156]]) (.cond (.tmp 107) law03_C_gate_c2 (.seq (.reg law03_C_gate_r29 [.keep [4, 6, 8, 145] [6, 70, 79, 86, 94, 105, 126, 142, 156]]) (.cond (.tmp 145) (.seq (.reg law03_C_gate_r30 [.keep [6] [6, 70, 79, 86, 94, 105, 126, 142, 156]]) .ret) .skip))))))
def law03_C_gate_c4 : IC := (.seq (.reg law03_C_gate_r17 [.keep [4, 6, 8, 9, 10, 11, 13, 82] [6, 51, 70, 79, 86, 94, 105, 126, 142, 156]]) (.cond (.tmp 82) (.seq (.reg law03_C_gate_r18 [.keep [6] [6, 70, 79, 86, 94, 105, 126, 142, 156]]) .ret) (.seq (.reg law03_C_gate_r19 [.keep [4, 6, 8, 9, 10, 11, 13, 88] [6, 51, 70, 79, 86, 94, 105, 126, 142, 156]]) (.cond (.tmp 88) (.seq (.reg law03_C_gate_r20 [.keep [6] [6, 70, 79, 86, 94, 105, 126, 142, 156]]) .ret) law03_C_gate_c3))))
def law03_C_gate_r31 : List RO := [
    ⟨some 155, .mv (.tmp 8), none, none⟩,
    ⟨some 156, .bsl false 3 1 [(.tmp 155)], none, none⟩,
    ⟨some 157, .build [(1, (.const (.int .u8 3))), (1, (.tmp 156)), (1, (.const (.int .i64 0))), (1, (.const (.int .i64 0)))], none, none⟩,
    ⟨none, .store 4 (.tmp 6) (.tmp 157), none, none⟩]
def law03_C_gate_ic : IC := (.seq (.reg law03_C_gate_r0 [.keep [2, 3, 4, 6] [6, 70, 79, 86, 94, 105, 126, 142, 156]]) (.seq (.reg law03_C_gate_r1 [.keep [2, 3, 4, 6, 7] [6, 70, 79, 86, 94, 105, 126, 142, 156]]) (.seq (.reg law03_C_gate_r2 [.keep [2, 3, 4, 6, 7, 8, 9, 10] [6, 70, 79, 86, 94, 105, 126, 142, 156]]) (.seq (.reg law03_C_gate_r3 [.nl 11 51 3 1, .keep [2, 3, 4, 6, 7, 8, 9, 10, 11] [6, 51, 70, 79, 86, 94, 105, 126, 142, 156]]) (.seq (.seq (.reg law03_C_gate_r4 [.keep [2, 3, 4, 6, 7, 8, 9, 10, 11, 12] [6, 51, 70, 79, 86, 94, 105, 126, 142, 156]]) (.block 0 law03_C_gate_l1)) (.seq (.reg law03_C_gate_r9 [.keep [3, 4, 6, 8, 9, 10, 11, 13] [6, 51, 70, 79, 86, 94, 105, 126, 142, 156]]) (.seq (.seq (.reg law03_C_gate_r10 [.keep [4, 6, 8, 9, 10, 11, 13, 57] [6, 51, 70, 79, 86, 94, 105, 126, 142, 156]]) (.cond (.tmp 57) (.reg law03_C_gate_r11 [.keep [4, 6, 8, 9, 10, 11, 13] [6, 51, 70, 79, 86, 94, 105, 126, 142, 156]]) .skip)) (.seq (.block 2 (.seq (.reg law03_C_gate_r12 [.keep [4, 6, 8, 9, 10, 11, 13, 62] [6, 51, 70, 79, 86, 94, 105, 126, 142, 156]]) (.cond (.tmp 62) (.seq (.reg law03_C_gate_r13 [.keep [4, 6, 10, 14] [6, 14, 70, 79, 86, 94, 105, 126, 142, 156]]) (.seq (.seq (.reg law03_C_gate_r14 [.keep [6, 10, 14, 74] [6, 14, 70, 79, 86, 94, 105, 126, 142, 156]]) (.cond (.tmp 74) (.reg law03_C_gate_r15 [.keep [6, 14] [6, 14, 70, 79, 86, 94, 105, 126, 142, 156]]) .skip)) (.seq (.reg law03_C_gate_r16 [.keep [6] [6, 70, 79, 86, 94, 105, 126, 142, 156]]) .ret))) law03_C_gate_c4))) (.seq (.reg law03_C_gate_r31 [.keep [6] [6, 70, 79, 86, 94, 105, 126, 142, 156]]) .ret)))))))))
@[simp ↓] theorem law03_C_gate_g0_run : run P Γ law03_C_gate_g0 Q s = run P Γ (.gh (.seq (.seq (.reg law03_C_gate_r5 [.keep [2, 3, 4, 6, 7, 8, 9, 10, 11, 12, 39] [6, 51, 70, 79, 86, 94, 105, 126, 142, 156]]) (.cond (.tmp 39) .skip (.exit 0))) (.seq (.block 1 (.seq (.reg law03_C_gate_r7 [.keep [2, 3, 4, 6, 7, 8, 9, 10, 11, 12, 47] [6, 51, 70, 79, 86, 94, 105, 126, 142, 156]]) (.cond (.tmp 47) (.reg law03_C_gate_r8 [.keep [2, 3, 4, 6, 7, 8, 9, 10, 11, 12] [6, 51, 70, 79, 86, 94, 105, 126, 142, 156]]) .skip))) (.reg law03_C_gate_r6 [.keep [2, 3, 4, 6, 7, 8, 9, 10, 11, 12] [6, 51, 70, 79, 86, 94, 105, 126, 142, 156]]))) [.keep [2, 3, 4, 6, 7, 8, 9, 10, 11, 12] [6, 51, 70, 79, 86, 94, 105, 126, 142, 156]]) Q s := Eq.trans rfl rfl
@[simp ↓] theorem law03_C_gate_c2_run : run P Γ law03_C_gate_c2 Q s = run P Γ (.seq (.reg law03_C_gate_r24 [.keep [6, 11, 15] [6, 51, 70, 79, 86, 94, 105, 126, 142, 156]]) (.seq (.reg law03_C_gate_r25 [.keep [6, 11, 15, 16] [6, 16, 51, 70, 79, 86, 94, 105, 126, 142, 156]]) (.seq (.seq (.reg law03_C_gate_r26 [.keep [6, 11, 15, 16, 130] [6, 16, 51, 70, 79, 86, 94, 105, 126, 142, 156]]) (.cond (.tmp 130) (.reg law03_C_gate_r27 [.keep [6, 16] [6, 16, 70, 79, 86, 94, 105, 126, 142, 156]]) .skip)) (.seq (.reg law03_C_gate_r28 [.keep [6] [6, 70, 79, 86, 94, 105, 126, 142, 156]]) .ret)))) Q s := Eq.trans rfl rfl
@[simp ↓] theorem law03_C_gate_c3_run : run P Γ law03_C_gate_c3 Q s = run P Γ (.seq (.reg law03_C_gate_r21 [.keep [4, 6, 8, 9, 11, 13, 96] [6, 51, 70, 79, 86, 94, 105, 126, 142, 156]]) (.cond (.tmp 96) (.seq (.reg law03_C_gate_r22 [.keep [6] [6, 70, 79, 86, 94, 105, 126, 142, 156]]) .ret) (.seq (.reg law03_C_gate_r23 [.keep [4, 6, 8, 11, 107] [6, 51, 70, 79, 86, 94, 105, 126, 142, 156]]) (.cond (.tmp 107) law03_C_gate_c2 (.seq (.reg law03_C_gate_r29 [.keep [4, 6, 8, 145] [6, 70, 79, 86, 94, 105, 126, 142, 156]]) (.cond (.tmp 145) (.seq (.reg law03_C_gate_r30 [.keep [6] [6, 70, 79, 86, 94, 105, 126, 142, 156]]) .ret) .skip)))))) Q s := Eq.trans rfl rfl
@[simp ↓] theorem law03_C_gate_c4_run : run P Γ law03_C_gate_c4 Q s = run P Γ (.seq (.reg law03_C_gate_r17 [.keep [4, 6, 8, 9, 10, 11, 13, 82] [6, 51, 70, 79, 86, 94, 105, 126, 142, 156]]) (.cond (.tmp 82) (.seq (.reg law03_C_gate_r18 [.keep [6] [6, 70, 79, 86, 94, 105, 126, 142, 156]]) .ret) (.seq (.reg law03_C_gate_r19 [.keep [4, 6, 8, 9, 10, 11, 13, 88] [6, 51, 70, 79, 86, 94, 105, 126, 142, 156]]) (.cond (.tmp 88) (.seq (.reg law03_C_gate_r20 [.keep [6] [6, 70, 79, 86, 94, 105, 126, 142, 156]]) .ret) law03_C_gate_c3)))) Q s := Eq.trans rfl rfl
@[simp ↓] theorem law03_C_gate_ic_run : run P Γ law03_C_gate_ic Q s = run P Γ (.seq (.reg law03_C_gate_r0 [.keep [2, 3, 4, 6] [6, 70, 79, 86, 94, 105, 126, 142, 156]]) (.seq (.reg law03_C_gate_r1 [.keep [2, 3, 4, 6, 7] [6, 70, 79, 86, 94, 105, 126, 142, 156]]) (.seq (.reg law03_C_gate_r2 [.keep [2, 3, 4, 6, 7, 8, 9, 10] [6, 70, 79, 86, 94, 105, 126, 142, 156]]) (.seq (.reg law03_C_gate_r3 [.nl 11 51 3 1, .keep [2, 3, 4, 6, 7, 8, 9, 10, 11] [6, 51, 70, 79, 86, 94, 105, 126, 142, 156]]) (.seq (.seq (.reg law03_C_gate_r4 [.keep [2, 3, 4, 6, 7, 8, 9, 10, 11, 12] [6, 51, 70, 79, 86, 94, 105, 126, 142, 156]]) (.block 0 law03_C_gate_l1)) (.seq (.reg law03_C_gate_r9 [.keep [3, 4, 6, 8, 9, 10, 11, 13] [6, 51, 70, 79, 86, 94, 105, 126, 142, 156]]) (.seq (.seq (.reg law03_C_gate_r10 [.keep [4, 6, 8, 9, 10, 11, 13, 57] [6, 51, 70, 79, 86, 94, 105, 126, 142, 156]]) (.cond (.tmp 57) (.reg law03_C_gate_r11 [.keep [4, 6, 8, 9, 10, 11, 13] [6, 51, 70, 79, 86, 94, 105, 126, 142, 156]]) .skip)) (.seq (.block 2 (.seq (.reg law03_C_gate_r12 [.keep [4, 6, 8, 9, 10, 11, 13, 62] [6, 51, 70, 79, 86, 94, 105, 126, 142, 156]]) (.cond (.tmp 62) (.seq (.reg law03_C_gate_r13 [.keep [4, 6, 10, 14] [6, 14, 70, 79, 86, 94, 105, 126, 142, 156]]) (.seq (.seq (.reg law03_C_gate_r14 [.keep [6, 10, 14, 74] [6, 14, 70, 79, 86, 94, 105, 126, 142, 156]]) (.cond (.tmp 74) (.reg law03_C_gate_r15 [.keep [6, 14] [6, 14, 70, 79, 86, 94, 105, 126, 142, 156]]) .skip)) (.seq (.reg law03_C_gate_r16 [.keep [6] [6, 70, 79, 86, 94, 105, 126, 142, 156]]) .ret))) law03_C_gate_c4))) (.seq (.reg law03_C_gate_r31 [.keep [6] [6, 70, 79, 86, 94, 105, 126, 142, 156]]) .ret))))))))) Q s := Eq.trans rfl rfl
theorem law03_C_gate_l1_run (h : ∀ K : St → Prop, K = run P Γ law03_C_gate_l1 Q → run P Γ law03_C_gate_g0 (thenX K Q) s) : run P Γ law03_C_gate_l1 Q s := run_loop h
attribute [simp] law03_C_gate_r0 law03_C_gate_r1 law03_C_gate_r2 law03_C_gate_r3 law03_C_gate_r4 law03_C_gate_r5 law03_C_gate_r7 law03_C_gate_r8 law03_C_gate_r6 law03_C_gate_r9 law03_C_gate_r10 law03_C_gate_r11 law03_C_gate_r12 law03_C_gate_r13 law03_C_gate_r14 law03_C_gate_r15 law03_C_gate_r16 law03_C_gate_r17 law03_C_gate_r18 law03_C_gate_r19 law03_C_gate_r20 law03_C_gate_r21 law03_C_gate_r22 law03_C_gate_r23 law03_C_gate_r24 law03_C_gate_r25 law03_C_gate_r26 law03_C_gate_r27 law03_C_gate_r28 law03_C_gate_r29 law03_C_gate_r30 law03_C_gate_r31
def law03_C_gate_rv : List RV := [.cell 6 4 true]

/- probecard/probecardlaw03.name (function 40) -/
def law03_name_r0 : List RO := [
    ⟨some 2, .mv (.const (sV [])), none, none⟩]
def law03_name_r1 : List RO := [
    ⟨some 3, .mv (.tmp 0), none, none⟩,
    ⟨some 4, .bin .quo (.tmp 3) (.const (.int .i64 10)), none, none⟩,
    ⟨some 5, .bin .add (.const (.int .i64 48)) (.tmp 4), none, none⟩,
    ⟨some 6, .conv .u8 (.tmp 5), none, none⟩,
    ⟨some 7, .mv (.tmp 0), none, none⟩,
    ⟨some 8, .bin .rem (.tmp 7) (.const (.int .i64 10)), none, none⟩,
    ⟨some 9, .bin .add (.const (.int .i64 48)) (.tmp 8), none, none⟩,
    ⟨some 10, .conv .u8 (.tmp 9), none, none⟩,
    ⟨some 11, .bsl true 5 1 [(.const (.int .u8 110)), (.tmp 6), (.tmp 10)], none, none⟩,
    ⟨some 12, .bytesStr (.tmp 11), none, none⟩,
    ⟨some 2, .mv (.tmp 12), none, none⟩]
def law03_name_ic : IC := (.seq (.reg law03_name_r0 [.keep [0] []]) (.seq (.reg law03_name_r1 [.keep [2] []]) .ret))
@[simp ↓] theorem law03_name_ic_run : run P Γ law03_name_ic Q s = run P Γ (.seq (.reg law03_name_r0 [.keep [0] []]) (.seq (.reg law03_name_r1 [.keep [2] []]) .ret)) Q s := Eq.trans rfl rfl
attribute [simp] law03_name_r0 law03_name_r1
def law03_name_rv : List RV := [.tmp 2]

/- probecard/scans.plain (function 41) -/
def scans_plain_r0 : List RO := [
    ⟨some 1, .box true (.tmp 0), none, none⟩,
    ⟨some 2, .mv (.const (.int .i64 0)), none, none⟩]
def scans_plain_r1 : List RO := [
    ⟨some 4, .load 4 true (.tmp 1), none, none⟩,
    ⟨some 5, .call 14 [(.tmp 4)], none, none⟩,
    ⟨some 3, .mv (.tmp 5), none, none⟩]
def scans_plain_r2 : List RO := [
    ⟨some 6, .mv (.tmp 3), none, none⟩,
    ⟨some 7, .bin .neq (.tmp 6) (.const (.int .i64 0)), none, none⟩]
def scans_plain_r3 : List RO := [
    ⟨some 8, .mv (.tmp 3), none, none⟩,
    ⟨some 2, .mv (.tmp 8), none, none⟩]
def scans_plain_r4 : List RO := [
    ⟨some 9, .fadr 2 (.tmp 1), none, none⟩,
    ⟨some 10, .load 1 false (.tmp 9), none, none⟩,
    ⟨some 11, .len 0 (.tmp 10), none, none⟩,
    ⟨some 12, .bin .gtr (.tmp 11) (.const (.int .i64 0)), none, none⟩,
    ⟨some 13, .mv (.tmp 12), none, none⟩,
    ⟨some 14, .load 4 true (.tmp 1), some (13, false), none⟩,
    ⟨some 15, .bsl true 41 1 [(.const (.int .u8 15))], some (13, false), none⟩,
    ⟨some 16, .call 15 [(.tmp 14), (.tmp 15)], some (13, false), none⟩,
    ⟨some 17, .len 0 (.tmp 16), some (13, false), none⟩,
    ⟨some 18, .bin .gtr (.tmp 17) (.const (.int .i64 0)), some (13, false), none⟩,
    ⟨some 19, .pick (.tmp 13) (.const (.bool true)) (.tmp 18), none, none⟩]
def scans_plain_r5 : List RO := [
    ⟨some 2, .mv (.const (.int .i64 7)), none, none⟩]
def scans_plain_r6 : List RO := [
    ⟨some 2, .mv (.const (.int .i64 0)), none, none⟩]
def scans_plain_ic : IC := (.seq (.reg scans_plain_r0 [.keep [1] []]) (.seq (.seq (.reg scans_plain_r1 [.keep [1, 3] []]) (.seq (.reg scans_plain_r2 [.keep [1, 3, 7] []]) (.cond (.tmp 7) (.seq (.reg scans_plain_r3 [.keep [2] []]) .ret) .skip))) (.seq (.seq (.reg scans_plain_r4 [.keep [19] []]) (.cond (.tmp 19) (.seq (.reg scans_plain_r5 [.keep [2] []]) .ret) .skip)) (.seq (.reg scans_plain_r6 [.keep [2] []]) .ret))))
@[simp ↓] theorem scans_plain_ic_run : run P Γ scans_plain_ic Q s = run P Γ (.seq (.reg scans_plain_r0 [.keep [1] []]) (.seq (.seq (.reg scans_plain_r1 [.keep [1, 3] []]) (.seq (.reg scans_plain_r2 [.keep [1, 3, 7] []]) (.cond (.tmp 7) (.seq (.reg scans_plain_r3 [.keep [2] []]) .ret) .skip))) (.seq (.seq (.reg scans_plain_r4 [.keep [19] []]) (.cond (.tmp 19) (.seq (.reg scans_plain_r5 [.keep [2] []]) .ret) .skip)) (.seq (.reg scans_plain_r6 [.keep [2] []]) .ret)))) Q s := Eq.trans rfl rfl
attribute [simp] scans_plain_r0 scans_plain_r1 scans_plain_r2 scans_plain_r3 scans_plain_r4 scans_plain_r5 scans_plain_r6
def scans_plain_rv : List RV := [.tmp 2]

/- slices.Clip[[]int,int] (function 42) -/
def slices_Clip_int_r0 : List RO := [
    ⟨some 2, .mv (.const (.slice none 0 0)), none, none⟩]
def slices_Clip_int_r1 : List RO := [
    ⟨some 3, .mv (.tmp 0), none, none⟩,
    ⟨some 4, .mv (.tmp 0), none, none⟩,
    ⟨some 5, .len 0 (.tmp 4), none, none⟩,
    ⟨some 6, .mv (.tmp 0), none, none⟩,
    ⟨some 7, .len 0 (.tmp 6), none, none⟩,
    ⟨some 8, .slice 1 (.tmp 3) none (some (.tmp 5)) (some (.tmp 7)), none, none⟩,
    ⟨some 2, .mv (.tmp 8), none, none⟩]
def slices_Clip_int_ic : IC := (.seq (.reg slices_Clip_int_r0 [.keep [0] [1000000]]) (.seq (.reg slices_Clip_int_r1 [.keep [2] [1000000]]) .ret))
@[simp ↓] theorem slices_Clip_int_ic_run : run P Γ slices_Clip_int_ic Q s = run P Γ (.seq (.reg slices_Clip_int_r0 [.keep [0] [1000000]]) (.seq (.reg slices_Clip_int_r1 [.keep [2] [1000000]]) .ret)) Q s := Eq.trans rfl rfl
attribute [simp] slices_Clip_int_r0 slices_Clip_int_r1
def slices_Clip_int_rv : List RV := [.tmp 2]

/- slices.Clone[[]int,int] (function 43) -/
def slices_Clone_int_r0 : List RO := [
    ⟨some 2, .mv (.const (.slice none 0 0)), none, none⟩]
def slices_Clone_int_r1 : List RO := [
    ⟨some 3, .mv (.tmp 0), none, none⟩,
    ⟨some 4, .isNil true (.tmp 3), none, none⟩]
def slices_Clone_int_r2 : List RO := [
    ⟨some 2, .mv (.const (.slice none 0 0)), none, none⟩]
def slices_Clone_int_r3 : List RO := [
    ⟨some 5, .bsl true 3 1 [], none, none⟩,
    ⟨some 6, .mv (.tmp 0), none, none⟩,
    ⟨some 7, .app false 3 1 (.tmp 5) (.tmp 6), none, none⟩,
    ⟨some 2, .mv (.tmp 7), none, none⟩]
def slices_Clone_int_ic : IC := (.seq (.reg slices_Clone_int_r0 [.keep [0] []]) (.seq (.seq (.reg slices_Clone_int_r1 [.keep [0, 4] []]) (.cond (.tmp 4) (.seq (.reg slices_Clone_int_r2 [.keep [2] [7]]) .ret) .skip)) (.seq (.reg slices_Clone_int_r3 [.keep [2] [7]]) .ret)))
@[simp ↓] theorem slices_Clone_int_ic_run : run P Γ slices_Clone_int_ic Q s = run P Γ (.seq (.reg slices_Clone_int_r0 [.keep [0] []]) (.seq (.seq (.reg slices_Clone_int_r1 [.keep [0, 4] []]) (.cond (.tmp 4) (.seq (.reg slices_Clone_int_r2 [.keep [2] [7]]) .ret) .skip)) (.seq (.reg slices_Clone_int_r3 [.keep [2] [7]]) .ret))) Q s := Eq.trans rfl rfl
attribute [simp] slices_Clone_int_r0 slices_Clone_int_r1 slices_Clone_int_r2 slices_Clone_int_r3
def slices_Clone_int_rv : List RV := [.tmp 2]

/- slices.Clip[[][]int,[]int] (function 44) -/
def slices_Clip_ints_r0 : List RO := [
    ⟨some 2, .mv (.const (.slice none 0 0)), none, none⟩]
def slices_Clip_ints_r1 : List RO := [
    ⟨some 3, .mv (.tmp 0), none, none⟩,
    ⟨some 4, .mv (.tmp 0), none, none⟩,
    ⟨some 5, .len 0 (.tmp 4), none, none⟩,
    ⟨some 6, .mv (.tmp 0), none, none⟩,
    ⟨some 7, .len 0 (.tmp 6), none, none⟩,
    ⟨some 8, .slice 1 (.tmp 3) none (some (.tmp 5)) (some (.tmp 7)), none, none⟩,
    ⟨some 2, .mv (.tmp 8), none, none⟩]
def slices_Clip_ints_ic : IC := (.seq (.reg slices_Clip_ints_r0 [.keep [0] []]) (.seq (.reg slices_Clip_ints_r1 [.keep [2] []]) .ret))
@[simp ↓] theorem slices_Clip_ints_ic_run : run P Γ slices_Clip_ints_ic Q s = run P Γ (.seq (.reg slices_Clip_ints_r0 [.keep [0] []]) (.seq (.reg slices_Clip_ints_r1 [.keep [2] []]) .ret)) Q s := Eq.trans rfl rfl
attribute [simp] slices_Clip_ints_r0 slices_Clip_ints_r1
def slices_Clip_ints_rv : List RV := [.tmp 2]

/- probecard/netlists.Levels (function 45) -/
def netlists_Levels_r0 : List RO := [
    ⟨some 1, .box true (.tmp 0), none, none⟩,
    ⟨some 2, .mv (.const (.slice none 0 0)), none, none⟩,
    ⟨some 3, .mv (.const (.int .i64 0)), none, none⟩]
def netlists_Levels_r1 : List RO := [
    ⟨some 15, .load 4 true (.tmp 1), none, none⟩,
    ⟨some 16, .call 76 [(.tmp 15)], none, none⟩,
    ⟨some 4, .mv (.tmp 16), none, none⟩]
def netlists_Levels_r2 : List RO := [
    ⟨some 17, .mv (.tmp 4), none, none⟩,
    ⟨some 18, .bin .neq (.tmp 17) (.const (.int .i64 0)), none, none⟩]
def netlists_Levels_r3 : List RO := [
    ⟨some 19, .mv (.tmp 4), none, none⟩,
    ⟨some 2, .mv (.const (.slice none 0 0)), none, none⟩,
    ⟨some 3, .mv (.tmp 19), none, none⟩]
def netlists_Levels_r4 : List RO := [
    ⟨some 20, .fadr 0 (.tmp 1), none, none⟩,
    ⟨some 21, .load 1 false (.tmp 20), none, none⟩,
    ⟨some 22, .len 0 (.tmp 21), none, none⟩,
    ⟨some 23, .mk 3 1 [(.int .i64 0)] (.tmp 22) (.tmp 22), none, none⟩,
    ⟨some 5, .mv (.tmp 23), none, none⟩]
def netlists_Levels_r5 : List RO := [
    ⟨some 24, .fadr 0 (.tmp 1), none, none⟩,
    ⟨some 25, .load 1 false (.tmp 24), none, none⟩,
    ⟨some 26, .len 0 (.tmp 25), none, none⟩,
    ⟨some 27, .mk 3 1 [(.int .i64 0)] (.tmp 26) (.tmp 26), none, none⟩,
    ⟨some 6, .mv (.tmp 27), none, none⟩]
def netlists_Levels_r6 : List RO := [
    ⟨some 7, .mv (.const (.slice none 0 0)), none, none⟩]
def netlists_Levels_r7 : List RO := [
    ⟨some 28, .fadr 0 (.tmp 1), none, none⟩,
    ⟨some 29, .load 1 false (.tmp 28), none, none⟩,
    ⟨some 30, .len 0 (.tmp 29), none, none⟩,
    ⟨some 31, .mv (.const (.int .i64 0)), none, none⟩]
def netlists_Levels_r8 : List RO := [
    ⟨some 32, .bin .lss (.tmp 31) (.tmp 30), none, none⟩]
def netlists_Levels_r9 : List RO := [
    ⟨some 33, .mv (.tmp 31), none, none⟩,
    ⟨some 34, .iadr 4 (.tmp 29) (.tmp 31), none, none⟩,
    ⟨some 35, .load 4 true (.tmp 34), none, none⟩,
    ⟨some 9, .alloc false [(.int .u8 0), (.slice none 0 0), (.int .i64 0), (.int .i64 0)], none, none⟩,
    ⟨some 8, .mv (.tmp 33), none, none⟩,
    ⟨none, .store 4 (.tmp 9) (.tmp 35), none, none⟩]
def netlists_Levels_r10 : List RO := [
    ⟨some 36, .fadr 0 (.tmp 9), none, none⟩,
    ⟨some 37, .load 1 false (.tmp 36), none, none⟩,
    ⟨some 38, .call 35 [(.tmp 37)], none, none⟩]
def netlists_Levels_r11 : List RO := [
    ⟨some 39, .mv (.tmp 6), none, none⟩,
    ⟨some 40, .mv (.tmp 8), none, none⟩,
    ⟨some 41, .fadr 1 (.tmp 9), none, none⟩,
    ⟨some 42, .load 1 false (.tmp 41), none, none⟩,
    ⟨some 43, .len 0 (.tmp 42), none, none⟩,
    ⟨some 44, .iadr 1 (.tmp 39) (.tmp 40), none, none⟩,
    ⟨none, .store 1 (.tmp 44) (.tmp 43), none, none⟩]
def netlists_Levels_r12 : List RO := [
    ⟨some 45, .mv (.tmp 6), none, none⟩,
    ⟨some 46, .mv (.tmp 8), none, none⟩,
    ⟨some 47, .iadr 1 (.tmp 45) (.tmp 46), none, none⟩,
    ⟨some 48, .load 1 false (.tmp 47), none, none⟩,
    ⟨some 49, .bin .eql (.tmp 48) (.const (.int .i64 0)), none, none⟩]
def netlists_Levels_r13 : List RO := [
    ⟨some 50, .mv (.tmp 7), none, none⟩,
    ⟨some 51, .mv (.tmp 8), none, none⟩,
    ⟨some 52, .bsl true 3 1 [(.tmp 51)], none, none⟩,
    ⟨some 53, .app false 3 1 (.tmp 50) (.tmp 52), none, none⟩,
    ⟨some 7, .mv (.tmp 53), none, none⟩]
def netlists_Levels_r14 : List RO := [
    ⟨some 54, .bin .add (.tmp 31) (.const (.int .i64 1)), none, none⟩,
    ⟨some 31, .mv (.tmp 54), none, none⟩]
def netlists_Levels_g0 : IC := .gh (.seq (.reg netlists_Levels_r8 [.keep [1, 5, 6, 7, 29, 30, 31, 32] [23, 27, 53]]) (.seq (.cond (.tmp 32) .skip (.exit 0)) (.seq (.block 1 (.seq (.reg netlists_Levels_r9 [.keep [1, 5, 6, 7, 8, 9, 29, 30, 31] [9, 23, 27, 53]]) (.seq (.seq (.reg netlists_Levels_r10 [.keep [1, 5, 6, 7, 8, 9, 29, 30, 31, 38] [9, 23, 27, 53]]) (.cond (.tmp 38) (.reg netlists_Levels_r11 [.keep [1, 5, 6, 7, 8, 29, 30, 31] [23, 27, 53]]) .skip)) (.seq (.reg netlists_Levels_r12 [.keep [1, 5, 6, 7, 8, 29, 30, 31, 49] [23, 27, 53]]) (.cond (.tmp 49) (.reg netlists_Levels_r13 [.keep [1, 5, 6, 7, 29, 30, 31] [23, 27, 53]]) .skip))))) (.reg netlists_Levels_r14 [.keep [1, 5, 6, 7, 29, 30, 31] [23, 27, 53]])))) [.keep [1, 5, 6, 7, 29, 30, 31] [23, 27, 53]]
def netlists_Levels_l1 : IC := .loop netlists_Levels_g0
def netlists_Levels_r15 : List RO := [
    ⟨some 55, .load 4 true (.tmp 1), none, none⟩,
    ⟨some 56, .call 77 [(.tmp 55)], none, none⟩,
    ⟨some 10, .mv (.tmp 56), none, none⟩]
def netlists_Levels_r16 : List RO := [
    ⟨some 11, .mv (.const (.int .i64 0)), none, none⟩]
def netlists_Levels_r17 : List RO := [
    ⟨some 57, .mv (.tmp 11), none, none⟩,
    ⟨some 58, .mv (.tmp 7), none, none⟩,
    ⟨some 59, .len 0 (.tmp 58), none, none⟩,
    ⟨some 60, .bin .lss (.tmp 57) (.tmp 59), none, none⟩]
def netlists_Levels_r18 : List RO := [
    ⟨some 61, .mv (.tmp 7), none, none⟩,
    ⟨some 62, .mv (.tmp 11), none, none⟩,
    ⟨some 63, .iadr 1 (.tmp 61) (.tmp 62), none, none⟩,
    ⟨some 64, .load 1 false (.tmp 63), none, none⟩,
    ⟨some 12, .mv (.tmp 64), none, none⟩]
def netlists_Levels_r19 : List RO := [
    ⟨some 65, .mv (.tmp 11), none, none⟩,
    ⟨some 66, .bin .add (.tmp 65) (.const (.int .i64 1)), none, none⟩,
    ⟨some 11, .mv (.tmp 66), none, none⟩]
def netlists_Levels_r20 : List RO := [
    ⟨some 67, .mv (.tmp 10), none, none⟩,
    ⟨some 68, .mv (.tmp 12), none, none⟩,
    ⟨some 69, .iadr 1 (.tmp 67) (.tmp 68), none, none⟩,
    ⟨some 70, .load 1 false (.tmp 69), none, none⟩,
    ⟨some 71, .len 0 (.tmp 70), none, none⟩,
    ⟨some 72, .bin .eql (.tmp 71) (.const (.int .i64 0)), none, none⟩]
def netlists_Levels_r21 : List RO := [
    ⟨some 73, .mv (.tmp 10), none, none⟩,
    ⟨some 74, .mv (.tmp 12), none, none⟩,
    ⟨some 75, .iadr 1 (.tmp 73) (.tmp 74), none, none⟩,
    ⟨some 76, .load 1 false (.tmp 75), none, none⟩,
    ⟨some 77, .len 0 (.tmp 76), none, none⟩,
    ⟨some 78, .mv (.const (.int .i64 0)), none, none⟩]
def netlists_Levels_r22 : List RO := [
    ⟨some 79, .bin .lss (.tmp 78) (.tmp 77), none, none⟩]
def netlists_Levels_r23 : List RO := [
    ⟨some 80, .iadr 2 (.tmp 76) (.tmp 78), none, none⟩,
    ⟨some 81, .load 2 true (.tmp 80), none, none⟩,
    ⟨some 14, .alloc false [(.int .i64 0), (.int .i64 0)], none, none⟩,
    ⟨none, .store 2 (.tmp 14) (.tmp 81), none, none⟩]
def netlists_Levels_r24 : List RO := [
    ⟨some 82, .fadr 0 (.tmp 1), none, none⟩,
    ⟨some 83, .load 1 false (.tmp 82), none, none⟩,
    ⟨some 84, .fadr 0 (.tmp 14), none, none⟩,
    ⟨some 85, .load 1 false (.tmp 84), none, none⟩,
    ⟨some 86, .iadr 4 (.tmp 83) (.tmp 85), none, none⟩,
    ⟨some 87, .fadr 0 (.tmp 86), none, none⟩,
    ⟨some 88, .load 1 false (.tmp 87), none, none⟩,
    ⟨some 89, .call 35 [(.tmp 88)], none, none⟩,
    ⟨some 90, .un .not (.tmp 89), none, none⟩]
def netlists_Levels_r25 : List RO := [
    ⟨some 91, .mv (.tmp 5), none, none⟩,
    ⟨some 92, .fadr 0 (.tmp 14), none, none⟩,
    ⟨some 93, .ldR 14 1 false (.tmp 92), none, none⟩,
    ⟨some 94, .mv (.tmp 5), none, none⟩,
    ⟨some 95, .fadr 0 (.tmp 14), none, none⟩,
    ⟨some 96, .ldR 14 1 false (.tmp 95), none, none⟩,
    ⟨some 97, .iadr 1 (.tmp 94) (.tmp 96), none, none⟩,
    ⟨some 98, .ldR 23 1 false (.tmp 97), none, none⟩,
    ⟨some 99, .mv (.tmp 5), none, none⟩,
    ⟨some 100, .mv (.tmp 12), none, none⟩,
    ⟨some 101, .iadr 1 (.tmp 99) (.tmp 100), none, none⟩,
    ⟨some 102, .ldR 23 1 false (.tmp 101), none, none⟩,
    ⟨some 103, .bin .add (.tmp 102) (.const (.int .i64 1)), none, none⟩,
    ⟨some 104, .mmx true [(.tmp 98), (.tmp 103)], none, none⟩,
    ⟨some 105, .iadr 1 (.tmp 91) (.tmp 93), none, none⟩,
    ⟨none, .stR 23 1 (.tmp 105) (.tmp 104), none, none⟩]
def netlists_Levels_r26 : List RO := [
    ⟨some 106, .mv (.tmp 6), none, none⟩,
    ⟨some 107, .fadr 0 (.tmp 14), none, none⟩,
    ⟨some 108, .load 1 false (.tmp 107), none, none⟩,
    ⟨some 109, .iadr 1 (.tmp 106) (.tmp 108), none, none⟩,
    ⟨some 110, .load 1 false (.tmp 109), none, none⟩,
    ⟨some 111, .bin .sub (.tmp 110) (.const (.int .i64 1)), none, none⟩,
    ⟨some 112, .iadr 1 (.tmp 106) (.tmp 108), none, none⟩,
    ⟨none, .store 1 (.tmp 112) (.tmp 111), none, none⟩]
def netlists_Levels_r27 : List RO := [
    ⟨some 113, .mv (.tmp 6), none, none⟩,
    ⟨some 114, .fadr 0 (.tmp 14), none, none⟩,
    ⟨some 115, .load 1 false (.tmp 114), none, none⟩,
    ⟨some 116, .iadr 1 (.tmp 113) (.tmp 115), none, none⟩,
    ⟨some 117, .load 1 false (.tmp 116), none, none⟩,
    ⟨some 118, .bin .eql (.tmp 117) (.const (.int .i64 0)), none, none⟩]
def netlists_Levels_r28 : List RO := [
    ⟨some 119, .mv (.tmp 7), none, none⟩,
    ⟨some 120, .fadr 0 (.tmp 14), none, none⟩,
    ⟨some 121, .load 1 false (.tmp 120), none, none⟩,
    ⟨some 122, .bsl true 3 1 [(.tmp 121)], none, none⟩,
    ⟨some 123, .app false 3 1 (.tmp 119) (.tmp 122), none, some 53⟩,
    ⟨some 7, .mv (.tmp 123), none, none⟩]
def netlists_Levels_r29 : List RO := [
    ⟨some 124, .bin .add (.tmp 78) (.const (.int .i64 1)), none, none⟩,
    ⟨some 78, .mv (.tmp 124), none, none⟩]
def netlists_Levels_g2 : IC := .gh (.seq (.reg netlists_Levels_r22 [.keep [1, 5, 6, 7, 10, 11, 12, 76, 77, 78, 79] [23, 27, 53]]) (.seq (.cond (.tmp 79) .skip (.exit 4)) (.seq (.block 5 (.seq (.reg netlists_Levels_r23 [.keep [1, 5, 6, 7, 10, 11, 12, 14, 76, 77, 78] [14, 23, 27, 53]]) (.seq (.seq (.reg netlists_Levels_r24 [.keep [1, 5, 6, 7, 10, 11, 12, 14, 76, 77, 78, 90] [14, 23, 27, 53]]) (.cond (.tmp 90) (.exit 5) .skip)) (.seq (.reg netlists_Levels_r25 [.keep [1, 5, 6, 7, 10, 11, 12, 14, 76, 77, 78] [14, 23, 27, 53]]) (.seq (.reg netlists_Levels_r26 [.keep [1, 5, 6, 7, 10, 11, 12, 14, 76, 77, 78] [14, 23, 27, 53]]) (.seq (.reg netlists_Levels_r27 [.keep [1, 5, 6, 7, 10, 11, 12, 14, 76, 77, 78, 118] [14, 23, 27, 53]]) (.cond (.tmp 118) (.reg netlists_Levels_r28 [.keep [1, 5, 6, 7, 10, 11, 12, 76, 77, 78] [23, 27, 53]]) .skip))))))) (.reg netlists_Levels_r29 [.keep [1, 5, 6, 7, 10, 11, 12, 76, 77, 78] [23, 27, 53]])))) [.keep [1, 5, 6, 7, 10, 11, 12, 76, 77, 78] [23, 27, 53]]
def netlists_Levels_l3 : IC := .loop netlists_Levels_g2
def netlists_Levels_g4 : IC := .gh (.seq (.seq (.reg netlists_Levels_r17 [.keep [1, 5, 6, 7, 10, 11, 60] [23, 27, 53]]) (.cond (.tmp 60) .skip (.exit 2))) (.block 3 (.seq (.reg netlists_Levels_r18 [.keep [1, 5, 6, 7, 10, 11, 12] [23, 27, 53]]) (.seq (.reg netlists_Levels_r19 [.keep [1, 5, 6, 7, 10, 11, 12] [23, 27, 53]]) (.seq (.seq (.reg netlists_Levels_r20 [.keep [1, 5, 6, 7, 10, 11, 12, 72] [23, 27, 53]]) (.cond (.tmp 72) (.exit 3) .skip)) (.seq (.reg netlists_Levels_r21 [.keep [1, 5, 6, 7, 10, 11, 12, 76, 77, 78] [23, 27, 53]]) (.block 4 netlists_Levels_l3))))))) [.keep [1, 5, 6, 7, 10, 11] [23, 27, 53]]
def netlists_Levels_l5 : IC := .loop netlists_Levels_g4
def netlists_Levels_r30 : List RO := [
    ⟨some 125, .mv (.tmp 11), none, none⟩,
    ⟨some 126, .fadr 0 (.tmp 1), none, none⟩,
    ⟨some 127, .load 1 false (.tmp 126), none, none⟩,
    ⟨some 128, .len 0 (.tmp 127), none, none⟩,
    ⟨some 129, .bin .lss (.tmp 125) (.tmp 128), none, none⟩]
def netlists_Levels_r31 : List RO := [
    ⟨some 2, .mv (.const (.slice none 0 0)), none, none⟩,
    ⟨some 3, .mv (.const (.int .i64 6)), none, none⟩]
def netlists_Levels_r32 : List RO := [
    ⟨some 130, .mv (.tmp 5), none, none⟩,
    ⟨some 2, .mv (.tmp 130), none, none⟩,
    ⟨some 3, .mv (.const (.int .i64 0)), none, none⟩]
def netlists_Levels_ic : IC := (.seq (.reg netlists_Levels_r0 [.keep [1] []]) (.scope (.seq (.seq (.reg netlists_Levels_r1 [.keep [1, 4] []]) (.seq (.reg netlists_Levels_r2 [.keep [1, 4, 18] []]) (.cond (.tmp 18) (.seq (.reg netlists_Levels_r3 [.keep [2, 3] [23]]) .ret) .skip))) (.seq (.reg netlists_Levels_r4 [.keep [1, 5] [23]]) (.seq (.reg netlists_Levels_r5 [.keep [1, 5, 6] [23, 27]]) (.seq (.reg netlists_Levels_r6 [.nl 7 53 3 1, .keep [1, 5, 6, 7] [23, 27, 53]]) (.seq (.seq (.reg netlists_Levels_r7 [.keep [1, 5, 6, 7, 29, 30, 31] [23, 27, 53]]) (.block 0 netlists_Levels_l1)) (.seq (.reg netlists_Levels_r15 [.keep [1, 5, 6, 7, 10] [23, 27, 53]]) (.seq (.reg netlists_Levels_r16 [.keep [1, 5, 6, 7, 10, 11] [23, 27, 53]]) (.seq .skip (.seq (.block 2 netlists_Levels_l5) (.seq (.seq (.reg netlists_Levels_r30 [.keep [5, 129] [23]]) (.cond (.tmp 129) (.seq (.reg netlists_Levels_r31 [.keep [2, 3] [23]]) .ret) .skip)) (.seq (.reg netlists_Levels_r32 [.keep [2, 3] [23]]) .ret)))))))))))))
@[simp ↓] theorem netlists_Levels_g0_run : run P Γ netlists_Levels_g0 Q s = run P Γ (.gh (.seq (.reg netlists_Levels_r8 [.keep [1, 5, 6, 7, 29, 30, 31, 32] [23, 27, 53]]) (.seq (.cond (.tmp 32) .skip (.exit 0)) (.seq (.block 1 (.seq (.reg netlists_Levels_r9 [.keep [1, 5, 6, 7, 8, 9, 29, 30, 31] [9, 23, 27, 53]]) (.seq (.seq (.reg netlists_Levels_r10 [.keep [1, 5, 6, 7, 8, 9, 29, 30, 31, 38] [9, 23, 27, 53]]) (.cond (.tmp 38) (.reg netlists_Levels_r11 [.keep [1, 5, 6, 7, 8, 29, 30, 31] [23, 27, 53]]) .skip)) (.seq (.reg netlists_Levels_r12 [.keep [1, 5, 6, 7, 8, 29, 30, 31, 49] [23, 27, 53]]) (.cond (.tmp 49) (.reg netlists_Levels_r13 [.keep [1, 5, 6, 7, 29, 30, 31] [23, 27, 53]]) .skip))))) (.reg netlists_Levels_r14 [.keep [1, 5, 6, 7, 29, 30, 31] [23, 27, 53]])))) [.keep [1, 5, 6, 7, 29, 30, 31] [23, 27, 53]]) Q s := Eq.trans rfl rfl
@[simp ↓] theorem netlists_Levels_g2_run : run P Γ netlists_Levels_g2 Q s = run P Γ (.gh (.seq (.reg netlists_Levels_r22 [.keep [1, 5, 6, 7, 10, 11, 12, 76, 77, 78, 79] [23, 27, 53]]) (.seq (.cond (.tmp 79) .skip (.exit 4)) (.seq (.block 5 (.seq (.reg netlists_Levels_r23 [.keep [1, 5, 6, 7, 10, 11, 12, 14, 76, 77, 78] [14, 23, 27, 53]]) (.seq (.seq (.reg netlists_Levels_r24 [.keep [1, 5, 6, 7, 10, 11, 12, 14, 76, 77, 78, 90] [14, 23, 27, 53]]) (.cond (.tmp 90) (.exit 5) .skip)) (.seq (.reg netlists_Levels_r25 [.keep [1, 5, 6, 7, 10, 11, 12, 14, 76, 77, 78] [14, 23, 27, 53]]) (.seq (.reg netlists_Levels_r26 [.keep [1, 5, 6, 7, 10, 11, 12, 14, 76, 77, 78] [14, 23, 27, 53]]) (.seq (.reg netlists_Levels_r27 [.keep [1, 5, 6, 7, 10, 11, 12, 14, 76, 77, 78, 118] [14, 23, 27, 53]]) (.cond (.tmp 118) (.reg netlists_Levels_r28 [.keep [1, 5, 6, 7, 10, 11, 12, 76, 77, 78] [23, 27, 53]]) .skip))))))) (.reg netlists_Levels_r29 [.keep [1, 5, 6, 7, 10, 11, 12, 76, 77, 78] [23, 27, 53]])))) [.keep [1, 5, 6, 7, 10, 11, 12, 76, 77, 78] [23, 27, 53]]) Q s := Eq.trans rfl rfl
@[simp ↓] theorem netlists_Levels_g4_run : run P Γ netlists_Levels_g4 Q s = run P Γ (.gh (.seq (.seq (.reg netlists_Levels_r17 [.keep [1, 5, 6, 7, 10, 11, 60] [23, 27, 53]]) (.cond (.tmp 60) .skip (.exit 2))) (.block 3 (.seq (.reg netlists_Levels_r18 [.keep [1, 5, 6, 7, 10, 11, 12] [23, 27, 53]]) (.seq (.reg netlists_Levels_r19 [.keep [1, 5, 6, 7, 10, 11, 12] [23, 27, 53]]) (.seq (.seq (.reg netlists_Levels_r20 [.keep [1, 5, 6, 7, 10, 11, 12, 72] [23, 27, 53]]) (.cond (.tmp 72) (.exit 3) .skip)) (.seq (.reg netlists_Levels_r21 [.keep [1, 5, 6, 7, 10, 11, 12, 76, 77, 78] [23, 27, 53]]) (.block 4 netlists_Levels_l3))))))) [.keep [1, 5, 6, 7, 10, 11] [23, 27, 53]]) Q s := Eq.trans rfl rfl
@[simp ↓] theorem netlists_Levels_ic_run : run P Γ netlists_Levels_ic Q s = run P Γ (.seq (.reg netlists_Levels_r0 [.keep [1] []]) (.scope (.seq (.seq (.reg netlists_Levels_r1 [.keep [1, 4] []]) (.seq (.reg netlists_Levels_r2 [.keep [1, 4, 18] []]) (.cond (.tmp 18) (.seq (.reg netlists_Levels_r3 [.keep [2, 3] [23]]) .ret) .skip))) (.seq (.reg netlists_Levels_r4 [.keep [1, 5] [23]]) (.seq (.reg netlists_Levels_r5 [.keep [1, 5, 6] [23, 27]]) (.seq (.reg netlists_Levels_r6 [.nl 7 53 3 1, .keep [1, 5, 6, 7] [23, 27, 53]]) (.seq (.seq (.reg netlists_Levels_r7 [.keep [1, 5, 6, 7, 29, 30, 31] [23, 27, 53]]) (.block 0 netlists_Levels_l1)) (.seq (.reg netlists_Levels_r15 [.keep [1, 5, 6, 7, 10] [23, 27, 53]]) (.seq (.reg netlists_Levels_r16 [.keep [1, 5, 6, 7, 10, 11] [23, 27, 53]]) (.seq .skip (.seq (.block 2 netlists_Levels_l5) (.seq (.seq (.reg netlists_Levels_r30 [.keep [5, 129] [23]]) (.cond (.tmp 129) (.seq (.reg netlists_Levels_r31 [.keep [2, 3] [23]]) .ret) .skip)) (.seq (.reg netlists_Levels_r32 [.keep [2, 3] [23]]) .ret))))))))))))) Q s := Eq.trans rfl rfl
theorem netlists_Levels_l1_run (h : ∀ K : St → Prop, K = run P Γ netlists_Levels_l1 Q → run P Γ netlists_Levels_g0 (thenX K Q) s) : run P Γ netlists_Levels_l1 Q s := run_loop h
theorem netlists_Levels_l3_run (h : ∀ K : St → Prop, K = run P Γ netlists_Levels_l3 Q → run P Γ netlists_Levels_g2 (thenX K Q) s) : run P Γ netlists_Levels_l3 Q s := run_loop h
theorem netlists_Levels_l5_run (h : ∀ K : St → Prop, K = run P Γ netlists_Levels_l5 Q → run P Γ netlists_Levels_g4 (thenX K Q) s) : run P Γ netlists_Levels_l5 Q s := run_loop h
attribute [simp] netlists_Levels_r0 netlists_Levels_r1 netlists_Levels_r2 netlists_Levels_r3 netlists_Levels_r4 netlists_Levels_r5 netlists_Levels_r6 netlists_Levels_r7 netlists_Levels_r8 netlists_Levels_r9 netlists_Levels_r10 netlists_Levels_r11 netlists_Levels_r12 netlists_Levels_r13 netlists_Levels_r14 netlists_Levels_r15 netlists_Levels_r16 netlists_Levels_r17 netlists_Levels_r18 netlists_Levels_r19 netlists_Levels_r20 netlists_Levels_r21 netlists_Levels_r22 netlists_Levels_r23 netlists_Levels_r24 netlists_Levels_r25 netlists_Levels_r26 netlists_Levels_r27 netlists_Levels_r28 netlists_Levels_r29 netlists_Levels_r30 netlists_Levels_r31 netlists_Levels_r32
def netlists_Levels_rv : List RV := [.tmp 2, .tmp 3]

/- slices.Contains[[]probecard/api.Kind,probecard/api.Kind] (function 46) -/
def slices_Contains_api_Kind_r0 : List RO := [
    ⟨some 4, .mv (.const (.bool false)), none, none⟩]
def slices_Contains_api_Kind_r1 : List RO := [
    ⟨some 5, .mv (.tmp 0), none, none⟩,
    ⟨some 6, .mv (.tmp 1), none, none⟩,
    ⟨some 7, .call 78 [(.tmp 5), (.tmp 6)], none, none⟩,
    ⟨some 8, .bin .geq (.tmp 7) (.const (.int .i64 0)), none, none⟩,
    ⟨some 4, .mv (.tmp 8), none, none⟩]
def slices_Contains_api_Kind_ic : IC := (.seq (.reg slices_Contains_api_Kind_r0 [.keep [0, 1] []]) (.seq (.reg slices_Contains_api_Kind_r1 [.keep [4] []]) .ret))
@[simp ↓] theorem slices_Contains_api_Kind_ic_run : run P Γ slices_Contains_api_Kind_ic Q s = run P Γ (.seq (.reg slices_Contains_api_Kind_r0 [.keep [0, 1] []]) (.seq (.reg slices_Contains_api_Kind_r1 [.keep [4] []]) .ret)) Q s := Eq.trans rfl rfl
attribute [simp] slices_Contains_api_Kind_r0 slices_Contains_api_Kind_r1
def slices_Contains_api_Kind_rv : List RV := [.tmp 4]

/- probecard/probecardlaw34.row (function 47) -/
def law34_row_r0 : List RO := [
    ⟨some 2, .alloc false [(.slice none 0 0), (.slice none 0 0), (.slice none 0 0), (.slice none 0 0)], none, none⟩]
def law34_row_r1 : List RO := [
    ⟨some 5, .build [(1, (.const (.int .u8 0))), (1, (.const (.slice none 0 0))), (1, (.const (.int .i64 0))), (1, (.const (.int .i64 0)))], none, none⟩,
    ⟨some 6, .bsl false 48 4 [(.tmp 5)], none, some 20⟩,
    ⟨some 7, .bsl false 9 1 [(.const (sV [97]))], none, some 32⟩,
    ⟨some 8, .bsl true 3 1 [(.const (.int .i64 0))], none, none⟩,
    ⟨some 9, .build [(1, (.tmp 6)), (1, (.tmp 7)), (1, (.const (.slice none 0 0))), (1, (.tmp 8))], none, none⟩,
    ⟨some 3, .alloc false [(.slice none 0 0), (.slice none 0 0), (.slice none 0 0), (.slice none 0 0)], none, none⟩,
    ⟨none, .store 4 (.tmp 3) (.tmp 9), none, none⟩]
def law34_row_r2 : List RO := [
    ⟨some 4, .mv (.const (.int .i64 0)), none, none⟩]
def law34_row_r3 : List RO := [
    ⟨some 10, .mv (.tmp 4), none, none⟩,
    ⟨some 11, .mv (.tmp 0), none, none⟩,
    ⟨some 12, .bin .lss (.tmp 10) (.tmp 11), none, none⟩]
def law34_row_r5 : List RO := [
    ⟨some 15, .fadr 0 (.tmp 3), none, none⟩,
    ⟨some 16, .load 1 false (.tmp 15), none, none⟩,
    ⟨some 17, .bsl true 3 1 [(.const (.int .i64 0))], none, none⟩,
    ⟨some 18, .build [(1, (.const (.int .u8 14))), (1, (.tmp 17)), (1, (.const (.int .i64 0))), (1, (.const (.int .i64 0)))], none, none⟩,
    ⟨some 19, .bsl true 48 4 [(.tmp 18)], none, none⟩,
    ⟨some 20, .app false 48 4 (.tmp 16) (.tmp 19), none, none⟩,
    ⟨some 21, .fadr 0 (.tmp 3), none, none⟩,
    ⟨none, .store 1 (.tmp 21) (.tmp 20), none, none⟩]
def law34_row_r6 : List RO := [
    ⟨some 22, .fadr 1 (.tmp 3), none, none⟩,
    ⟨some 23, .ldR 3 1 false (.tmp 22), none, none⟩,
    ⟨some 24, .mv (.tmp 4), none, none⟩,
    ⟨some 25, .bin .rem (.tmp 24) (.const (.int .i64 10)), none, none⟩,
    ⟨some 26, .mv (.tmp 4), none, none⟩,
    ⟨some 27, .bin .rem (.tmp 26) (.const (.int .i64 10)), none, none⟩,
    ⟨some 28, .bin .add (.tmp 27) (.const (.int .i64 1)), none, none⟩,
    ⟨some 29, .slice 0 (.const (sV [48, 49, 50, 51, 52, 53, 54, 55, 56, 57])) (some (.tmp 25)) (some (.tmp 28)) none, none, none⟩,
    ⟨some 30, .bin .add (.const (sV [102])) (.tmp 29), none, none⟩,
    ⟨some 31, .bsl true 9 1 [(.tmp 30)], none, none⟩,
    ⟨some 32, .app false 9 1 (.tmp 23) (.tmp 31), none, none⟩,
    ⟨some 33, .fadr 1 (.tmp 3), none, none⟩,
    ⟨none, .stR 3 1 (.tmp 33) (.tmp 32), none, none⟩]
def law34_row_r4 : List RO := [
    ⟨some 13, .mv (.tmp 4), none, none⟩,
    ⟨some 14, .bin .add (.tmp 13) (.const (.int .i64 1)), none, none⟩,
    ⟨some 4, .mv (.tmp 14), none, none⟩]
def law34_row_g0 : IC := .gh (.seq (.seq (.reg law34_row_r3 [.keep [0, 2, 3, 4, 12] [2, 3, 20, 32]]) (.cond (.tmp 12) .skip (.exit 0))) (.seq (.block 1 (.seq (.reg law34_row_r5 [.keep [0, 2, 3, 4] [2, 3, 20, 32]]) (.reg law34_row_r6 [.keep [0, 2, 3, 4] [2, 3, 20, 32]]))) (.reg law34_row_r4 [.keep [0, 2, 3, 4] [2, 3, 20, 32]]))) [.keep [0, 2, 3, 4] [2, 3, 20, 32]]
def law34_row_l1 : IC := .loop law34_row_g0
def law34_row_r7 : List RO := [
    ⟨some 34, .load 4 true (.tmp 3), none, none⟩,
    ⟨none, .store 4 (.tmp 2) (.tmp 34), none, none⟩]
def law34_row_ic : IC := (.seq (.reg law34_row_r0 [.keep [0, 2] [2, 20, 32]]) (.seq (.reg law34_row_r1 [.keep [0, 2, 3] [2, 3, 20, 32]]) (.seq (.seq (.reg law34_row_r2 [.keep [0, 2, 3, 4] [2, 3, 20, 32]]) (.block 0 law34_row_l1)) (.seq (.reg law34_row_r7 [.keep [2] [2, 20, 32]]) .ret))))
@[simp ↓] theorem law34_row_g0_run : run P Γ law34_row_g0 Q s = run P Γ (.gh (.seq (.seq (.reg law34_row_r3 [.keep [0, 2, 3, 4, 12] [2, 3, 20, 32]]) (.cond (.tmp 12) .skip (.exit 0))) (.seq (.block 1 (.seq (.reg law34_row_r5 [.keep [0, 2, 3, 4] [2, 3, 20, 32]]) (.reg law34_row_r6 [.keep [0, 2, 3, 4] [2, 3, 20, 32]]))) (.reg law34_row_r4 [.keep [0, 2, 3, 4] [2, 3, 20, 32]]))) [.keep [0, 2, 3, 4] [2, 3, 20, 32]]) Q s := Eq.trans rfl rfl
@[simp ↓] theorem law34_row_ic_run : run P Γ law34_row_ic Q s = run P Γ (.seq (.reg law34_row_r0 [.keep [0, 2] [2, 20, 32]]) (.seq (.reg law34_row_r1 [.keep [0, 2, 3] [2, 3, 20, 32]]) (.seq (.seq (.reg law34_row_r2 [.keep [0, 2, 3, 4] [2, 3, 20, 32]]) (.block 0 law34_row_l1)) (.seq (.reg law34_row_r7 [.keep [2] [2, 20, 32]]) .ret)))) Q s := Eq.trans rfl rfl
theorem law34_row_l1_run (h : ∀ K : St → Prop, K = run P Γ law34_row_l1 Q → run P Γ law34_row_g0 (thenX K Q) s) : run P Γ law34_row_l1 Q s := run_loop h
attribute [simp] law34_row_r0 law34_row_r1 law34_row_r2 law34_row_r3 law34_row_r5 law34_row_r6 law34_row_r4 law34_row_r7
def law34_row_rv : List RV := [.cell 2 4 true]
end
end Go.Lg

