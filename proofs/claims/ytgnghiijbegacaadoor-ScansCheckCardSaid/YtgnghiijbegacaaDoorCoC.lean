/- The abstract code of some functions, as the program gen.py prints it. Conditions: none. -/
import Derived.Test.YtgnghiijbegacaaDoorLgE
set_option linter.unusedVariables false
namespace Go.Lg
open Go
section
variable {P : Program} {Γ : Tables} {Q : AX → St → Prop} {s : St}
/- probecard/probecardlaw34.ScansCheck (function 4) -/
def law34_ScansCheck_r0 : List RO := [
    ⟨some 2, .box true (.tmp 0), none, none⟩,
    ⟨some 4, .mv (.const (.bool false)), none, none⟩]
def law34_ScansCheck_r1 : List RO := [
    ⟨some 13, .mv (.tmp 1), none, none⟩,
    ⟨some 14, .len 0 (.tmp 13), none, none⟩,
    ⟨some 15, .bin .gtr (.tmp 14) (.const (.int .i64 70)), none, none⟩]
def law34_ScansCheck_r2 : List RO := [
    ⟨some 16, .call 16 [], none, none⟩,
    ⟨some 4, .mv (.tmp 16), none, none⟩]
def law34_ScansCheck_r3 : List RO := [
    ⟨some 17, .load 12 true (.tmp 2), none, none⟩,
    ⟨some 18, .call 12 [(.tmp 17)], none, none⟩,
    ⟨some 5, .alloc false [(.slice none 0 0), (.slice none 0 0), (.slice none 0 0), (.slice none 0 0)], none, none⟩,
    ⟨none, .store 4 (.tmp 5) (.tmp 18), none, none⟩]
def law34_ScansCheck_r4 : List RO := [
    ⟨some 19, .load 4 true (.tmp 5), none, none⟩,
    ⟨some 20, .call 14 [(.tmp 19)], none, none⟩,
    ⟨some 6, .mv (.tmp 20), none, none⟩]
def law34_ScansCheck_r5 : List RO := [
    ⟨some 21, .mv (.tmp 6), none, none⟩,
    ⟨some 22, .bin .eql (.tmp 21) (.const (.int .i64 0)), none, none⟩,
    ⟨some 23, .mv (.tmp 22), none, none⟩,
    ⟨some 24, .fadr 2 (.tmp 5), some (23, true), none⟩,
    ⟨some 25, .load 1 false (.tmp 24), some (23, true), none⟩,
    ⟨some 26, .len 0 (.tmp 25), some (23, true), none⟩,
    ⟨some 27, .bin .gtr (.tmp 26) (.const (.int .i64 0)), some (23, true), none⟩,
    ⟨some 28, .mv (.tmp 27), some (23, true), none⟩,
    ⟨some 29, .load 4 true (.tmp 5), some (28, false), none⟩,
    ⟨some 30, .bsl true 41 1 [(.const (.int .u8 15))], some (28, false), none⟩,
    ⟨some 31, .call 15 [(.tmp 29), (.tmp 30)], some (28, false), none⟩,
    ⟨some 32, .len 0 (.tmp 31), some (28, false), none⟩,
    ⟨some 33, .bin .gtr (.tmp 32) (.const (.int .i64 0)), some (28, false), none⟩,
    ⟨some 34, .pick (.tmp 28) (.const (.bool true)) (.tmp 33), some (23, true), none⟩,
    ⟨some 35, .pick (.tmp 23) (.tmp 34) (.const (.bool false)), none, none⟩]
def law34_ScansCheck_r6 : List RO := [
    ⟨some 6, .mv (.const (.int .i64 7)), none, none⟩]
def law34_ScansCheck_r7 : List RO := [
    ⟨some 36, .mv (.tmp 6), none, none⟩,
    ⟨some 37, .bin .eql (.tmp 36) (.const (.int .i64 0)), none, none⟩,
    ⟨some 38, .mv (.tmp 37), none, none⟩,
    ⟨some 39, .mv (.tmp 1), some (38, true), none⟩,
    ⟨some 40, .len 0 (.tmp 39), some (38, true), none⟩,
    ⟨some 41, .bin .gtr (.tmp 40) (.const (.int .i64 64)), some (38, true), none⟩,
    ⟨some 42, .pick (.tmp 38) (.tmp 41) (.const (.bool false)), none, none⟩]
def law34_ScansCheck_r8 : List RO := [
    ⟨some 6, .mv (.const (.int .i64 3)), none, none⟩]
def law34_ScansCheck_r9 : List RO := [
    ⟨some 7, .mv (.const (.int .i64 0)), none, none⟩]
def law34_ScansCheck_r10 : List RO := [
    ⟨some 43, .fadr 0 (.tmp 5), none, none⟩,
    ⟨some 44, .load 1 false (.tmp 43), none, none⟩,
    ⟨some 45, .len 0 (.tmp 44), none, none⟩,
    ⟨some 46, .mk 4 1 [(.bool false)] (.tmp 45) (.tmp 45), none, none⟩,
    ⟨some 8, .mv (.tmp 46), none, none⟩]
def law34_ScansCheck_r11 : List RO := [
    ⟨some 9, .mv (.const (.bool false)), none, none⟩]
def law34_ScansCheck_r12 : List RO := [
    ⟨some 10, .mv (.const (.int .i64 0)), none, none⟩]
def law34_ScansCheck_r13 : List RO := [
    ⟨some 47, .mv (.tmp 10), none, none⟩,
    ⟨some 48, .mv (.tmp 1), none, none⟩,
    ⟨some 49, .len 0 (.tmp 48), none, none⟩,
    ⟨some 50, .bin .lss (.tmp 47) (.tmp 49), none, none⟩]
def law34_ScansCheck_r15 : List RO := [
    ⟨some 53, .mv (.tmp 1), none, none⟩,
    ⟨some 54, .mv (.tmp 10), none, none⟩,
    ⟨some 55, .iadr 1 (.tmp 53) (.tmp 54), none, none⟩,
    ⟨some 56, .load 1 false (.tmp 55), none, none⟩,
    ⟨some 57, .len 0 (.tmp 56), none, none⟩,
    ⟨some 58, .bin .gtr (.tmp 57) (.const (.int .i64 20)), none, none⟩]
def law34_ScansCheck_r16 : List RO := [
    ⟨some 59, .call 16 [], none, none⟩,
    ⟨some 4, .mv (.tmp 59), none, none⟩]
def law34_ScansCheck_r17 : List RO := [
    ⟨some 60, .mv (.tmp 9), none, none⟩,
    ⟨some 61, .mv (.tmp 60), none, none⟩,
    ⟨some 62, .mv (.tmp 1), some (61, false), none⟩,
    ⟨some 63, .mv (.tmp 10), some (61, false), none⟩,
    ⟨some 64, .iadr 1 (.tmp 62) (.tmp 63), some (61, false), none⟩,
    ⟨some 65, .load 1 false (.tmp 64), some (61, false), none⟩,
    ⟨some 66, .len 0 (.tmp 65), some (61, false), none⟩,
    ⟨some 67, .bin .eql (.tmp 66) (.const (.int .i64 0)), some (61, false), none⟩,
    ⟨some 68, .pick (.tmp 61) (.const (.bool true)) (.tmp 67), none, none⟩,
    ⟨some 9, .mv (.tmp 68), none, none⟩]
def law34_ScansCheck_r18 : List RO := [
    ⟨some 11, .mv (.const (.int .i64 0)), none, none⟩]
def law34_ScansCheck_r19 : List RO := [
    ⟨some 69, .mv (.tmp 11), none, none⟩,
    ⟨some 70, .mv (.tmp 1), none, none⟩,
    ⟨some 71, .mv (.tmp 10), none, none⟩,
    ⟨some 72, .iadr 1 (.tmp 70) (.tmp 71), none, none⟩,
    ⟨some 73, .load 1 false (.tmp 72), none, none⟩,
    ⟨some 74, .len 0 (.tmp 73), none, none⟩,
    ⟨some 75, .bin .lss (.tmp 69) (.tmp 74), none, none⟩]
def law34_ScansCheck_r21 : List RO := [
    ⟨some 78, .mv (.tmp 1), none, none⟩,
    ⟨some 79, .mv (.tmp 10), none, none⟩,
    ⟨some 80, .iadr 1 (.tmp 78) (.tmp 79), none, none⟩,
    ⟨some 81, .load 1 false (.tmp 80), none, none⟩,
    ⟨some 82, .mv (.tmp 11), none, none⟩,
    ⟨some 83, .iadr 1 (.tmp 81) (.tmp 82), none, none⟩,
    ⟨some 84, .load 1 false (.tmp 83), none, none⟩,
    ⟨some 12, .mv (.tmp 84), none, none⟩]
def law34_ScansCheck_r22 : List RO := [
    ⟨some 85, .mv (.tmp 12), none, none⟩,
    ⟨some 86, .bin .lss (.tmp 85) (.const (.int .i64 0)), none, none⟩,
    ⟨some 87, .mv (.tmp 86), none, none⟩,
    ⟨some 88, .mv (.tmp 12), some (87, false), none⟩,
    ⟨some 89, .fadr 0 (.tmp 5), some (87, false), none⟩,
    ⟨some 90, .load 1 false (.tmp 89), some (87, false), none⟩,
    ⟨some 91, .len 0 (.tmp 90), some (87, false), none⟩,
    ⟨some 92, .bin .geq (.tmp 88) (.tmp 91), some (87, false), none⟩,
    ⟨some 93, .pick (.tmp 87) (.const (.bool true)) (.tmp 92), none, none⟩,
    ⟨some 94, .mv (.tmp 93), none, none⟩,
    ⟨some 95, .fadr 0 (.tmp 5), some (94, false), none⟩,
    ⟨some 96, .load 1 false (.tmp 95), some (94, false), none⟩,
    ⟨some 97, .mv (.tmp 12), some (94, false), none⟩,
    ⟨some 98, .iadr 4 (.tmp 96) (.tmp 97), some (94, false), none⟩,
    ⟨some 99, .fadr 0 (.tmp 98), some (94, false), none⟩,
    ⟨some 100, .load 1 false (.tmp 99), some (94, false), none⟩,
    ⟨some 101, .bin .neq (.tmp 100) (.const (.int .u8 14)), some (94, false), none⟩,
    ⟨some 102, .pick (.tmp 94) (.const (.bool true)) (.tmp 101), none, none⟩,
    ⟨some 103, .mv (.tmp 102), none, none⟩,
    ⟨some 104, .mv (.tmp 8), some (103, false), none⟩,
    ⟨some 105, .mv (.tmp 12), some (103, false), none⟩,
    ⟨some 106, .iadr 1 (.tmp 104) (.tmp 105), some (103, false), none⟩,
    ⟨some 107, .load 1 false (.tmp 106), some (103, false), none⟩,
    ⟨some 108, .pick (.tmp 103) (.const (.bool true)) (.tmp 107), none, none⟩]
def law34_ScansCheck_r23 : List RO := [
    ⟨some 9, .mv (.const (.bool true)), none, none⟩]
def law34_ScansCheck_r24 : List RO := [
    ⟨some 109, .mv (.tmp 8), none, none⟩,
    ⟨some 110, .mv (.tmp 12), none, none⟩,
    ⟨some 111, .iadr 1 (.tmp 109) (.tmp 110), none, none⟩,
    ⟨none, .store 1 (.tmp 111) (.const (.bool true)), none, none⟩]
def law34_ScansCheck_r25 : List RO := [
    ⟨some 112, .mv (.tmp 7), none, none⟩,
    ⟨some 113, .bin .add (.tmp 112) (.const (.int .i64 1)), none, none⟩,
    ⟨some 7, .mv (.tmp 113), none, none⟩]
def law34_ScansCheck_r20 : List RO := [
    ⟨some 76, .mv (.tmp 11), none, none⟩,
    ⟨some 77, .bin .add (.tmp 76) (.const (.int .i64 1)), none, none⟩,
    ⟨some 11, .mv (.tmp 77), none, none⟩]
def law34_ScansCheck_g0 : IC := .gh (.seq (.seq (.reg law34_ScansCheck_r19 [.keep [1, 5, 6, 7, 8, 9, 10, 11, 75] [5, 46]]) (.cond (.tmp 75) .skip (.exit 2))) (.seq (.block 3 (.seq (.reg law34_ScansCheck_r21 [.keep [1, 5, 6, 7, 8, 9, 10, 11, 12] [5, 46]]) (.seq (.seq (.reg law34_ScansCheck_r22 [.keep [1, 5, 6, 7, 8, 9, 10, 11, 12, 108] [5, 46]]) (.cond (.tmp 108) (.seq (.reg law34_ScansCheck_r23 [.keep [1, 5, 6, 7, 8, 9, 10, 11] [5, 46]]) (.exit 3)) .skip)) (.seq (.reg law34_ScansCheck_r24 [.keep [1, 5, 6, 7, 8, 9, 10, 11] [5, 46]]) (.reg law34_ScansCheck_r25 [.keep [1, 5, 6, 7, 8, 9, 10, 11] [5, 46]]))))) (.reg law34_ScansCheck_r20 [.keep [1, 5, 6, 7, 8, 9, 10, 11] [5, 46]]))) [.keep [1, 5, 6, 7, 8, 9, 10, 11] [5, 46]]
def law34_ScansCheck_l1 : IC := .loop law34_ScansCheck_g0
def law34_ScansCheck_r14 : List RO := [
    ⟨some 51, .mv (.tmp 10), none, none⟩,
    ⟨some 52, .bin .add (.tmp 51) (.const (.int .i64 1)), none, none⟩,
    ⟨some 10, .mv (.tmp 52), none, none⟩]
def law34_ScansCheck_g2 : IC := .gh (.seq (.seq (.reg law34_ScansCheck_r13 [.keep [1, 5, 6, 7, 8, 9, 10, 50] [5, 46]]) (.cond (.tmp 50) .skip (.exit 0))) (.seq (.block 1 (.seq (.seq (.reg law34_ScansCheck_r15 [.keep [1, 5, 6, 7, 8, 9, 10, 58] [5, 46]]) (.cond (.tmp 58) (.seq (.reg law34_ScansCheck_r16 [.keep [4] []]) .ret) .skip)) (.seq (.reg law34_ScansCheck_r17 [.keep [1, 5, 6, 7, 8, 9, 10] [5, 46]]) (.seq (.reg law34_ScansCheck_r18 [.keep [1, 5, 6, 7, 8, 9, 10, 11] [5, 46]]) (.block 2 law34_ScansCheck_l1))))) (.reg law34_ScansCheck_r14 [.keep [1, 5, 6, 7, 8, 9, 10] [5, 46]]))) [.keep [1, 5, 6, 7, 8, 9, 10] [5, 46]]
def law34_ScansCheck_l3 : IC := .loop law34_ScansCheck_g2
def law34_ScansCheck_r26 : List RO := [
    ⟨some 114, .mv (.tmp 6), none, none⟩,
    ⟨some 115, .bin .eql (.tmp 114) (.const (.int .i64 0)), none, none⟩,
    ⟨some 116, .mv (.tmp 115), none, none⟩,
    ⟨some 117, .mv (.tmp 9), some (116, true), none⟩,
    ⟨some 118, .pick (.tmp 116) (.tmp 117) (.const (.bool false)), none, none⟩]
def law34_ScansCheck_r27 : List RO := [
    ⟨some 6, .mv (.const (.int .i64 1)), none, none⟩]
def law34_ScansCheck_r28 : List RO := [
    ⟨some 119, .mv (.tmp 6), none, none⟩,
    ⟨some 120, .bin .eql (.tmp 119) (.const (.int .i64 0)), none, none⟩,
    ⟨some 121, .mv (.tmp 120), none, none⟩,
    ⟨some 122, .mv (.tmp 7), some (121, true), none⟩,
    ⟨some 123, .load 4 true (.tmp 5), some (121, true), none⟩,
    ⟨some 124, .call 17 [(.tmp 123)], some (121, true), none⟩,
    ⟨some 125, .len 0 (.tmp 124), some (121, true), none⟩,
    ⟨some 126, .bin .neq (.tmp 122) (.tmp 125), some (121, true), none⟩,
    ⟨some 127, .pick (.tmp 121) (.tmp 126) (.const (.bool false)), none, none⟩]
def law34_ScansCheck_r29 : List RO := [
    ⟨some 6, .mv (.const (.int .i64 8)), none, none⟩]
def law34_ScansCheck_r30 : List RO := [
    ⟨some 128, .load 4 true (.tmp 5), none, none⟩,
    ⟨some 129, .mv (.tmp 1), none, none⟩,
    ⟨some 130, .call 18 [(.tmp 128), (.tmp 129)], none, none⟩,
    ⟨some 131, .mv (.tmp 6), none, none⟩,
    ⟨some 132, .bin .eql (.tmp 130) (.tmp 131), none, none⟩,
    ⟨some 133, .mv (.tmp 132), none, none⟩,
    ⟨some 134, .call 16 [], some (133, true), none⟩,
    ⟨some 135, .pick (.tmp 133) (.tmp 134) (.const (.bool false)), none, none⟩,
    ⟨some 4, .mv (.tmp 135), none, none⟩]
def law34_ScansCheck_ic : IC := (.seq (.reg law34_ScansCheck_r0 [.keep [1, 2] []]) (.seq (.seq (.reg law34_ScansCheck_r1 [.keep [1, 2, 15] []]) (.cond (.tmp 15) (.seq (.reg law34_ScansCheck_r2 [.keep [4] []]) .ret) .skip)) (.seq (.reg law34_ScansCheck_r3 [.keep [1, 5] [5]]) (.seq (.reg law34_ScansCheck_r4 [.keep [1, 5, 6] [5]]) (.seq (.seq (.reg law34_ScansCheck_r5 [.keep [1, 5, 6, 35] [5]]) (.cond (.tmp 35) (.reg law34_ScansCheck_r6 [.keep [1, 5, 6] [5]]) .skip)) (.seq (.seq (.reg law34_ScansCheck_r7 [.keep [1, 5, 6, 42] [5]]) (.cond (.tmp 42) (.reg law34_ScansCheck_r8 [.keep [1, 5, 6] [5]]) .skip)) (.seq (.reg law34_ScansCheck_r9 [.keep [1, 5, 6, 7] [5]]) (.seq (.reg law34_ScansCheck_r10 [.keep [1, 5, 6, 7, 8] [5, 46]]) (.seq (.reg law34_ScansCheck_r11 [.keep [1, 5, 6, 7, 8, 9] [5, 46]]) (.seq (.seq (.reg law34_ScansCheck_r12 [.keep [1, 5, 6, 7, 8, 9, 10] [5, 46]]) (.block 0 law34_ScansCheck_l3)) (.seq (.seq (.reg law34_ScansCheck_r26 [.keep [1, 5, 6, 7, 118] [5]]) (.cond (.tmp 118) (.reg law34_ScansCheck_r27 [.keep [1, 5, 6, 7] [5]]) .skip)) (.seq (.seq (.reg law34_ScansCheck_r28 [.keep [1, 5, 6, 127] [5]]) (.cond (.tmp 127) (.reg law34_ScansCheck_r29 [.keep [1, 5, 6] [5]]) .skip)) (.seq (.reg law34_ScansCheck_r30 [.keep [4] []]) .ret)))))))))))))
@[simp ↓] theorem law34_ScansCheck_g0_run : run P Γ law34_ScansCheck_g0 Q s = run P Γ (.gh (.seq (.seq (.reg law34_ScansCheck_r19 [.keep [1, 5, 6, 7, 8, 9, 10, 11, 75] [5, 46]]) (.cond (.tmp 75) .skip (.exit 2))) (.seq (.block 3 (.seq (.reg law34_ScansCheck_r21 [.keep [1, 5, 6, 7, 8, 9, 10, 11, 12] [5, 46]]) (.seq (.seq (.reg law34_ScansCheck_r22 [.keep [1, 5, 6, 7, 8, 9, 10, 11, 12, 108] [5, 46]]) (.cond (.tmp 108) (.seq (.reg law34_ScansCheck_r23 [.keep [1, 5, 6, 7, 8, 9, 10, 11] [5, 46]]) (.exit 3)) .skip)) (.seq (.reg law34_ScansCheck_r24 [.keep [1, 5, 6, 7, 8, 9, 10, 11] [5, 46]]) (.reg law34_ScansCheck_r25 [.keep [1, 5, 6, 7, 8, 9, 10, 11] [5, 46]]))))) (.reg law34_ScansCheck_r20 [.keep [1, 5, 6, 7, 8, 9, 10, 11] [5, 46]]))) [.keep [1, 5, 6, 7, 8, 9, 10, 11] [5, 46]]) Q s := Eq.trans rfl rfl
@[simp ↓] theorem law34_ScansCheck_g2_run : run P Γ law34_ScansCheck_g2 Q s = run P Γ (.gh (.seq (.seq (.reg law34_ScansCheck_r13 [.keep [1, 5, 6, 7, 8, 9, 10, 50] [5, 46]]) (.cond (.tmp 50) .skip (.exit 0))) (.seq (.block 1 (.seq (.seq (.reg law34_ScansCheck_r15 [.keep [1, 5, 6, 7, 8, 9, 10, 58] [5, 46]]) (.cond (.tmp 58) (.seq (.reg law34_ScansCheck_r16 [.keep [4] []]) .ret) .skip)) (.seq (.reg law34_ScansCheck_r17 [.keep [1, 5, 6, 7, 8, 9, 10] [5, 46]]) (.seq (.reg law34_ScansCheck_r18 [.keep [1, 5, 6, 7, 8, 9, 10, 11] [5, 46]]) (.block 2 law34_ScansCheck_l1))))) (.reg law34_ScansCheck_r14 [.keep [1, 5, 6, 7, 8, 9, 10] [5, 46]]))) [.keep [1, 5, 6, 7, 8, 9, 10] [5, 46]]) Q s := Eq.trans rfl rfl
@[simp ↓] theorem law34_ScansCheck_ic_run : run P Γ law34_ScansCheck_ic Q s = run P Γ (.seq (.reg law34_ScansCheck_r0 [.keep [1, 2] []]) (.seq (.seq (.reg law34_ScansCheck_r1 [.keep [1, 2, 15] []]) (.cond (.tmp 15) (.seq (.reg law34_ScansCheck_r2 [.keep [4] []]) .ret) .skip)) (.seq (.reg law34_ScansCheck_r3 [.keep [1, 5] [5]]) (.seq (.reg law34_ScansCheck_r4 [.keep [1, 5, 6] [5]]) (.seq (.seq (.reg law34_ScansCheck_r5 [.keep [1, 5, 6, 35] [5]]) (.cond (.tmp 35) (.reg law34_ScansCheck_r6 [.keep [1, 5, 6] [5]]) .skip)) (.seq (.seq (.reg law34_ScansCheck_r7 [.keep [1, 5, 6, 42] [5]]) (.cond (.tmp 42) (.reg law34_ScansCheck_r8 [.keep [1, 5, 6] [5]]) .skip)) (.seq (.reg law34_ScansCheck_r9 [.keep [1, 5, 6, 7] [5]]) (.seq (.reg law34_ScansCheck_r10 [.keep [1, 5, 6, 7, 8] [5, 46]]) (.seq (.reg law34_ScansCheck_r11 [.keep [1, 5, 6, 7, 8, 9] [5, 46]]) (.seq (.seq (.reg law34_ScansCheck_r12 [.keep [1, 5, 6, 7, 8, 9, 10] [5, 46]]) (.block 0 law34_ScansCheck_l3)) (.seq (.seq (.reg law34_ScansCheck_r26 [.keep [1, 5, 6, 7, 118] [5]]) (.cond (.tmp 118) (.reg law34_ScansCheck_r27 [.keep [1, 5, 6, 7] [5]]) .skip)) (.seq (.seq (.reg law34_ScansCheck_r28 [.keep [1, 5, 6, 127] [5]]) (.cond (.tmp 127) (.reg law34_ScansCheck_r29 [.keep [1, 5, 6] [5]]) .skip)) (.seq (.reg law34_ScansCheck_r30 [.keep [4] []]) .ret))))))))))))) Q s := Eq.trans rfl rfl
theorem law34_ScansCheck_l1_run (h : ∀ K : St → Prop, K = run P Γ law34_ScansCheck_l1 Q → run P Γ law34_ScansCheck_g0 (thenX K Q) s) : run P Γ law34_ScansCheck_l1 Q s := run_loop h
theorem law34_ScansCheck_l3_run (h : ∀ K : St → Prop, K = run P Γ law34_ScansCheck_l3 Q → run P Γ law34_ScansCheck_g2 (thenX K Q) s) : run P Γ law34_ScansCheck_l3 Q s := run_loop h
attribute [simp] law34_ScansCheck_r0 law34_ScansCheck_r1 law34_ScansCheck_r2 law34_ScansCheck_r3 law34_ScansCheck_r4 law34_ScansCheck_r5 law34_ScansCheck_r6 law34_ScansCheck_r7 law34_ScansCheck_r8 law34_ScansCheck_r9 law34_ScansCheck_r10 law34_ScansCheck_r11 law34_ScansCheck_r12 law34_ScansCheck_r13 law34_ScansCheck_r15 law34_ScansCheck_r16 law34_ScansCheck_r17 law34_ScansCheck_r18 law34_ScansCheck_r19 law34_ScansCheck_r21 law34_ScansCheck_r22 law34_ScansCheck_r23 law34_ScansCheck_r24 law34_ScansCheck_r25 law34_ScansCheck_r20 law34_ScansCheck_r14 law34_ScansCheck_r26 law34_ScansCheck_r27 law34_ScansCheck_r28 law34_ScansCheck_r29 law34_ScansCheck_r30
def law34_ScansCheck_rv : List RV := [.tmp 4]
end
end Go.Lg

