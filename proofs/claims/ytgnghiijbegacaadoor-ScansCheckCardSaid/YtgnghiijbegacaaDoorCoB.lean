/- The abstract code of some functions, as the program gen.py prints it. Conditions: none. -/
import Derived.Test.YtgnghiijbegacaaDoorLgE
set_option linter.unusedVariables false
namespace Go.Lg
open Go
section
variable {P : Program} {Γ : Tables} {Q : AX → St → Prop} {s : St}
/- probecard/scans.placed (function 49) -/
def scans_placed_r0 : List RO := [
    ⟨some 3, .box true (.tmp 0), none, none⟩,
    ⟨some 6, .mv (.const (.map none)), none, none⟩,
    ⟨some 7, .mv (.const (.int .i64 0)), none, none⟩]
def scans_placed_r1 : List RO := [
    ⟨some 13, .load 4 true (.tmp 3), none, none⟩,
    ⟨some 14, .mv (.tmp 1), none, none⟩,
    ⟨some 15, .call 18 [(.tmp 13), (.tmp 14)], none, none⟩,
    ⟨some 8, .mv (.tmp 15), none, none⟩]
def scans_placed_r2 : List RO := [
    ⟨some 16, .mv (.tmp 8), none, none⟩,
    ⟨some 17, .bin .neq (.tmp 16) (.const (.int .i64 0)), none, none⟩]
def scans_placed_r3 : List RO := [
    ⟨some 18, .mv (.tmp 8), none, none⟩,
    ⟨some 6, .mv (.const (.map none)), none, none⟩,
    ⟨some 7, .mv (.tmp 18), none, none⟩]
def scans_placed_r4 : List RO := [
    ⟨some 19, .load 4 true (.tmp 3), none, none⟩,
    ⟨some 20, .call 17 [(.tmp 19)], none, none⟩,
    ⟨some 9, .mv (.tmp 20), none, none⟩]
def scans_placed_r5 : List RO := [
    ⟨some 21, .mv (.tmp 2), none, none⟩,
    ⟨some 22, .len 0 (.tmp 21), none, none⟩,
    ⟨some 23, .mv (.tmp 9), none, none⟩,
    ⟨some 24, .len 0 (.tmp 23), none, none⟩,
    ⟨some 25, .bin .neq (.tmp 22) (.tmp 24), none, none⟩]
def scans_placed_r6 : List RO := [
    ⟨some 6, .mv (.const (.map none)), none, none⟩,
    ⟨some 7, .mv (.const (.int .i64 8)), none, none⟩]
def scans_placed_r7 : List RO := [
    ⟨some 26, .mkmap, none, none⟩,
    ⟨some 10, .mv (.tmp 26), none, none⟩]
def scans_placed_r8 : List RO := [
    ⟨some 27, .mv (.tmp 2), none, none⟩,
    ⟨some 28, .len 0 (.tmp 27), none, none⟩,
    ⟨some 29, .mv (.const (.int .i64 0)), none, none⟩]
def scans_placed_r9 : List RO := [
    ⟨some 30, .bin .lss (.tmp 29) (.tmp 28), none, none⟩]
def scans_placed_r10 : List RO := [
    ⟨some 31, .mv (.tmp 29), none, none⟩,
    ⟨some 32, .iadr 2 (.tmp 27) (.tmp 29), none, none⟩,
    ⟨some 33, .load 2 true (.tmp 32), none, none⟩,
    ⟨some 12, .alloc false [(.int .i64 0), (.int .i64 0)], none, none⟩,
    ⟨some 11, .mv (.tmp 31), none, none⟩,
    ⟨none, .store 2 (.tmp 12) (.tmp 33), none, none⟩]
def scans_placed_r11 : List RO := [
    ⟨some 34, .fadr 0 (.tmp 12), none, none⟩,
    ⟨some 35, .load 1 false (.tmp 34), none, none⟩,
    ⟨some 36, .bin .lss (.tmp 35) (.const (.int .i64 (-1000000))), none, none⟩,
    ⟨some 37, .mv (.tmp 36), none, none⟩,
    ⟨some 38, .fadr 0 (.tmp 12), some (37, false), none⟩,
    ⟨some 39, .load 1 false (.tmp 38), some (37, false), none⟩,
    ⟨some 40, .bin .gtr (.tmp 39) (.const (.int .i64 1000000)), some (37, false), none⟩,
    ⟨some 41, .pick (.tmp 37) (.const (.bool true)) (.tmp 40), none, none⟩,
    ⟨some 42, .mv (.tmp 41), none, none⟩,
    ⟨some 43, .fadr 1 (.tmp 12), some (42, false), none⟩,
    ⟨some 44, .load 1 false (.tmp 43), some (42, false), none⟩,
    ⟨some 45, .bin .lss (.tmp 44) (.const (.int .i64 (-1000000))), some (42, false), none⟩,
    ⟨some 46, .pick (.tmp 42) (.const (.bool true)) (.tmp 45), none, none⟩,
    ⟨some 47, .mv (.tmp 46), none, none⟩,
    ⟨some 48, .fadr 1 (.tmp 12), some (47, false), none⟩,
    ⟨some 49, .load 1 false (.tmp 48), some (47, false), none⟩,
    ⟨some 50, .bin .gtr (.tmp 49) (.const (.int .i64 1000000)), some (47, false), none⟩,
    ⟨some 51, .pick (.tmp 47) (.const (.bool true)) (.tmp 50), none, none⟩]
def scans_placed_r12 : List RO := [
    ⟨some 6, .mv (.const (.map none)), none, none⟩,
    ⟨some 7, .mv (.const (.int .i64 1)), none, none⟩]
def scans_placed_r13 : List RO := [
    ⟨some 52, .mv (.tmp 10), none, none⟩,
    ⟨some 53, .mv (.tmp 9), none, none⟩,
    ⟨some 54, .mv (.tmp 11), none, none⟩,
    ⟨some 55, .iadr 1 (.tmp 53) (.tmp 54), none, none⟩,
    ⟨some 56, .load 1 false (.tmp 55), none, none⟩,
    ⟨some 57, .load 2 true (.tmp 12), none, none⟩,
    ⟨none, .mup (.int .i64) (.tmp 52) (.tmp 56) (.tmp 57), none, none⟩]
def scans_placed_r14 : List RO := [
    ⟨some 58, .bin .add (.tmp 29) (.const (.int .i64 1)), none, none⟩,
    ⟨some 29, .mv (.tmp 58), none, none⟩]
def scans_placed_g0 : IC := .gh (.seq (.reg scans_placed_r9 [.keep [9, 10, 27, 28, 29, 30] [26]]) (.seq (.cond (.tmp 30) .skip (.exit 0)) (.seq (.block 1 (.seq (.reg scans_placed_r10 [.keep [9, 10, 11, 12, 27, 28, 29] [12, 26]]) (.seq (.seq (.reg scans_placed_r11 [.keep [9, 10, 11, 12, 27, 28, 29, 51] [12, 26]]) (.cond (.tmp 51) (.seq (.reg scans_placed_r12 [.keep [6, 7] [26]]) .ret) .skip)) (.reg scans_placed_r13 [.keep [9, 10, 27, 28, 29] [26]])))) (.reg scans_placed_r14 [.keep [9, 10, 27, 28, 29] [26]])))) [.keep [9, 10, 27, 28, 29] [26]]
def scans_placed_l1 : IC := .loop scans_placed_g0
def scans_placed_r15 : List RO := [
    ⟨some 59, .mv (.tmp 10), none, none⟩,
    ⟨some 6, .mv (.tmp 59), none, none⟩,
    ⟨some 7, .mv (.const (.int .i64 0)), none, none⟩]
def scans_placed_ic : IC := (.seq (.reg scans_placed_r0 [.keep [1, 2, 3] []]) (.seq (.seq (.reg scans_placed_r1 [.keep [2, 3, 8] []]) (.seq (.reg scans_placed_r2 [.keep [2, 3, 8, 17] []]) (.cond (.tmp 17) (.seq (.reg scans_placed_r3 [.keep [6, 7] [26]]) .ret) .skip))) (.seq (.reg scans_placed_r4 [.keep [2, 9] []]) (.seq (.seq (.reg scans_placed_r5 [.keep [2, 9, 25] []]) (.cond (.tmp 25) (.seq (.reg scans_placed_r6 [.keep [6, 7] [26]]) .ret) .skip)) (.seq (.reg scans_placed_r7 [.keep [2, 9, 10] [26]]) (.seq (.seq (.reg scans_placed_r8 [.keep [9, 10, 27, 28, 29] [26]]) (.block 0 scans_placed_l1)) (.seq (.reg scans_placed_r15 [.keep [6, 7] [26]]) .ret)))))))
@[simp ↓] theorem scans_placed_g0_run : run P Γ scans_placed_g0 Q s = run P Γ (.gh (.seq (.reg scans_placed_r9 [.keep [9, 10, 27, 28, 29, 30] [26]]) (.seq (.cond (.tmp 30) .skip (.exit 0)) (.seq (.block 1 (.seq (.reg scans_placed_r10 [.keep [9, 10, 11, 12, 27, 28, 29] [12, 26]]) (.seq (.seq (.reg scans_placed_r11 [.keep [9, 10, 11, 12, 27, 28, 29, 51] [12, 26]]) (.cond (.tmp 51) (.seq (.reg scans_placed_r12 [.keep [6, 7] [26]]) .ret) .skip)) (.reg scans_placed_r13 [.keep [9, 10, 27, 28, 29] [26]])))) (.reg scans_placed_r14 [.keep [9, 10, 27, 28, 29] [26]])))) [.keep [9, 10, 27, 28, 29] [26]]) Q s := Eq.trans rfl rfl
@[simp ↓] theorem scans_placed_ic_run : run P Γ scans_placed_ic Q s = run P Γ (.seq (.reg scans_placed_r0 [.keep [1, 2, 3] []]) (.seq (.seq (.reg scans_placed_r1 [.keep [2, 3, 8] []]) (.seq (.reg scans_placed_r2 [.keep [2, 3, 8, 17] []]) (.cond (.tmp 17) (.seq (.reg scans_placed_r3 [.keep [6, 7] [26]]) .ret) .skip))) (.seq (.reg scans_placed_r4 [.keep [2, 9] []]) (.seq (.seq (.reg scans_placed_r5 [.keep [2, 9, 25] []]) (.cond (.tmp 25) (.seq (.reg scans_placed_r6 [.keep [6, 7] [26]]) .ret) .skip)) (.seq (.reg scans_placed_r7 [.keep [2, 9, 10] [26]]) (.seq (.seq (.reg scans_placed_r8 [.keep [9, 10, 27, 28, 29] [26]]) (.block 0 scans_placed_l1)) (.seq (.reg scans_placed_r15 [.keep [6, 7] [26]]) .ret))))))) Q s := Eq.trans rfl rfl
theorem scans_placed_l1_run (h : ∀ K : St → Prop, K = run P Γ scans_placed_l1 Q → run P Γ scans_placed_g0 (thenX K Q) s) : run P Γ scans_placed_l1 Q s := run_loop h
attribute [simp] scans_placed_r0 scans_placed_r1 scans_placed_r2 scans_placed_r3 scans_placed_r4 scans_placed_r5 scans_placed_r6 scans_placed_r7 scans_placed_r8 scans_placed_r9 scans_placed_r10 scans_placed_r11 scans_placed_r12 scans_placed_r13 scans_placed_r14 scans_placed_r15
def scans_placed_rv : List RV := [.tmp 6, .tmp 7]

/- probecard/scans.length (function 50) -/
def scans_length_r0 : List RO := [
    ⟨some 4, .mv (.const (.int .i64 0)), none, none⟩]
def scans_length_r1 : List RO := [
    ⟨some 5, .mv (.const (.int .i64 0)), none, none⟩]
def scans_length_r2 : List RO := [
    ⟨some 6, .mv (.const (.int .i64 1)), none, none⟩]
def scans_length_r3 : List RO := [
    ⟨some 9, .mv (.tmp 6), none, none⟩,
    ⟨some 10, .mv (.tmp 0), none, none⟩,
    ⟨some 11, .len 0 (.tmp 10), none, none⟩,
    ⟨some 12, .bin .lss (.tmp 9) (.tmp 11), none, none⟩]
def scans_length_r5 : List RO := [
    ⟨some 15, .mv (.tmp 1), none, none⟩,
    ⟨some 16, .mv (.tmp 0), none, none⟩,
    ⟨some 17, .mv (.tmp 6), none, none⟩,
    ⟨some 18, .bin .sub (.tmp 17) (.const (.int .i64 1)), none, none⟩,
    ⟨some 19, .iadr 1 (.tmp 16) (.tmp 18), none, none⟩,
    ⟨some 20, .ldT 1 false (.tmp 19), none, none⟩,
    ⟨some 21, .lkT (.int .i64) (.agg #[(.int .i64 0), (.int .i64 0)]) false (.tmp 15) (.tmp 20), none, none⟩,
    ⟨some 22, .mv (.tmp 1), none, none⟩,
    ⟨some 23, .mv (.tmp 0), none, none⟩,
    ⟨some 24, .mv (.tmp 6), none, none⟩,
    ⟨some 25, .iadr 1 (.tmp 23) (.tmp 24), none, none⟩,
    ⟨some 26, .ldT 1 false (.tmp 25), none, none⟩,
    ⟨some 27, .lkT (.int .i64) (.agg #[(.int .i64 0), (.int .i64 0)]) false (.tmp 22) (.tmp 26), none, none⟩,
    ⟨some 7, .alloc false [(.int .i64 0), (.int .i64 0)], none, none⟩,
    ⟨some 8, .alloc false [(.int .i64 0), (.int .i64 0)], none, none⟩,
    ⟨none, .stR 7 2 (.tmp 7) (.tmp 21), none, none⟩,
    ⟨none, .stR 8 2 (.tmp 8) (.tmp 27), none, none⟩]
def scans_length_r6 : List RO := [
    ⟨some 28, .mv (.tmp 5), none, none⟩,
    ⟨some 29, .fadr 0 (.tmp 7), none, none⟩,
    ⟨some 30, .load 1 false (.tmp 29), none, none⟩,
    ⟨some 31, .fadr 0 (.tmp 8), none, none⟩,
    ⟨some 32, .load 1 false (.tmp 31), none, none⟩,
    ⟨some 33, .bin .sub (.tmp 30) (.tmp 32), none, none⟩,
    ⟨some 34, .call 79 [(.tmp 33)], none, none⟩,
    ⟨some 35, .fadr 1 (.tmp 7), none, none⟩,
    ⟨some 36, .load 1 false (.tmp 35), none, none⟩,
    ⟨some 37, .fadr 1 (.tmp 8), none, none⟩,
    ⟨some 38, .load 1 false (.tmp 37), none, none⟩,
    ⟨some 39, .bin .sub (.tmp 36) (.tmp 38), none, none⟩,
    ⟨some 40, .call 79 [(.tmp 39)], none, none⟩,
    ⟨some 41, .bin .add (.tmp 34) (.tmp 40), none, none⟩,
    ⟨some 42, .bin .add (.tmp 28) (.tmp 41), none, none⟩,
    ⟨some 5, .mv (.tmp 42), none, none⟩]
def scans_length_r4 : List RO := [
    ⟨some 13, .mv (.tmp 6), none, none⟩,
    ⟨some 14, .bin .add (.tmp 13) (.const (.int .i64 1)), none, none⟩,
    ⟨some 6, .mv (.tmp 14), none, none⟩]
def scans_length_g0 : IC := .gh (.seq (.seq (.reg scans_length_r3 [.keep [0, 1, 5, 6, 12] []]) (.cond (.tmp 12) .skip (.exit 0))) (.seq (.block 1 (.seq (.reg scans_length_r5 [.keep [0, 1, 5, 6, 7, 8] [7, 8]]) (.reg scans_length_r6 [.keep [0, 1, 5, 6] []]))) (.reg scans_length_r4 [.keep [0, 1, 5, 6] []]))) [.keep [0, 1, 5, 6] []]
def scans_length_l1 : IC := .loop scans_length_g0
def scans_length_r7 : List RO := [
    ⟨some 43, .mv (.tmp 5), none, none⟩,
    ⟨some 4, .mv (.tmp 43), none, none⟩]
def scans_length_ic : IC := (.seq (.reg scans_length_r0 [.keep [0, 1] []]) (.seq (.reg scans_length_r1 [.keep [0, 1, 5] []]) (.seq (.seq (.reg scans_length_r2 [.keep [0, 1, 5, 6] []]) (.block 0 scans_length_l1)) (.seq (.reg scans_length_r7 [.keep [4] []]) .ret))))
@[simp ↓] theorem scans_length_g0_run : run P Γ scans_length_g0 Q s = run P Γ (.gh (.seq (.seq (.reg scans_length_r3 [.keep [0, 1, 5, 6, 12] []]) (.cond (.tmp 12) .skip (.exit 0))) (.seq (.block 1 (.seq (.reg scans_length_r5 [.keep [0, 1, 5, 6, 7, 8] [7, 8]]) (.reg scans_length_r6 [.keep [0, 1, 5, 6] []]))) (.reg scans_length_r4 [.keep [0, 1, 5, 6] []]))) [.keep [0, 1, 5, 6] []]) Q s := Eq.trans rfl rfl
@[simp ↓] theorem scans_length_ic_run : run P Γ scans_length_ic Q s = run P Γ (.seq (.reg scans_length_r0 [.keep [0, 1] []]) (.seq (.reg scans_length_r1 [.keep [0, 1, 5] []]) (.seq (.seq (.reg scans_length_r2 [.keep [0, 1, 5, 6] []]) (.block 0 scans_length_l1)) (.seq (.reg scans_length_r7 [.keep [4] []]) .ret)))) Q s := Eq.trans rfl rfl
theorem scans_length_l1_run (h : ∀ K : St → Prop, K = run P Γ scans_length_l1 Q → run P Γ scans_length_g0 (thenX K Q) s) : run P Γ scans_length_l1 Q s := run_loop h
attribute [simp] scans_length_r0 scans_length_r1 scans_length_r2 scans_length_r3 scans_length_r5 scans_length_r6 scans_length_r4 scans_length_r7
def scans_length_rv : List RV := [.tmp 4]

/- probecard/scans.shorter (function 51) -/
def scans_shorter_r0 : List RO := [
    ⟨some 4, .mv (.const (.slice none 0 0)), none, none⟩]
def scans_shorter_r1 : List RO := [
    ⟨some 9, .mv (.tmp 0), none, none⟩,
    ⟨some 10, .hcall 43 [(.tmp 9)] [10007] 10000, none, none⟩,
    ⟨some 11, .hcall 42 [(.tmp 10)] [10007] 11000, none, none⟩,
    ⟨some 0, .mv (.tmp 11), none, none⟩]
def scans_shorter_r2 : List RO := [
    ⟨some 12, .mv (.tmp 0), none, none⟩,
    ⟨some 13, .mv (.tmp 1), none, none⟩,
    ⟨some 14, .call 50 [(.tmp 12), (.tmp 13)], none, none⟩,
    ⟨some 5, .mv (.tmp 14), none, none⟩]
def scans_shorter_r3 : List RO := [
    ⟨some 15, .mv (.tmp 0), none, none⟩,
    ⟨some 16, .len 0 (.tmp 15), none, none⟩,
    ⟨some 17, .mv (.const (.int .i64 0)), none, none⟩]
def scans_shorter_r4 : List RO := [
    ⟨some 18, .bin .lss (.tmp 17) (.tmp 16), none, none⟩]
def scans_shorter_r5 : List RO := [
    ⟨some 19, .mv (.tmp 17), none, none⟩,
    ⟨some 6, .mv (.tmp 19), none, none⟩]
def scans_shorter_r6 : List RO := [
    ⟨some 20, .mv (.tmp 6), none, none⟩,
    ⟨some 21, .bin .add (.tmp 20) (.const (.int .i64 1)), none, none⟩,
    ⟨some 7, .mv (.tmp 21), none, none⟩]
def scans_shorter_r7 : List RO := [
    ⟨some 22, .mv (.tmp 7), none, none⟩,
    ⟨some 23, .mv (.tmp 0), none, none⟩,
    ⟨some 24, .len 0 (.tmp 23), none, none⟩,
    ⟨some 25, .bin .lss (.tmp 22) (.tmp 24), none, none⟩]
def scans_shorter_r9 : List RO := [
    ⟨some 28, .mv (.tmp 0), none, none⟩,
    ⟨some 29, .mv (.tmp 6), none, none⟩,
    ⟨some 30, .mv (.tmp 7), none, none⟩,
    ⟨some 31, .bin .add (.tmp 30) (.const (.int .i64 1)), none, none⟩,
    ⟨some 32, .slice 1 (.tmp 28) (some (.tmp 29)) (some (.tmp 31)) none, none, none⟩,
    ⟨some 33, .hcall 80 [(.tmp 32)] [10007] 33000, none, none⟩]
def scans_shorter_r10 : List RO := [
    ⟨some 34, .mv (.tmp 0), none, none⟩,
    ⟨some 35, .mv (.tmp 1), none, none⟩,
    ⟨some 36, .call 50 [(.tmp 34), (.tmp 35)], none, none⟩,
    ⟨some 8, .mv (.tmp 36), none, none⟩]
def scans_shorter_r11 : List RO := [
    ⟨some 37, .mv (.tmp 8), none, none⟩,
    ⟨some 38, .mv (.tmp 5), none, none⟩,
    ⟨some 39, .bin .lss (.tmp 37) (.tmp 38), none, none⟩]
def scans_shorter_r12 : List RO := [
    ⟨some 40, .mv (.tmp 8), none, none⟩,
    ⟨some 5, .mv (.tmp 40), none, none⟩]
def scans_shorter_r13 : List RO := [
    ⟨some 41, .mv (.tmp 0), none, none⟩,
    ⟨some 42, .mv (.tmp 6), none, none⟩,
    ⟨some 43, .mv (.tmp 7), none, none⟩,
    ⟨some 44, .bin .add (.tmp 43) (.const (.int .i64 1)), none, none⟩,
    ⟨some 45, .slice 1 (.tmp 41) (some (.tmp 42)) (some (.tmp 44)) none, none, none⟩,
    ⟨some 46, .hcall 80 [(.tmp 45)] [10007] 46000, none, none⟩]
def scans_shorter_r8 : List RO := [
    ⟨some 26, .mv (.tmp 7), none, none⟩,
    ⟨some 27, .bin .add (.tmp 26) (.const (.int .i64 1)), none, none⟩,
    ⟨some 7, .mv (.tmp 27), none, none⟩]
def scans_shorter_g0 : IC := .gh (.seq (.seq (.reg scans_shorter_r7 [.keep [0, 1, 5, 6, 7, 16, 17, 25] [10007]]) (.cond (.tmp 25) .skip (.exit 4))) (.seq (.block 5 (.seq (.reg scans_shorter_r9 [.keep [0, 1, 5, 6, 7, 16, 17] [10007]]) (.seq (.seq (.reg scans_shorter_r10 [.keep [0, 1, 5, 6, 7, 8, 16, 17] [10007]]) (.seq (.reg scans_shorter_r11 [.keep [0, 1, 5, 6, 7, 8, 16, 17, 39] [10007]]) (.cond (.tmp 39) (.seq (.reg scans_shorter_r12 [.keep [0, 1, 5] [10007]]) (.exit 1)) .skip))) (.reg scans_shorter_r13 [.keep [0, 1, 5, 6, 7, 16, 17] [10007]])))) (.reg scans_shorter_r8 [.keep [0, 1, 5, 6, 7, 16, 17] [10007]]))) [.keep [0, 1, 5, 6, 7, 16, 17] [10007]]
def scans_shorter_l1 : IC := .loop scans_shorter_g0
def scans_shorter_r14 : List RO := [
    ⟨some 47, .bin .add (.tmp 17) (.const (.int .i64 1)), none, none⟩,
    ⟨some 17, .mv (.tmp 47), none, none⟩]
def scans_shorter_g2 : IC := .gh (.seq (.reg scans_shorter_r4 [.keep [0, 1, 5, 16, 17, 18] [10007]]) (.seq (.cond (.tmp 18) .skip (.exit 2)) (.seq (.block 3 (.seq (.reg scans_shorter_r5 [.keep [0, 1, 5, 6, 16, 17] [10007]]) (.seq (.reg scans_shorter_r6 [.keep [0, 1, 5, 6, 7, 16, 17] [10007]]) (.block 4 scans_shorter_l1)))) (.reg scans_shorter_r14 [.keep [0, 1, 5, 16, 17] [10007]])))) [.keep [0, 1, 5, 16, 17] [10007]]
def scans_shorter_l3 : IC := .loop scans_shorter_g2
def scans_shorter_r15 : List RO := [
    ⟨some 48, .mv (.tmp 0), none, none⟩,
    ⟨some 4, .mv (.tmp 48), none, none⟩]
def scans_shorter_g4 : IC := .gh (.block 1 (.seq (.seq (.reg scans_shorter_r3 [.keep [0, 1, 5, 16, 17] [10007]]) (.block 2 scans_shorter_l3)) (.seq (.reg scans_shorter_r15 [.keep [4] [10007]]) .ret))) [.keep [0, 1, 5] [10007]]
def scans_shorter_l5 : IC := .loop scans_shorter_g4
def scans_shorter_ic : IC := (.seq (.reg scans_shorter_r0 [.keep [0, 1] [10007]]) (.scope (.seq (.reg scans_shorter_r1 [.keep [0, 1] [10007]]) (.seq (.reg scans_shorter_r2 [.keep [0, 1, 5] [10007]]) (.seq .skip (.block 0 scans_shorter_l5))))))
@[simp ↓] theorem scans_shorter_g0_run : run P Γ scans_shorter_g0 Q s = run P Γ (.gh (.seq (.seq (.reg scans_shorter_r7 [.keep [0, 1, 5, 6, 7, 16, 17, 25] [10007]]) (.cond (.tmp 25) .skip (.exit 4))) (.seq (.block 5 (.seq (.reg scans_shorter_r9 [.keep [0, 1, 5, 6, 7, 16, 17] [10007]]) (.seq (.seq (.reg scans_shorter_r10 [.keep [0, 1, 5, 6, 7, 8, 16, 17] [10007]]) (.seq (.reg scans_shorter_r11 [.keep [0, 1, 5, 6, 7, 8, 16, 17, 39] [10007]]) (.cond (.tmp 39) (.seq (.reg scans_shorter_r12 [.keep [0, 1, 5] [10007]]) (.exit 1)) .skip))) (.reg scans_shorter_r13 [.keep [0, 1, 5, 6, 7, 16, 17] [10007]])))) (.reg scans_shorter_r8 [.keep [0, 1, 5, 6, 7, 16, 17] [10007]]))) [.keep [0, 1, 5, 6, 7, 16, 17] [10007]]) Q s := Eq.trans rfl rfl
@[simp ↓] theorem scans_shorter_g2_run : run P Γ scans_shorter_g2 Q s = run P Γ (.gh (.seq (.reg scans_shorter_r4 [.keep [0, 1, 5, 16, 17, 18] [10007]]) (.seq (.cond (.tmp 18) .skip (.exit 2)) (.seq (.block 3 (.seq (.reg scans_shorter_r5 [.keep [0, 1, 5, 6, 16, 17] [10007]]) (.seq (.reg scans_shorter_r6 [.keep [0, 1, 5, 6, 7, 16, 17] [10007]]) (.block 4 scans_shorter_l1)))) (.reg scans_shorter_r14 [.keep [0, 1, 5, 16, 17] [10007]])))) [.keep [0, 1, 5, 16, 17] [10007]]) Q s := Eq.trans rfl rfl
@[simp ↓] theorem scans_shorter_g4_run : run P Γ scans_shorter_g4 Q s = run P Γ (.gh (.block 1 (.seq (.seq (.reg scans_shorter_r3 [.keep [0, 1, 5, 16, 17] [10007]]) (.block 2 scans_shorter_l3)) (.seq (.reg scans_shorter_r15 [.keep [4] [10007]]) .ret))) [.keep [0, 1, 5] [10007]]) Q s := Eq.trans rfl rfl
@[simp ↓] theorem scans_shorter_ic_run : run P Γ scans_shorter_ic Q s = run P Γ (.seq (.reg scans_shorter_r0 [.keep [0, 1] [10007]]) (.scope (.seq (.reg scans_shorter_r1 [.keep [0, 1] [10007]]) (.seq (.reg scans_shorter_r2 [.keep [0, 1, 5] [10007]]) (.seq .skip (.block 0 scans_shorter_l5)))))) Q s := Eq.trans rfl rfl
theorem scans_shorter_l1_run (h : ∀ K : St → Prop, K = run P Γ scans_shorter_l1 Q → run P Γ scans_shorter_g0 (thenX K Q) s) : run P Γ scans_shorter_l1 Q s := run_loop h
theorem scans_shorter_l3_run (h : ∀ K : St → Prop, K = run P Γ scans_shorter_l3 Q → run P Γ scans_shorter_g2 (thenX K Q) s) : run P Γ scans_shorter_l3 Q s := run_loop h
theorem scans_shorter_l5_run (h : ∀ K : St → Prop, K = run P Γ scans_shorter_l5 Q → run P Γ scans_shorter_g4 (thenX K Q) s) : run P Γ scans_shorter_l5 Q s := run_loop h
attribute [simp] scans_shorter_r0 scans_shorter_r1 scans_shorter_r2 scans_shorter_r3 scans_shorter_r4 scans_shorter_r5 scans_shorter_r6 scans_shorter_r7 scans_shorter_r9 scans_shorter_r10 scans_shorter_r11 scans_shorter_r12 scans_shorter_r13 scans_shorter_r8 scans_shorter_r14 scans_shorter_r15
def scans_shorter_rv : List RV := [.tmp 4]

/- probecard/netlists.shape (function 76) -/
def netlists_shape_r0 : List RO := [
    ⟨some 1, .box true (.tmp 0), none, none⟩,
    ⟨some 2, .mv (.const (.int .i64 0)), none, none⟩]
def netlists_shape_r1 : List RO := [
    ⟨some 11, .fadr 0 (.tmp 1), none, none⟩,
    ⟨some 12, .load 1 false (.tmp 11), none, none⟩,
    ⟨some 13, .len 0 (.tmp 12), none, none⟩,
    ⟨some 14, .bin .gtr (.tmp 13) (.const (.int .i64 16384)), none, none⟩,
    ⟨some 15, .mv (.tmp 14), none, none⟩,
    ⟨some 16, .fadr 2 (.tmp 1), some (15, false), none⟩,
    ⟨some 17, .load 1 false (.tmp 16), some (15, false), none⟩,
    ⟨some 18, .len 0 (.tmp 17), some (15, false), none⟩,
    ⟨some 19, .bin .gtr (.tmp 18) (.const (.int .i64 16)), some (15, false), none⟩,
    ⟨some 20, .pick (.tmp 15) (.const (.bool true)) (.tmp 19), none, none⟩,
    ⟨some 21, .mv (.tmp 20), none, none⟩,
    ⟨some 22, .fadr 3 (.tmp 1), some (21, false), none⟩,
    ⟨some 23, .load 1 false (.tmp 22), some (21, false), none⟩,
    ⟨some 24, .len 0 (.tmp 23), some (21, false), none⟩,
    ⟨some 25, .bin .gtr (.tmp 24) (.const (.int .i64 16384)), some (21, false), none⟩,
    ⟨some 26, .pick (.tmp 21) (.const (.bool true)) (.tmp 25), none, none⟩,
    ⟨some 10, .mv (.tmp 26), none, none⟩]
def netlists_shape_r2 : List RO := [
    ⟨some 2, .mv (.const (.int .i64 3)), none, none⟩]
def netlists_shape_r3 : List RO := [
    ⟨some 28, .fadr 1 (.tmp 1), none, none⟩,
    ⟨some 29, .load 1 false (.tmp 28), none, none⟩,
    ⟨some 30, .len 0 (.tmp 29), none, none⟩,
    ⟨some 31, .fadr 0 (.tmp 1), none, none⟩,
    ⟨some 32, .load 1 false (.tmp 31), none, none⟩,
    ⟨some 33, .len 0 (.tmp 32), none, none⟩,
    ⟨some 34, .bin .neq (.tmp 30) (.tmp 33), none, none⟩,
    ⟨some 27, .mv (.tmp 34), none, none⟩]
def netlists_shape_r4 : List RO := [
    ⟨some 2, .mv (.const (.int .i64 8)), none, none⟩]
def netlists_shape_r5 : List RO := [
    ⟨some 35, .fadr 0 (.tmp 1), none, none⟩,
    ⟨some 36, .load 1 false (.tmp 35), none, none⟩,
    ⟨some 37, .len 0 (.tmp 36), none, none⟩,
    ⟨some 38, .mv (.const (.int .i64 0)), none, none⟩]
def netlists_shape_r6 : List RO := [
    ⟨some 39, .bin .lss (.tmp 38) (.tmp 37), none, none⟩]
def netlists_shape_r7 : List RO := [
    ⟨some 40, .iadr 4 (.tmp 36) (.tmp 38), none, none⟩,
    ⟨some 41, .load 4 true (.tmp 40), none, none⟩,
    ⟨some 4, .alloc false [(.int .u8 0), (.slice none 0 0), (.int .i64 0), (.int .i64 0)], none, none⟩,
    ⟨none, .store 4 (.tmp 4) (.tmp 41), none, none⟩]
def netlists_shape_r8 : List RO := [
    ⟨some 42, .load 4 true (.tmp 1), none, none⟩,
    ⟨some 43, .load 4 true (.tmp 4), none, none⟩,
    ⟨some 44, .call 103 [(.tmp 42), (.tmp 43)], none, none⟩,
    ⟨some 5, .mv (.tmp 44), none, none⟩]
def netlists_shape_r9 : List RO := [
    ⟨some 45, .mv (.tmp 5), none, none⟩,
    ⟨some 46, .bin .neq (.tmp 45) (.const (.int .i64 0)), none, none⟩]
def netlists_shape_r10 : List RO := [
    ⟨some 47, .mv (.tmp 5), none, none⟩,
    ⟨some 2, .mv (.tmp 47), none, none⟩]
def netlists_shape_r11 : List RO := [
    ⟨some 48, .bin .add (.tmp 38) (.const (.int .i64 1)), none, none⟩,
    ⟨some 38, .mv (.tmp 48), none, none⟩]
def netlists_shape_g0 : IC := .gh (.seq (.reg netlists_shape_r6 [.keep [1, 36, 37, 38, 39] []]) (.seq (.cond (.tmp 39) .skip (.exit 1)) (.seq (.block 2 (.seq (.reg netlists_shape_r7 [.keep [1, 4, 36, 37, 38] [4]]) (.seq (.reg netlists_shape_r8 [.keep [1, 5, 36, 37, 38] []]) (.seq (.reg netlists_shape_r9 [.keep [1, 5, 36, 37, 38, 46] []]) (.cond (.tmp 46) (.seq (.reg netlists_shape_r10 [.keep [2] []]) .ret) .skip))))) (.reg netlists_shape_r11 [.keep [1, 36, 37, 38] []])))) [.keep [1, 36, 37, 38] []]
def netlists_shape_l1 : IC := .loop netlists_shape_g0
def netlists_shape_r12 : List RO := [
    ⟨some 49, .load 4 true (.tmp 1), none, none⟩,
    ⟨some 50, .call 104 [(.tmp 49)], none, none⟩,
    ⟨some 6, .mv (.tmp 50), none, none⟩]
def netlists_shape_r13 : List RO := [
    ⟨some 51, .mv (.tmp 6), none, none⟩,
    ⟨some 52, .bin .neq (.tmp 51) (.const (.int .i64 0)), none, none⟩]
def netlists_shape_r14 : List RO := [
    ⟨some 53, .mv (.tmp 6), none, none⟩,
    ⟨some 2, .mv (.tmp 53), none, none⟩]
def netlists_shape_r15 : List RO := [
    ⟨some 54, .fadr 2 (.tmp 1), none, none⟩,
    ⟨some 55, .load 1 false (.tmp 54), none, none⟩,
    ⟨some 56, .len 0 (.tmp 55), none, none⟩,
    ⟨some 57, .mv (.const (.int .i64 0)), none, none⟩]
def netlists_shape_r16 : List RO := [
    ⟨some 58, .bin .lss (.tmp 57) (.tmp 56), none, none⟩]
def netlists_shape_r17 : List RO := [
    ⟨some 59, .iadr 3 (.tmp 55) (.tmp 57), none, none⟩,
    ⟨some 60, .load 3 true (.tmp 59), none, none⟩,
    ⟨some 8, .alloc false [(.slice none 0 0), (.slice none 0 0), (.int .i64 0)], none, none⟩,
    ⟨none, .store 3 (.tmp 8) (.tmp 60), none, none⟩]
def netlists_shape_r18 : List RO := [
    ⟨some 61, .load 4 true (.tmp 1), none, none⟩,
    ⟨some 62, .load 3 true (.tmp 8), none, none⟩,
    ⟨some 63, .call 105 [(.tmp 61), (.tmp 62)], none, none⟩,
    ⟨some 9, .mv (.tmp 63), none, none⟩]
def netlists_shape_r19 : List RO := [
    ⟨some 64, .mv (.tmp 9), none, none⟩,
    ⟨some 65, .bin .neq (.tmp 64) (.const (.int .i64 0)), none, none⟩]
def netlists_shape_r20 : List RO := [
    ⟨some 66, .mv (.tmp 9), none, none⟩,
    ⟨some 2, .mv (.tmp 66), none, none⟩]
def netlists_shape_r21 : List RO := [
    ⟨some 67, .bin .add (.tmp 57) (.const (.int .i64 1)), none, none⟩,
    ⟨some 57, .mv (.tmp 67), none, none⟩]
def netlists_shape_g2 : IC := .gh (.seq (.reg netlists_shape_r16 [.keep [1, 55, 56, 57, 58] []]) (.seq (.cond (.tmp 58) .skip (.exit 3)) (.seq (.block 4 (.seq (.reg netlists_shape_r17 [.keep [1, 8, 55, 56, 57] [8]]) (.seq (.reg netlists_shape_r18 [.keep [1, 9, 55, 56, 57] []]) (.seq (.reg netlists_shape_r19 [.keep [1, 9, 55, 56, 57, 65] []]) (.cond (.tmp 65) (.seq (.reg netlists_shape_r20 [.keep [2] []]) .ret) .skip))))) (.reg netlists_shape_r21 [.keep [1, 55, 56, 57] []])))) [.keep [1, 55, 56, 57] []]
def netlists_shape_l3 : IC := .loop netlists_shape_g2
def netlists_shape_r22 : List RO := [
    ⟨some 68, .fadr 3 (.tmp 1), none, none⟩,
    ⟨some 69, .load 1 false (.tmp 68), none, none⟩,
    ⟨some 70, .load 4 true (.tmp 1), none, none⟩,
    ⟨some 71, .call 107 [(.tmp 70)], none, none⟩,
    ⟨some 72, .call 106 [(.tmp 69), (.tmp 71)], none, none⟩]
def netlists_shape_r23 : List RO := [
    ⟨some 2, .mv (.const (.int .i64 1)), none, none⟩]
def netlists_shape_r24 : List RO := [
    ⟨some 2, .mv (.const (.int .i64 0)), none, none⟩]
def netlists_shape_ic : IC := (.seq (.reg netlists_shape_r0 [.keep [1] []]) (.seq (.block 0 (.seq (.reg netlists_shape_r1 [.keep [1, 10] []]) (.cond (.tmp 10) (.seq (.reg netlists_shape_r2 [.keep [2] []]) .ret) (.seq (.reg netlists_shape_r3 [.keep [1, 27] []]) (.cond (.tmp 27) (.seq (.reg netlists_shape_r4 [.keep [2] []]) .ret) .skip))))) (.seq (.seq (.reg netlists_shape_r5 [.keep [1, 36, 37, 38] []]) (.block 1 netlists_shape_l1)) (.seq (.seq (.reg netlists_shape_r12 [.keep [1, 6] []]) (.seq (.reg netlists_shape_r13 [.keep [1, 6, 52] []]) (.cond (.tmp 52) (.seq (.reg netlists_shape_r14 [.keep [2] []]) .ret) .skip))) (.seq (.seq (.reg netlists_shape_r15 [.keep [1, 55, 56, 57] []]) (.block 3 netlists_shape_l3)) (.seq (.seq (.reg netlists_shape_r22 [.keep [72] []]) (.cond (.tmp 72) (.seq (.reg netlists_shape_r23 [.keep [2] []]) .ret) .skip)) (.seq (.reg netlists_shape_r24 [.keep [2] []]) .ret)))))))
@[simp ↓] theorem netlists_shape_g0_run : run P Γ netlists_shape_g0 Q s = run P Γ (.gh (.seq (.reg netlists_shape_r6 [.keep [1, 36, 37, 38, 39] []]) (.seq (.cond (.tmp 39) .skip (.exit 1)) (.seq (.block 2 (.seq (.reg netlists_shape_r7 [.keep [1, 4, 36, 37, 38] [4]]) (.seq (.reg netlists_shape_r8 [.keep [1, 5, 36, 37, 38] []]) (.seq (.reg netlists_shape_r9 [.keep [1, 5, 36, 37, 38, 46] []]) (.cond (.tmp 46) (.seq (.reg netlists_shape_r10 [.keep [2] []]) .ret) .skip))))) (.reg netlists_shape_r11 [.keep [1, 36, 37, 38] []])))) [.keep [1, 36, 37, 38] []]) Q s := Eq.trans rfl rfl
@[simp ↓] theorem netlists_shape_g2_run : run P Γ netlists_shape_g2 Q s = run P Γ (.gh (.seq (.reg netlists_shape_r16 [.keep [1, 55, 56, 57, 58] []]) (.seq (.cond (.tmp 58) .skip (.exit 3)) (.seq (.block 4 (.seq (.reg netlists_shape_r17 [.keep [1, 8, 55, 56, 57] [8]]) (.seq (.reg netlists_shape_r18 [.keep [1, 9, 55, 56, 57] []]) (.seq (.reg netlists_shape_r19 [.keep [1, 9, 55, 56, 57, 65] []]) (.cond (.tmp 65) (.seq (.reg netlists_shape_r20 [.keep [2] []]) .ret) .skip))))) (.reg netlists_shape_r21 [.keep [1, 55, 56, 57] []])))) [.keep [1, 55, 56, 57] []]) Q s := Eq.trans rfl rfl
@[simp ↓] theorem netlists_shape_ic_run : run P Γ netlists_shape_ic Q s = run P Γ (.seq (.reg netlists_shape_r0 [.keep [1] []]) (.seq (.block 0 (.seq (.reg netlists_shape_r1 [.keep [1, 10] []]) (.cond (.tmp 10) (.seq (.reg netlists_shape_r2 [.keep [2] []]) .ret) (.seq (.reg netlists_shape_r3 [.keep [1, 27] []]) (.cond (.tmp 27) (.seq (.reg netlists_shape_r4 [.keep [2] []]) .ret) .skip))))) (.seq (.seq (.reg netlists_shape_r5 [.keep [1, 36, 37, 38] []]) (.block 1 netlists_shape_l1)) (.seq (.seq (.reg netlists_shape_r12 [.keep [1, 6] []]) (.seq (.reg netlists_shape_r13 [.keep [1, 6, 52] []]) (.cond (.tmp 52) (.seq (.reg netlists_shape_r14 [.keep [2] []]) .ret) .skip))) (.seq (.seq (.reg netlists_shape_r15 [.keep [1, 55, 56, 57] []]) (.block 3 netlists_shape_l3)) (.seq (.seq (.reg netlists_shape_r22 [.keep [72] []]) (.cond (.tmp 72) (.seq (.reg netlists_shape_r23 [.keep [2] []]) .ret) .skip)) (.seq (.reg netlists_shape_r24 [.keep [2] []]) .ret))))))) Q s := Eq.trans rfl rfl
theorem netlists_shape_l1_run (h : ∀ K : St → Prop, K = run P Γ netlists_shape_l1 Q → run P Γ netlists_shape_g0 (thenX K Q) s) : run P Γ netlists_shape_l1 Q s := run_loop h
theorem netlists_shape_l3_run (h : ∀ K : St → Prop, K = run P Γ netlists_shape_l3 Q → run P Γ netlists_shape_g2 (thenX K Q) s) : run P Γ netlists_shape_l3 Q s := run_loop h
attribute [simp] netlists_shape_r0 netlists_shape_r1 netlists_shape_r2 netlists_shape_r3 netlists_shape_r4 netlists_shape_r5 netlists_shape_r6 netlists_shape_r7 netlists_shape_r8 netlists_shape_r9 netlists_shape_r10 netlists_shape_r11 netlists_shape_r12 netlists_shape_r13 netlists_shape_r14 netlists_shape_r15 netlists_shape_r16 netlists_shape_r17 netlists_shape_r18 netlists_shape_r19 netlists_shape_r20 netlists_shape_r21 netlists_shape_r22 netlists_shape_r23 netlists_shape_r24
def netlists_shape_rv : List RV := [.tmp 2]

/- probecard/netlists.Fanout (function 77) -/
def netlists_Fanout_r0 : List RO := [
    ⟨some 1, .box true (.tmp 0), none, none⟩,
    ⟨some 2, .mv (.const (.slice none 0 0)), none, none⟩]
def netlists_Fanout_r1 : List RO := [
    ⟨some 11, .fadr 0 (.tmp 1), none, none⟩,
    ⟨some 12, .load 1 false (.tmp 11), none, none⟩,
    ⟨some 13, .len 0 (.tmp 12), none, none⟩,
    ⟨some 14, .mkB 147 [(.slice none 0 0)] (.tmp 13) (.tmp 13), none, none⟩,
    ⟨some 3, .mv (.tmp 14), none, none⟩]
def netlists_Fanout_r2 : List RO := [
    ⟨some 15, .load 4 true (.tmp 1), none, none⟩,
    ⟨some 16, .call 107 [(.tmp 15)], none, none⟩,
    ⟨some 4, .mv (.tmp 16), none, none⟩]
def netlists_Fanout_r3 : List RO := [
    ⟨some 17, .fadr 0 (.tmp 1), none, none⟩,
    ⟨some 18, .load 1 false (.tmp 17), none, none⟩,
    ⟨some 19, .len 0 (.tmp 18), none, none⟩,
    ⟨some 20, .mv (.const (.int .i64 0)), none, none⟩]
def netlists_Fanout_r4 : List RO := [
    ⟨some 21, .bin .lss (.tmp 20) (.tmp 19), none, none⟩]
def netlists_Fanout_r5 : List RO := [
    ⟨some 22, .mv (.tmp 20), none, none⟩,
    ⟨some 23, .iadr 4 (.tmp 18) (.tmp 20), none, none⟩,
    ⟨some 24, .load 4 true (.tmp 23), none, none⟩,
    ⟨some 6, .alloc false [(.int .u8 0), (.slice none 0 0), (.int .i64 0), (.int .i64 0)], none, none⟩,
    ⟨some 5, .mv (.tmp 22), none, none⟩,
    ⟨none, .store 4 (.tmp 6) (.tmp 24), none, none⟩]
def netlists_Fanout_r6 : List RO := [
    ⟨some 25, .fadr 1 (.tmp 6), none, none⟩,
    ⟨some 26, .load 1 false (.tmp 25), none, none⟩,
    ⟨some 27, .len 0 (.tmp 26), none, none⟩,
    ⟨some 28, .mv (.const (.int .i64 0)), none, none⟩]
def netlists_Fanout_r7 : List RO := [
    ⟨some 29, .bin .lss (.tmp 28) (.tmp 27), none, none⟩]
def netlists_Fanout_r8 : List RO := [
    ⟨some 30, .mv (.tmp 28), none, none⟩,
    ⟨some 31, .iadr 1 (.tmp 26) (.tmp 28), none, none⟩,
    ⟨some 32, .load 1 false (.tmp 31), none, none⟩,
    ⟨some 7, .mv (.tmp 30), none, none⟩,
    ⟨some 8, .mv (.tmp 32), none, none⟩]
def netlists_Fanout_r9 : List RO := [
    ⟨some 33, .mv (.tmp 4), none, none⟩,
    ⟨some 34, .mv (.tmp 8), none, none⟩,
    ⟨some 35, .callv (.tmp 33) [(.tmp 34)], none, none⟩,
    ⟨some 36, .un .not (.tmp 35), none, none⟩]
def netlists_Fanout_r10 : List RO := [
    ⟨some 37, .mv (.tmp 3), none, none⟩,
    ⟨some 38, .mv (.tmp 8), none, none⟩,
    ⟨some 39, .mv (.tmp 3), none, none⟩,
    ⟨some 40, .mv (.tmp 8), none, none⟩,
    ⟨some 41, .iadr 1 (.tmp 39) (.tmp 40), none, none⟩,
    ⟨some 42, .load 1 false (.tmp 41), none, none⟩,
    ⟨some 43, .mv (.tmp 5), none, none⟩,
    ⟨some 44, .mv (.tmp 7), none, none⟩,
    ⟨some 45, .build [(1, (.tmp 43)), (1, (.tmp 44))], none, none⟩,
    ⟨some 46, .bsl true 149 2 [(.tmp 45)], none, none⟩,
    ⟨some 47, .app false 149 2 (.tmp 42) (.tmp 46), none, none⟩,
    ⟨some 48, .iadr 1 (.tmp 37) (.tmp 38), none, none⟩,
    ⟨none, .store 1 (.tmp 48) (.tmp 47), none, none⟩]
def netlists_Fanout_r11 : List RO := [
    ⟨some 49, .bin .add (.tmp 28) (.const (.int .i64 1)), none, none⟩,
    ⟨some 28, .mv (.tmp 49), none, none⟩]
def netlists_Fanout_g0 : IC := .gh (.seq (.reg netlists_Fanout_r7 [.keepB [3, 4, 5, 18, 19, 20, 26, 27, 28, 29] [14] 100000 16384]) (.seq (.cond (.tmp 29) .skip (.exit 2)) (.seq (.block 3 (.seq (.reg netlists_Fanout_r8 [.keepB [3, 4, 5, 7, 8, 18, 19, 20, 26, 27, 28] [14] 100000 16384]) (.seq (.reg netlists_Fanout_r9 [.keepB [3, 4, 5, 7, 8, 18, 19, 20, 26, 27, 28, 36] [14] 100000 16384]) (.cond (.tmp 36) (.reg netlists_Fanout_r10 [.renS 47 100000 8, .keepB [3, 4, 5, 18, 19, 20, 26, 27, 28] [14] 100000 16384]) .skip)))) (.reg netlists_Fanout_r11 [.keepB [3, 4, 5, 18, 19, 20, 26, 27, 28] [14] 100000 16384])))) [.keepB [3, 4, 5, 18, 19, 20, 26, 27, 28] [14] 100000 16384]
def netlists_Fanout_l1 : IC := .loop netlists_Fanout_g0
def netlists_Fanout_r12 : List RO := [
    ⟨some 50, .bin .add (.tmp 20) (.const (.int .i64 1)), none, none⟩,
    ⟨some 20, .mv (.tmp 50), none, none⟩]
def netlists_Fanout_g2 : IC := .gh (.seq (.reg netlists_Fanout_r4 [.keepB [3, 4, 18, 19, 20, 21] [14] 100000 16384]) (.seq (.cond (.tmp 21) .skip (.exit 0)) (.seq (.block 1 (.seq (.reg netlists_Fanout_r5 [.keepB [3, 4, 5, 6, 18, 19, 20] [6, 14] 100000 16384]) (.seq (.reg netlists_Fanout_r6 [.keepB [3, 4, 5, 18, 19, 20, 26, 27, 28] [14] 100000 16384]) (.block 2 netlists_Fanout_l1)))) (.reg netlists_Fanout_r12 [.keepB [3, 4, 18, 19, 20] [14] 100000 16384])))) [.keepB [3, 4, 18, 19, 20] [14] 100000 16384]
def netlists_Fanout_l3 : IC := .loop netlists_Fanout_g2
def netlists_Fanout_r13 : List RO := [
    ⟨some 51, .mv (.tmp 3), none, none⟩,
    ⟨some 52, .len 0 (.tmp 51), none, none⟩,
    ⟨some 53, .mv (.const (.int .i64 0)), none, none⟩]
def netlists_Fanout_r14 : List RO := [
    ⟨some 54, .bin .lss (.tmp 53) (.tmp 52), none, none⟩]
def netlists_Fanout_r15 : List RO := [
    ⟨some 55, .mv (.tmp 53), none, none⟩,
    ⟨some 56, .iadr 1 (.tmp 51) (.tmp 53), none, none⟩,
    ⟨some 57, .load 1 false (.tmp 56), none, none⟩,
    ⟨some 9, .mv (.tmp 55), none, none⟩,
    ⟨some 10, .mv (.tmp 57), none, none⟩]
def netlists_Fanout_r16 : List RO := [
    ⟨some 58, .mv (.tmp 3), none, none⟩,
    ⟨some 59, .mv (.tmp 9), none, none⟩,
    ⟨some 60, .mv (.tmp 10), none, none⟩,
    ⟨some 61, .call 108 [(.tmp 60)], none, none⟩,
    ⟨some 62, .iadr 1 (.tmp 58) (.tmp 59), none, none⟩,
    ⟨none, .store 1 (.tmp 62) (.tmp 61), none, none⟩]
def netlists_Fanout_r17 : List RO := [
    ⟨some 63, .bin .add (.tmp 53) (.const (.int .i64 1)), none, none⟩,
    ⟨some 53, .mv (.tmp 63), none, none⟩]
def netlists_Fanout_g4 : IC := .gh (.seq (.reg netlists_Fanout_r14 [.keep [3, 51, 52, 53, 54] [14, 47]]) (.seq (.cond (.tmp 54) .skip (.exit 4)) (.seq (.block 5 (.seq (.reg netlists_Fanout_r15 [.keep [3, 9, 10, 51, 52, 53] [14, 47]]) (.reg netlists_Fanout_r16 [.keep [3, 51, 52, 53] [14, 47]]))) (.reg netlists_Fanout_r17 [.keep [3, 51, 52, 53] [14, 47]])))) [.keep [3, 51, 52, 53] [14, 47]]
def netlists_Fanout_l5 : IC := .loop netlists_Fanout_g4
def netlists_Fanout_r18 : List RO := [
    ⟨some 64, .mv (.tmp 3), none, none⟩,
    ⟨some 2, .mv (.tmp 64), none, none⟩]
def netlists_Fanout_ic : IC := (.seq (.reg netlists_Fanout_r0 [.keep [1] []]) (.seq (.reg netlists_Fanout_r1 [.keepB [1, 3] [14] 100000 16384]) (.seq (.reg netlists_Fanout_r2 [.keepB [1, 3, 4] [14] 100000 16384]) (.seq (.seq (.reg netlists_Fanout_r3 [.keepB [3, 4, 18, 19, 20] [14] 100000 16384]) (.block 0 netlists_Fanout_l3)) (.seq (.seq (.reg netlists_Fanout_r13 [.frzs 100000 16384, .keep [3, 51, 52, 53] [14, 47]]) (.block 4 netlists_Fanout_l5)) (.seq (.reg netlists_Fanout_r18 [.keep [2] [14, 47]]) .ret))))))
@[simp ↓] theorem netlists_Fanout_g0_run : run P Γ netlists_Fanout_g0 Q s = run P Γ (.gh (.seq (.reg netlists_Fanout_r7 [.keepB [3, 4, 5, 18, 19, 20, 26, 27, 28, 29] [14] 100000 16384]) (.seq (.cond (.tmp 29) .skip (.exit 2)) (.seq (.block 3 (.seq (.reg netlists_Fanout_r8 [.keepB [3, 4, 5, 7, 8, 18, 19, 20, 26, 27, 28] [14] 100000 16384]) (.seq (.reg netlists_Fanout_r9 [.keepB [3, 4, 5, 7, 8, 18, 19, 20, 26, 27, 28, 36] [14] 100000 16384]) (.cond (.tmp 36) (.reg netlists_Fanout_r10 [.renS 47 100000 8, .keepB [3, 4, 5, 18, 19, 20, 26, 27, 28] [14] 100000 16384]) .skip)))) (.reg netlists_Fanout_r11 [.keepB [3, 4, 5, 18, 19, 20, 26, 27, 28] [14] 100000 16384])))) [.keepB [3, 4, 5, 18, 19, 20, 26, 27, 28] [14] 100000 16384]) Q s := Eq.trans rfl rfl
@[simp ↓] theorem netlists_Fanout_g2_run : run P Γ netlists_Fanout_g2 Q s = run P Γ (.gh (.seq (.reg netlists_Fanout_r4 [.keepB [3, 4, 18, 19, 20, 21] [14] 100000 16384]) (.seq (.cond (.tmp 21) .skip (.exit 0)) (.seq (.block 1 (.seq (.reg netlists_Fanout_r5 [.keepB [3, 4, 5, 6, 18, 19, 20] [6, 14] 100000 16384]) (.seq (.reg netlists_Fanout_r6 [.keepB [3, 4, 5, 18, 19, 20, 26, 27, 28] [14] 100000 16384]) (.block 2 netlists_Fanout_l1)))) (.reg netlists_Fanout_r12 [.keepB [3, 4, 18, 19, 20] [14] 100000 16384])))) [.keepB [3, 4, 18, 19, 20] [14] 100000 16384]) Q s := Eq.trans rfl rfl
@[simp ↓] theorem netlists_Fanout_g4_run : run P Γ netlists_Fanout_g4 Q s = run P Γ (.gh (.seq (.reg netlists_Fanout_r14 [.keep [3, 51, 52, 53, 54] [14, 47]]) (.seq (.cond (.tmp 54) .skip (.exit 4)) (.seq (.block 5 (.seq (.reg netlists_Fanout_r15 [.keep [3, 9, 10, 51, 52, 53] [14, 47]]) (.reg netlists_Fanout_r16 [.keep [3, 51, 52, 53] [14, 47]]))) (.reg netlists_Fanout_r17 [.keep [3, 51, 52, 53] [14, 47]])))) [.keep [3, 51, 52, 53] [14, 47]]) Q s := Eq.trans rfl rfl
@[simp ↓] theorem netlists_Fanout_ic_run : run P Γ netlists_Fanout_ic Q s = run P Γ (.seq (.reg netlists_Fanout_r0 [.keep [1] []]) (.seq (.reg netlists_Fanout_r1 [.keepB [1, 3] [14] 100000 16384]) (.seq (.reg netlists_Fanout_r2 [.keepB [1, 3, 4] [14] 100000 16384]) (.seq (.seq (.reg netlists_Fanout_r3 [.keepB [3, 4, 18, 19, 20] [14] 100000 16384]) (.block 0 netlists_Fanout_l3)) (.seq (.seq (.reg netlists_Fanout_r13 [.frzs 100000 16384, .keep [3, 51, 52, 53] [14, 47]]) (.block 4 netlists_Fanout_l5)) (.seq (.reg netlists_Fanout_r18 [.keep [2] [14, 47]]) .ret)))))) Q s := Eq.trans rfl rfl
theorem netlists_Fanout_l1_run (h : ∀ K : St → Prop, K = run P Γ netlists_Fanout_l1 Q → run P Γ netlists_Fanout_g0 (thenX K Q) s) : run P Γ netlists_Fanout_l1 Q s := run_loop h
theorem netlists_Fanout_l3_run (h : ∀ K : St → Prop, K = run P Γ netlists_Fanout_l3 Q → run P Γ netlists_Fanout_g2 (thenX K Q) s) : run P Γ netlists_Fanout_l3 Q s := run_loop h
theorem netlists_Fanout_l5_run (h : ∀ K : St → Prop, K = run P Γ netlists_Fanout_l5 Q → run P Γ netlists_Fanout_g4 (thenX K Q) s) : run P Γ netlists_Fanout_l5 Q s := run_loop h
attribute [simp] netlists_Fanout_r0 netlists_Fanout_r1 netlists_Fanout_r2 netlists_Fanout_r3 netlists_Fanout_r4 netlists_Fanout_r5 netlists_Fanout_r6 netlists_Fanout_r7 netlists_Fanout_r8 netlists_Fanout_r9 netlists_Fanout_r10 netlists_Fanout_r11 netlists_Fanout_r12 netlists_Fanout_r13 netlists_Fanout_r14 netlists_Fanout_r15 netlists_Fanout_r16 netlists_Fanout_r17 netlists_Fanout_r18
def netlists_Fanout_rv : List RV := [.tmp 2]

/- slices.Index[[]probecard/api.Kind,probecard/api.Kind] (function 78) -/
def slices_Index_api_Kind_r0 : List RO := [
    ⟨some 4, .mv (.const (.int .i64 0)), none, none⟩]
def slices_Index_api_Kind_r1 : List RO := [
    ⟨some 6, .mv (.tmp 0), none, none⟩,
    ⟨some 7, .len 0 (.tmp 6), none, none⟩,
    ⟨some 8, .mv (.const (.int .i64 0)), none, none⟩]
def slices_Index_api_Kind_r2 : List RO := [
    ⟨some 9, .bin .lss (.tmp 8) (.tmp 7), none, none⟩]
def slices_Index_api_Kind_r3 : List RO := [
    ⟨some 10, .mv (.tmp 8), none, none⟩,
    ⟨some 5, .mv (.tmp 10), none, none⟩]
def slices_Index_api_Kind_r4 : List RO := [
    ⟨some 11, .mv (.tmp 1), none, none⟩,
    ⟨some 12, .mv (.tmp 0), none, none⟩,
    ⟨some 13, .mv (.tmp 5), none, none⟩,
    ⟨some 14, .iadr 1 (.tmp 12) (.tmp 13), none, none⟩,
    ⟨some 15, .load 1 false (.tmp 14), none, none⟩,
    ⟨some 16, .bin .eql (.tmp 11) (.tmp 15), none, none⟩]
def slices_Index_api_Kind_r5 : List RO := [
    ⟨some 17, .mv (.tmp 5), none, none⟩,
    ⟨some 4, .mv (.tmp 17), none, none⟩]
def slices_Index_api_Kind_r6 : List RO := [
    ⟨some 18, .bin .add (.tmp 8) (.const (.int .i64 1)), none, none⟩,
    ⟨some 8, .mv (.tmp 18), none, none⟩]
def slices_Index_api_Kind_g0 : IC := .gh (.seq (.reg slices_Index_api_Kind_r2 [.keep [0, 1, 7, 8, 9] []]) (.seq (.cond (.tmp 9) .skip (.exit 0)) (.seq (.block 1 (.seq (.reg slices_Index_api_Kind_r3 [.keep [0, 1, 5, 7, 8] []]) (.seq (.reg slices_Index_api_Kind_r4 [.keep [0, 1, 5, 7, 8, 16] []]) (.cond (.tmp 16) (.seq (.reg slices_Index_api_Kind_r5 [.keep [4] []]) .ret) .skip)))) (.reg slices_Index_api_Kind_r6 [.keep [0, 1, 7, 8] []])))) [.keep [0, 1, 7, 8] []]
def slices_Index_api_Kind_l1 : IC := .loop slices_Index_api_Kind_g0
def slices_Index_api_Kind_r7 : List RO := [
    ⟨some 4, .mv (.const (.int .i64 (-1))), none, none⟩]
def slices_Index_api_Kind_ic : IC := (.seq (.reg slices_Index_api_Kind_r0 [.keep [0, 1] []]) (.seq (.seq (.reg slices_Index_api_Kind_r1 [.keep [0, 1, 7, 8] []]) (.block 0 slices_Index_api_Kind_l1)) (.seq (.reg slices_Index_api_Kind_r7 [.keep [4] []]) .ret)))
@[simp ↓] theorem slices_Index_api_Kind_g0_run : run P Γ slices_Index_api_Kind_g0 Q s = run P Γ (.gh (.seq (.reg slices_Index_api_Kind_r2 [.keep [0, 1, 7, 8, 9] []]) (.seq (.cond (.tmp 9) .skip (.exit 0)) (.seq (.block 1 (.seq (.reg slices_Index_api_Kind_r3 [.keep [0, 1, 5, 7, 8] []]) (.seq (.reg slices_Index_api_Kind_r4 [.keep [0, 1, 5, 7, 8, 16] []]) (.cond (.tmp 16) (.seq (.reg slices_Index_api_Kind_r5 [.keep [4] []]) .ret) .skip)))) (.reg slices_Index_api_Kind_r6 [.keep [0, 1, 7, 8] []])))) [.keep [0, 1, 7, 8] []]) Q s := Eq.trans rfl rfl
@[simp ↓] theorem slices_Index_api_Kind_ic_run : run P Γ slices_Index_api_Kind_ic Q s = run P Γ (.seq (.reg slices_Index_api_Kind_r0 [.keep [0, 1] []]) (.seq (.seq (.reg slices_Index_api_Kind_r1 [.keep [0, 1, 7, 8] []]) (.block 0 slices_Index_api_Kind_l1)) (.seq (.reg slices_Index_api_Kind_r7 [.keep [4] []]) .ret))) Q s := Eq.trans rfl rfl
theorem slices_Index_api_Kind_l1_run (h : ∀ K : St → Prop, K = run P Γ slices_Index_api_Kind_l1 Q → run P Γ slices_Index_api_Kind_g0 (thenX K Q) s) : run P Γ slices_Index_api_Kind_l1 Q s := run_loop h
attribute [simp] slices_Index_api_Kind_r0 slices_Index_api_Kind_r1 slices_Index_api_Kind_r2 slices_Index_api_Kind_r3 slices_Index_api_Kind_r4 slices_Index_api_Kind_r5 slices_Index_api_Kind_r6 slices_Index_api_Kind_r7
def slices_Index_api_Kind_rv : List RV := [.tmp 4]

/- probecard/scans.abs (function 79) -/
def scans_abs_r0 : List RO := [
    ⟨some 2, .mv (.const (.int .i64 0)), none, none⟩]
def scans_abs_r1 : List RO := [
    ⟨some 3, .mv (.tmp 0), none, none⟩,
    ⟨some 4, .mv (.tmp 0), none, none⟩,
    ⟨some 5, .un .neg (.tmp 4), none, none⟩,
    ⟨some 6, .mmx true [(.tmp 3), (.tmp 5)], none, none⟩,
    ⟨some 2, .mv (.tmp 6), none, none⟩]
def scans_abs_ic : IC := (.seq (.reg scans_abs_r0 [.keep [0] []]) (.seq (.reg scans_abs_r1 [.keep [2] []]) .ret))
@[simp ↓] theorem scans_abs_ic_run : run P Γ scans_abs_ic Q s = run P Γ (.seq (.reg scans_abs_r0 [.keep [0] []]) (.seq (.reg scans_abs_r1 [.keep [2] []]) .ret)) Q s := Eq.trans rfl rfl
attribute [simp] scans_abs_r0 scans_abs_r1
def scans_abs_rv : List RV := [.tmp 2]

/- slices.Reverse[[]int,int] (function 80) -/
def slices_Reverse_int_r0 : List RO := [
    ⟨some 4, .mv (.tmp 0), none, none⟩,
    ⟨some 5, .len 0 (.tmp 4), none, none⟩,
    ⟨some 6, .bin .sub (.tmp 5) (.const (.int .i64 1)), none, none⟩,
    ⟨some 2, .mv (.const (.int .i64 0)), none, none⟩,
    ⟨some 3, .mv (.tmp 6), none, none⟩]
def slices_Reverse_int_r1 : List RO := [
    ⟨some 7, .mv (.tmp 2), none, none⟩,
    ⟨some 8, .mv (.tmp 3), none, none⟩,
    ⟨some 9, .bin .lss (.tmp 7) (.tmp 8), none, none⟩]
def slices_Reverse_int_r3 : List RO := [
    ⟨some 14, .mv (.tmp 0), none, none⟩,
    ⟨some 15, .mv (.tmp 2), none, none⟩,
    ⟨some 16, .mv (.tmp 0), none, none⟩,
    ⟨some 17, .mv (.tmp 3), none, none⟩,
    ⟨some 18, .mv (.tmp 0), none, none⟩,
    ⟨some 19, .mv (.tmp 3), none, none⟩,
    ⟨some 20, .iadr 1 (.tmp 18) (.tmp 19), none, none⟩,
    ⟨some 21, .ldR 1000000 1 false (.tmp 20), none, none⟩,
    ⟨some 22, .mv (.tmp 0), none, none⟩,
    ⟨some 23, .mv (.tmp 2), none, none⟩,
    ⟨some 24, .iadr 1 (.tmp 22) (.tmp 23), none, none⟩,
    ⟨some 25, .ldR 1000000 1 false (.tmp 24), none, none⟩,
    ⟨some 26, .iadr 1 (.tmp 14) (.tmp 15), none, none⟩,
    ⟨none, .stR 1000000 1 (.tmp 26) (.tmp 21), none, none⟩,
    ⟨some 27, .iadr 1 (.tmp 16) (.tmp 17), none, none⟩,
    ⟨none, .stR 1000000 1 (.tmp 27) (.tmp 25), none, none⟩]
def slices_Reverse_int_r2 : List RO := [
    ⟨some 10, .mv (.tmp 2), none, none⟩,
    ⟨some 11, .bin .add (.tmp 10) (.const (.int .i64 1)), none, none⟩,
    ⟨some 12, .mv (.tmp 3), none, none⟩,
    ⟨some 13, .bin .sub (.tmp 12) (.const (.int .i64 1)), none, none⟩,
    ⟨some 2, .mv (.tmp 11), none, none⟩,
    ⟨some 3, .mv (.tmp 13), none, none⟩]
def slices_Reverse_int_g0 : IC := .gh (.seq (.seq (.reg slices_Reverse_int_r1 [.keep [0, 2, 3, 9] [1000000]]) (.cond (.tmp 9) .skip (.exit 0))) (.seq (.block 1 (.reg slices_Reverse_int_r3 [.keep [0, 2, 3] [1000000]])) (.reg slices_Reverse_int_r2 [.keep [0, 2, 3] [1000000]]))) [.keep [0, 2, 3] [1000000]]
def slices_Reverse_int_l1 : IC := .loop slices_Reverse_int_g0
def slices_Reverse_int_ic : IC := (.seq (.reg slices_Reverse_int_r0 [.keep [0, 2, 3] [1000000]]) (.block 0 slices_Reverse_int_l1))
@[simp ↓] theorem slices_Reverse_int_g0_run : run P Γ slices_Reverse_int_g0 Q s = run P Γ (.gh (.seq (.seq (.reg slices_Reverse_int_r1 [.keep [0, 2, 3, 9] [1000000]]) (.cond (.tmp 9) .skip (.exit 0))) (.seq (.block 1 (.reg slices_Reverse_int_r3 [.keep [0, 2, 3] [1000000]])) (.reg slices_Reverse_int_r2 [.keep [0, 2, 3] [1000000]]))) [.keep [0, 2, 3] [1000000]]) Q s := Eq.trans rfl rfl
@[simp ↓] theorem slices_Reverse_int_ic_run : run P Γ slices_Reverse_int_ic Q s = run P Γ (.seq (.reg slices_Reverse_int_r0 [.keep [0, 2, 3] [1000000]]) (.block 0 slices_Reverse_int_l1)) Q s := Eq.trans rfl rfl
theorem slices_Reverse_int_l1_run (h : ∀ K : St → Prop, K = run P Γ slices_Reverse_int_l1 Q → run P Γ slices_Reverse_int_g0 (thenX K Q) s) : run P Γ slices_Reverse_int_l1 Q s := run_loop h
attribute [simp] slices_Reverse_int_r0 slices_Reverse_int_r1 slices_Reverse_int_r3 slices_Reverse_int_r2
def slices_Reverse_int_rv : List RV := []

/- probecard/logic.Fanin (function 82) -/
def logic_Fanin_r0 : List RO := [
    ⟨some 2, .mv (.const (.int .i64 0)), none, none⟩,
    ⟨some 3, .mv (.const (.int .i64 0)), none, none⟩]
def logic_Fanin_r1 : List RO := [
    ⟨some 4, .mv (.tmp 0), none, none⟩,
    ⟨some 5, .conv .i64 (.tmp 4), none, none⟩,
    ⟨some 6, .bin .geq (.tmp 5) (.const (.int .i64 16)), none, none⟩]
def logic_Fanin_r2 : List RO := [
    ⟨some 2, .mv (.const (.int .i64 0)), none, none⟩,
    ⟨some 3, .mv (.const (.int .i64 (-1))), none, none⟩]
def logic_Fanin_r3 : List RO := [
    ⟨some 7, .mv (.tmp 0), none, none⟩,
    ⟨some 8, .iadrA 16 2 (.global 0) (.tmp 7), none, none⟩,
    ⟨some 9, .iadrA 2 1 (.tmp 8) (.const (.int .i64 0)), none, none⟩,
    ⟨some 10, .load 1 false (.tmp 9), none, none⟩,
    ⟨some 11, .mv (.tmp 0), none, none⟩,
    ⟨some 12, .iadrA 16 2 (.global 0) (.tmp 11), none, none⟩,
    ⟨some 13, .iadrA 2 1 (.tmp 12) (.const (.int .i64 1)), none, none⟩,
    ⟨some 14, .load 1 false (.tmp 13), none, none⟩,
    ⟨some 2, .mv (.tmp 10), none, none⟩,
    ⟨some 3, .mv (.tmp 14), none, none⟩]
def logic_Fanin_ic : IC := (.seq (.reg logic_Fanin_r0 [.keep [0] []]) (.seq (.seq (.reg logic_Fanin_r1 [.keep [0, 6] []]) (.cond (.tmp 6) (.seq (.reg logic_Fanin_r2 [.keep [2, 3] []]) .ret) .skip)) (.seq (.reg logic_Fanin_r3 [.keep [2, 3] []]) .ret)))
@[simp ↓] theorem logic_Fanin_ic_run : run P Γ logic_Fanin_ic Q s = run P Γ (.seq (.reg logic_Fanin_r0 [.keep [0] []]) (.seq (.seq (.reg logic_Fanin_r1 [.keep [0, 6] []]) (.cond (.tmp 6) (.seq (.reg logic_Fanin_r2 [.keep [2, 3] []]) .ret) .skip)) (.seq (.reg logic_Fanin_r3 [.keep [2, 3] []]) .ret))) Q s := Eq.trans rfl rfl
attribute [simp] logic_Fanin_r0 logic_Fanin_r1 logic_Fanin_r2 logic_Fanin_r3
def logic_Fanin_rv : List RV := [.tmp 2, .tmp 3]

/- strings.IndexByte (function 91) -/
def strings_IndexByte_r0 : List RO := [
    ⟨some 4, .mv (.const (.int .i64 0)), none, none⟩]
def strings_IndexByte_r1 : List RO := [
    ⟨some 5, .mv (.tmp 0), none, none⟩,
    ⟨some 6, .mv (.tmp 1), none, none⟩,
    ⟨some 7, .call 112 [(.tmp 5), (.tmp 6)], none, none⟩,
    ⟨some 4, .mv (.tmp 7), none, none⟩]
def strings_IndexByte_ic : IC := (.seq (.reg strings_IndexByte_r0 [.keep [0, 1] []]) (.seq (.reg strings_IndexByte_r1 [.keep [4] []]) .ret))
@[simp ↓] theorem strings_IndexByte_ic_run : run P Γ strings_IndexByte_ic Q s = run P Γ (.seq (.reg strings_IndexByte_r0 [.keep [0, 1] []]) (.seq (.reg strings_IndexByte_r1 [.keep [4] []]) .ret)) Q s := Eq.trans rfl rfl
attribute [simp] strings_IndexByte_r0 strings_IndexByte_r1
def strings_IndexByte_rv : List RV := [.tmp 4]

/- probecard/netlists.node (function 103) -/
def netlists_node_r0 : List RO := [
    ⟨some 2, .box true (.tmp 0), none, none⟩,
    ⟨some 3, .box true (.tmp 1), none, none⟩,
    ⟨some 4, .mv (.const (.int .i64 0)), none, none⟩]
def netlists_node_r1 : List RO := [
    ⟨some 9, .fadr 0 (.tmp 3), none, none⟩,
    ⟨some 10, .load 1 false (.tmp 9), none, none⟩,
    ⟨some 11, .call 82 [(.tmp 10)], none, none⟩,
    ⟨some 8, .mv (.tmp 11), none, none⟩,
    ⟨some 12, .ext (.tmp 8) 0, none, none⟩,
    ⟨some 13, .ext (.tmp 8) 1, none, none⟩,
    ⟨some 5, .mv (.tmp 12), none, none⟩,
    ⟨some 6, .mv (.tmp 13), none, none⟩]
def netlists_node_r2 : List RO := [
    ⟨some 14, .mkf 121 [(.tmp 2)], none, none⟩,
    ⟨some 7, .mv (.tmp 14), none, none⟩]
def netlists_node_r3 : List RO := [
    ⟨some 16, .fadr 0 (.tmp 3), none, none⟩,
    ⟨some 17, .load 1 false (.tmp 16), none, none⟩,
    ⟨some 18, .bin .gtr (.tmp 17) (.const (.int .u8 15)), none, none⟩,
    ⟨some 15, .mv (.tmp 18), none, none⟩]
def netlists_node_r4 : List RO := [
    ⟨some 4, .mv (.const (.int .i64 7)), none, none⟩]
def netlists_node_r5 : List RO := [
    ⟨some 20, .fadr 1 (.tmp 3), none, none⟩,
    ⟨some 21, .load 1 false (.tmp 20), none, none⟩,
    ⟨some 22, .len 0 (.tmp 21), none, none⟩,
    ⟨some 23, .mv (.tmp 5), none, none⟩,
    ⟨some 24, .bin .lss (.tmp 22) (.tmp 23), none, none⟩,
    ⟨some 25, .mv (.tmp 24), none, none⟩,
    ⟨some 26, .fadr 1 (.tmp 3), some (25, false), none⟩,
    ⟨some 27, .load 1 false (.tmp 26), some (25, false), none⟩,
    ⟨some 28, .len 0 (.tmp 27), some (25, false), none⟩,
    ⟨some 29, .mv (.tmp 6), some (25, false), none⟩,
    ⟨some 30, .bin .gtr (.tmp 28) (.tmp 29), some (25, false), none⟩,
    ⟨some 31, .pick (.tmp 25) (.const (.bool true)) (.tmp 30), none, none⟩,
    ⟨some 19, .mv (.tmp 31), none, none⟩]
def netlists_node_r6 : List RO := [
    ⟨some 4, .mv (.const (.int .i64 8)), none, none⟩]
def netlists_node_r7 : List RO := [
    ⟨some 33, .fadr 1 (.tmp 3), none, none⟩,
    ⟨some 34, .load 1 false (.tmp 33), none, none⟩,
    ⟨some 35, .load 4 true (.tmp 2), none, none⟩,
    ⟨some 36, .call 107 [(.tmp 35)], none, none⟩,
    ⟨some 37, .call 106 [(.tmp 34), (.tmp 36)], none, none⟩,
    ⟨some 32, .mv (.tmp 37), none, none⟩]
def netlists_node_r8 : List RO := [
    ⟨some 4, .mv (.const (.int .i64 1)), none, none⟩]
def netlists_node_r9 : List RO := [
    ⟨some 39, .fadr 0 (.tmp 3), none, none⟩,
    ⟨some 40, .load 1 false (.tmp 39), none, none⟩,
    ⟨some 41, .bin .eql (.tmp 40) (.const (.int .u8 13)), none, none⟩,
    ⟨some 42, .mv (.tmp 41), none, none⟩,
    ⟨some 43, .fadr 1 (.tmp 3), some (42, true), none⟩,
    ⟨some 44, .load 1 false (.tmp 43), some (42, true), none⟩,
    ⟨some 45, .mv (.tmp 7), some (42, true), none⟩,
    ⟨some 46, .call 106 [(.tmp 44), (.tmp 45)], some (42, true), none⟩,
    ⟨some 47, .pick (.tmp 42) (.tmp 46) (.const (.bool false)), none, none⟩,
    ⟨some 38, .mv (.tmp 47), none, none⟩]
def netlists_node_r10 : List RO := [
    ⟨some 4, .mv (.const (.int .i64 7)), none, none⟩]
def netlists_node_r11 : List RO := [
    ⟨some 49, .load 4 true (.tmp 2), none, none⟩,
    ⟨some 50, .load 4 true (.tmp 3), none, none⟩,
    ⟨some 51, .call 122 [(.tmp 49), (.tmp 50)], none, none⟩,
    ⟨some 52, .un .not (.tmp 51), none, none⟩,
    ⟨some 48, .mv (.tmp 52), none, none⟩]
def netlists_node_r12 : List RO := [
    ⟨some 4, .mv (.const (.int .i64 1)), none, none⟩]
def netlists_node_c0 : IC := (.seq (.reg netlists_node_r5 [.keep [2, 3, 7, 19] []]) (.cond (.tmp 19) (.seq (.reg netlists_node_r6 [.keep [4] []]) .ret) (.seq (.reg netlists_node_r7 [.keep [2, 3, 7, 32] []]) (.cond (.tmp 32) (.seq (.reg netlists_node_r8 [.keep [4] []]) .ret) (.seq (.reg netlists_node_r9 [.keep [2, 3, 38] []]) (.cond (.tmp 38) (.seq (.reg netlists_node_r10 [.keep [4] []]) .ret) (.seq (.reg netlists_node_r11 [.keep [48] []]) (.cond (.tmp 48) (.seq (.reg netlists_node_r12 [.keep [4] []]) .ret) .skip))))))))
def netlists_node_r13 : List RO := [
    ⟨some 4, .mv (.const (.int .i64 0)), none, none⟩]
def netlists_node_ic : IC := (.seq (.reg netlists_node_r0 [.keep [2, 3] []]) (.seq (.reg netlists_node_r1 [.keep [2, 3, 5, 6] []]) (.seq (.reg netlists_node_r2 [.keep [2, 3, 5, 6, 7] []]) (.seq (.block 0 (.seq (.reg netlists_node_r3 [.keep [2, 3, 5, 6, 7, 15] []]) (.cond (.tmp 15) (.seq (.reg netlists_node_r4 [.keep [4] []]) .ret) netlists_node_c0))) (.seq (.reg netlists_node_r13 [.keep [4] []]) .ret)))))
@[simp ↓] theorem netlists_node_c0_run : run P Γ netlists_node_c0 Q s = run P Γ (.seq (.reg netlists_node_r5 [.keep [2, 3, 7, 19] []]) (.cond (.tmp 19) (.seq (.reg netlists_node_r6 [.keep [4] []]) .ret) (.seq (.reg netlists_node_r7 [.keep [2, 3, 7, 32] []]) (.cond (.tmp 32) (.seq (.reg netlists_node_r8 [.keep [4] []]) .ret) (.seq (.reg netlists_node_r9 [.keep [2, 3, 38] []]) (.cond (.tmp 38) (.seq (.reg netlists_node_r10 [.keep [4] []]) .ret) (.seq (.reg netlists_node_r11 [.keep [48] []]) (.cond (.tmp 48) (.seq (.reg netlists_node_r12 [.keep [4] []]) .ret) .skip)))))))) Q s := Eq.trans rfl rfl
@[simp ↓] theorem netlists_node_ic_run : run P Γ netlists_node_ic Q s = run P Γ (.seq (.reg netlists_node_r0 [.keep [2, 3] []]) (.seq (.reg netlists_node_r1 [.keep [2, 3, 5, 6] []]) (.seq (.reg netlists_node_r2 [.keep [2, 3, 5, 6, 7] []]) (.seq (.block 0 (.seq (.reg netlists_node_r3 [.keep [2, 3, 5, 6, 7, 15] []]) (.cond (.tmp 15) (.seq (.reg netlists_node_r4 [.keep [4] []]) .ret) netlists_node_c0))) (.seq (.reg netlists_node_r13 [.keep [4] []]) .ret))))) Q s := Eq.trans rfl rfl
attribute [simp] netlists_node_r0 netlists_node_r1 netlists_node_r2 netlists_node_r3 netlists_node_r4 netlists_node_r5 netlists_node_r6 netlists_node_r7 netlists_node_r8 netlists_node_r9 netlists_node_r10 netlists_node_r11 netlists_node_r12 netlists_node_r13
def netlists_node_rv : List RV := [.tmp 4]

/- probecard/netlists.names (function 104) -/
def netlists_names_r0 : List RO := [
    ⟨some 1, .box true (.tmp 0), none, none⟩,
    ⟨some 2, .mv (.const (.int .i64 0)), none, none⟩]
def netlists_names_r1 : List RO := [
    ⟨some 6, .mkmap, none, none⟩,
    ⟨some 3, .mv (.tmp 6), none, none⟩]
def netlists_names_r2 : List RO := [
    ⟨some 7, .fadr 1 (.tmp 1), none, none⟩,
    ⟨some 8, .load 1 false (.tmp 7), none, none⟩,
    ⟨some 9, .len 0 (.tmp 8), none, none⟩,
    ⟨some 10, .mv (.const (.int .i64 0)), none, none⟩]
def netlists_names_r3 : List RO := [
    ⟨some 11, .bin .lss (.tmp 10) (.tmp 9), none, none⟩]
def netlists_names_r4 : List RO := [
    ⟨some 12, .iadr 1 (.tmp 8) (.tmp 10), none, none⟩,
    ⟨some 13, .load 1 false (.tmp 12), none, none⟩,
    ⟨some 5, .mv (.tmp 13), none, none⟩]
def netlists_names_r5 : List RO := [
    ⟨some 14, .mv (.tmp 5), none, none⟩,
    ⟨some 15, .call 123 [(.tmp 14)], none, none⟩,
    ⟨some 16, .un .not (.tmp 15), none, none⟩,
    ⟨some 17, .mv (.tmp 16), none, none⟩,
    ⟨some 18, .mv (.tmp 3), some (17, false), none⟩,
    ⟨some 19, .mv (.tmp 5), some (17, false), none⟩,
    ⟨some 20, .lkup .str (.bool false) false (.tmp 18) (.tmp 19), some (17, false), none⟩,
    ⟨some 21, .pick (.tmp 17) (.const (.bool true)) (.tmp 20), none, none⟩]
def netlists_names_r6 : List RO := [
    ⟨some 2, .mv (.const (.int .i64 5)), none, none⟩]
def netlists_names_r7 : List RO := [
    ⟨some 22, .mv (.tmp 3), none, none⟩,
    ⟨some 23, .mv (.tmp 5), none, none⟩,
    ⟨none, .mup .str (.tmp 22) (.tmp 23) (.const (.bool true)), none, none⟩]
def netlists_names_r8 : List RO := [
    ⟨some 24, .bin .add (.tmp 10) (.const (.int .i64 1)), none, none⟩,
    ⟨some 10, .mv (.tmp 24), none, none⟩]
def netlists_names_g0 : IC := .gh (.seq (.reg netlists_names_r3 [.keep [3, 8, 9, 10, 11] [6]]) (.seq (.cond (.tmp 11) .skip (.exit 0)) (.seq (.block 1 (.seq (.reg netlists_names_r4 [.keep [3, 5, 8, 9, 10] [6]]) (.seq (.seq (.reg netlists_names_r5 [.keep [3, 5, 8, 9, 10, 21] [6]]) (.cond (.tmp 21) (.seq (.reg netlists_names_r6 [.keep [2] []]) .ret) .skip)) (.reg netlists_names_r7 [.keep [3, 8, 9, 10] [6]])))) (.reg netlists_names_r8 [.keep [3, 8, 9, 10] [6]])))) [.keep [3, 8, 9, 10] [6]]
def netlists_names_l1 : IC := .loop netlists_names_g0
def netlists_names_r9 : List RO := [
    ⟨some 2, .mv (.const (.int .i64 0)), none, none⟩]
def netlists_names_ic : IC := (.seq (.reg netlists_names_r0 [.keep [1] []]) (.seq (.reg netlists_names_r1 [.keep [1, 3] [6]]) (.seq (.seq (.reg netlists_names_r2 [.keep [3, 8, 9, 10] [6]]) (.block 0 netlists_names_l1)) (.seq (.reg netlists_names_r9 [.keep [2] []]) .ret))))
@[simp ↓] theorem netlists_names_g0_run : run P Γ netlists_names_g0 Q s = run P Γ (.gh (.seq (.reg netlists_names_r3 [.keep [3, 8, 9, 10, 11] [6]]) (.seq (.cond (.tmp 11) .skip (.exit 0)) (.seq (.block 1 (.seq (.reg netlists_names_r4 [.keep [3, 5, 8, 9, 10] [6]]) (.seq (.seq (.reg netlists_names_r5 [.keep [3, 5, 8, 9, 10, 21] [6]]) (.cond (.tmp 21) (.seq (.reg netlists_names_r6 [.keep [2] []]) .ret) .skip)) (.reg netlists_names_r7 [.keep [3, 8, 9, 10] [6]])))) (.reg netlists_names_r8 [.keep [3, 8, 9, 10] [6]])))) [.keep [3, 8, 9, 10] [6]]) Q s := Eq.trans rfl rfl
@[simp ↓] theorem netlists_names_ic_run : run P Γ netlists_names_ic Q s = run P Γ (.seq (.reg netlists_names_r0 [.keep [1] []]) (.seq (.reg netlists_names_r1 [.keep [1, 3] [6]]) (.seq (.seq (.reg netlists_names_r2 [.keep [3, 8, 9, 10] [6]]) (.block 0 netlists_names_l1)) (.seq (.reg netlists_names_r9 [.keep [2] []]) .ret)))) Q s := Eq.trans rfl rfl
theorem netlists_names_l1_run (h : ∀ K : St → Prop, K = run P Γ netlists_names_l1 Q → run P Γ netlists_names_g0 (thenX K Q) s) : run P Γ netlists_names_l1 Q s := run_loop h
attribute [simp] netlists_names_r0 netlists_names_r1 netlists_names_r2 netlists_names_r3 netlists_names_r4 netlists_names_r5 netlists_names_r6 netlists_names_r7 netlists_names_r8 netlists_names_r9
def netlists_names_rv : List RV := [.tmp 2]

/- probecard/netlists.memory (function 105) -/
def netlists_memory_r0 : List RO := [
    ⟨some 2, .box true (.tmp 0), none, none⟩,
    ⟨some 3, .box true (.tmp 1), none, none⟩,
    ⟨some 4, .mv (.const (.int .i64 0)), none, none⟩]
def netlists_memory_r1 : List RO := [
    ⟨some 5, .mv (.func 124), none, none⟩]
def netlists_memory_r2 : List RO := [
    ⟨some 7, .load 4 true (.tmp 2), none, none⟩,
    ⟨some 8, .call 107 [(.tmp 7)], none, none⟩,
    ⟨some 6, .mv (.tmp 8), none, none⟩]
def netlists_memory_r3 : List RO := [
    ⟨some 10, .mv (.tmp 5), none, none⟩,
    ⟨some 11, .fadr 0 (.tmp 3), none, none⟩,
    ⟨some 12, .load 1 false (.tmp 11), none, none⟩,
    ⟨some 13, .callv (.tmp 10) [(.tmp 12), (.const (.int .i64 8))], none, none⟩,
    ⟨some 14, .mv (.tmp 13), none, none⟩,
    ⟨some 15, .mv (.tmp 5), some (14, false), none⟩,
    ⟨some 16, .fadr 1 (.tmp 3), some (14, false), none⟩,
    ⟨some 17, .load 1 false (.tmp 16), some (14, false), none⟩,
    ⟨some 18, .callv (.tmp 15) [(.tmp 17), (.const (.int .i64 32))], some (14, false), none⟩,
    ⟨some 19, .pick (.tmp 14) (.const (.bool true)) (.tmp 18), none, none⟩,
    ⟨some 9, .mv (.tmp 19), none, none⟩]
def netlists_memory_r4 : List RO := [
    ⟨some 4, .mv (.const (.int .i64 8)), none, none⟩]
def netlists_memory_r5 : List RO := [
    ⟨some 21, .fadr 0 (.tmp 3), none, none⟩,
    ⟨some 22, .load 1 false (.tmp 21), none, none⟩,
    ⟨some 23, .mv (.tmp 6), none, none⟩,
    ⟨some 24, .call 106 [(.tmp 22), (.tmp 23)], none, none⟩,
    ⟨some 25, .mv (.tmp 24), none, none⟩,
    ⟨some 26, .fadr 1 (.tmp 3), some (25, false), none⟩,
    ⟨some 27, .load 1 false (.tmp 26), some (25, false), none⟩,
    ⟨some 28, .mv (.tmp 6), some (25, false), none⟩,
    ⟨some 29, .call 106 [(.tmp 27), (.tmp 28)], some (25, false), none⟩,
    ⟨some 30, .pick (.tmp 25) (.const (.bool true)) (.tmp 29), none, none⟩,
    ⟨some 31, .mv (.tmp 30), none, none⟩,
    ⟨some 32, .mv (.tmp 6), some (31, false), none⟩,
    ⟨some 33, .fadr 2 (.tmp 3), some (31, false), none⟩,
    ⟨some 34, .load 1 false (.tmp 33), some (31, false), none⟩,
    ⟨some 35, .callv (.tmp 32) [(.tmp 34)], some (31, false), none⟩,
    ⟨some 36, .pick (.tmp 31) (.const (.bool true)) (.tmp 35), none, none⟩,
    ⟨some 20, .mv (.tmp 36), none, none⟩]
def netlists_memory_r6 : List RO := [
    ⟨some 4, .mv (.const (.int .i64 1)), none, none⟩]
def netlists_memory_r7 : List RO := [
    ⟨some 4, .mv (.const (.int .i64 0)), none, none⟩]
def netlists_memory_ic : IC := (.seq (.reg netlists_memory_r0 [.keep [2, 3] []]) (.seq (.reg netlists_memory_r1 [.keep [2, 3, 5] []]) (.seq (.reg netlists_memory_r2 [.keep [3, 5, 6] []]) (.seq (.block 0 (.seq (.reg netlists_memory_r3 [.keep [3, 6, 9] []]) (.cond (.tmp 9) (.seq (.reg netlists_memory_r4 [.keep [4] []]) .ret) (.seq (.reg netlists_memory_r5 [.keep [20] []]) (.cond (.tmp 20) (.seq (.reg netlists_memory_r6 [.keep [4] []]) .ret) .skip))))) (.seq (.reg netlists_memory_r7 [.keep [4] []]) .ret)))))
@[simp ↓] theorem netlists_memory_ic_run : run P Γ netlists_memory_ic Q s = run P Γ (.seq (.reg netlists_memory_r0 [.keep [2, 3] []]) (.seq (.reg netlists_memory_r1 [.keep [2, 3, 5] []]) (.seq (.reg netlists_memory_r2 [.keep [3, 5, 6] []]) (.seq (.block 0 (.seq (.reg netlists_memory_r3 [.keep [3, 6, 9] []]) (.cond (.tmp 9) (.seq (.reg netlists_memory_r4 [.keep [4] []]) .ret) (.seq (.reg netlists_memory_r5 [.keep [20] []]) (.cond (.tmp 20) (.seq (.reg netlists_memory_r6 [.keep [4] []]) .ret) .skip))))) (.seq (.reg netlists_memory_r7 [.keep [4] []]) .ret))))) Q s := Eq.trans rfl rfl
attribute [simp] netlists_memory_r0 netlists_memory_r1 netlists_memory_r2 netlists_memory_r3 netlists_memory_r4 netlists_memory_r5 netlists_memory_r6 netlists_memory_r7
def netlists_memory_rv : List RV := [.tmp 4]

/- slices.ContainsFunc[[]int,int] (function 106) -/
def slices_ContainsFunc_int_r0 : List RO := [
    ⟨some 4, .mv (.const (.bool false)), none, none⟩]
def slices_ContainsFunc_int_r1 : List RO := [
    ⟨some 5, .mv (.tmp 0), none, none⟩,
    ⟨some 6, .mv (.tmp 1), none, none⟩,
    ⟨some 7, .call 125 [(.tmp 5), (.tmp 6)], none, none⟩,
    ⟨some 8, .bin .geq (.tmp 7) (.const (.int .i64 0)), none, none⟩,
    ⟨some 4, .mv (.tmp 8), none, none⟩]
def slices_ContainsFunc_int_ic : IC := (.seq (.reg slices_ContainsFunc_int_r0 [.keep [0, 1] []]) (.seq (.reg slices_ContainsFunc_int_r1 [.keep [4] []]) .ret))
@[simp ↓] theorem slices_ContainsFunc_int_ic_run : run P Γ slices_ContainsFunc_int_ic Q s = run P Γ (.seq (.reg slices_ContainsFunc_int_r0 [.keep [0, 1] []]) (.seq (.reg slices_ContainsFunc_int_r1 [.keep [4] []]) .ret)) Q s := Eq.trans rfl rfl
attribute [simp] slices_ContainsFunc_int_r0 slices_ContainsFunc_int_r1
def slices_ContainsFunc_int_rv : List RV := [.tmp 4]

/- probecard/netlists.outside (function 107) -/
def netlists_outside_r0 : List RO := [
    ⟨some 1, .box true (.tmp 0), none, none⟩,
    ⟨some 2, .mv (.const .nilFunc), none, none⟩]
def netlists_outside_r1 : List RO := [
    ⟨some 3, .mkf 126 [(.tmp 1)], none, none⟩,
    ⟨some 2, .mv (.tmp 3), none, none⟩]
def netlists_outside_ic : IC := (.seq (.reg netlists_outside_r0 [.keep [1] []]) (.seq (.reg netlists_outside_r1 [.keep [2] []]) .ret))
@[simp ↓] theorem netlists_outside_ic_run : run P Γ netlists_outside_ic Q s = run P Γ (.seq (.reg netlists_outside_r0 [.keep [1] []]) (.seq (.reg netlists_outside_r1 [.keep [2] []]) .ret)) Q s := Eq.trans rfl rfl
attribute [simp] netlists_outside_r0 netlists_outside_r1
def netlists_outside_rv : List RV := [.tmp 2]

/- slices.Clip[[]probecard/api.Line,probecard/api.Line] (function 108) -/
def slices_Clip_api_Line_r0 : List RO := [
    ⟨some 2, .mv (.const (.slice none 0 0)), none, none⟩]
def slices_Clip_api_Line_r1 : List RO := [
    ⟨some 3, .mv (.tmp 0), none, none⟩,
    ⟨some 4, .mv (.tmp 0), none, none⟩,
    ⟨some 5, .len 0 (.tmp 4), none, none⟩,
    ⟨some 6, .mv (.tmp 0), none, none⟩,
    ⟨some 7, .len 0 (.tmp 6), none, none⟩,
    ⟨some 8, .slice 2 (.tmp 3) none (some (.tmp 5)) (some (.tmp 7)), none, none⟩,
    ⟨some 2, .mv (.tmp 8), none, none⟩]
def slices_Clip_api_Line_ic : IC := (.seq (.reg slices_Clip_api_Line_r0 [.keep [0] []]) (.seq (.reg slices_Clip_api_Line_r1 [.keep [2] []]) .ret))
@[simp ↓] theorem slices_Clip_api_Line_ic_run : run P Γ slices_Clip_api_Line_ic Q s = run P Γ (.seq (.reg slices_Clip_api_Line_r0 [.keep [0] []]) (.seq (.reg slices_Clip_api_Line_r1 [.keep [2] []]) .ret)) Q s := Eq.trans rfl rfl
attribute [simp] slices_Clip_api_Line_r0 slices_Clip_api_Line_r1
def slices_Clip_api_Line_rv : List RV := [.tmp 2]

/- internal/stringslite.IndexByte (function 112) -/
def i_stringslite_IndexByte_r0 : List RO := [
    ⟨some 4, .mv (.const (.int .i64 0)), none, none⟩]
def i_stringslite_IndexByte_r1 : List RO := [
    ⟨some 5, .mv (.tmp 0), none, none⟩,
    ⟨some 6, .mv (.tmp 1), none, none⟩,
    ⟨some 7, .call 127 [(.tmp 5), (.tmp 6)], none, none⟩,
    ⟨some 4, .mv (.tmp 7), none, none⟩]
def i_stringslite_IndexByte_ic : IC := (.seq (.reg i_stringslite_IndexByte_r0 [.keep [0, 1] []]) (.seq (.reg i_stringslite_IndexByte_r1 [.keep [4] []]) .ret))
@[simp ↓] theorem i_stringslite_IndexByte_ic_run : run P Γ i_stringslite_IndexByte_ic Q s = run P Γ (.seq (.reg i_stringslite_IndexByte_r0 [.keep [0, 1] []]) (.seq (.reg i_stringslite_IndexByte_r1 [.keep [4] []]) .ret)) Q s := Eq.trans rfl rfl
attribute [simp] i_stringslite_IndexByte_r0 i_stringslite_IndexByte_r1
def i_stringslite_IndexByte_rv : List RV := [.tmp 4]

/- probecard/netlists.node$1 (function 121) -/
def netlists_node_1_r0 : List RO := [
    ⟨some 3, .mv (.const (.bool false)), none, none⟩]
def netlists_node_1_r1 : List RO := [
    ⟨some 4, .fadr 0 (.tmp 1), none, none⟩,
    ⟨some 5, .load 1 false (.tmp 4), none, none⟩,
    ⟨some 6, .mv (.tmp 0), none, none⟩,
    ⟨some 7, .iadr 4 (.tmp 5) (.tmp 6), none, none⟩,
    ⟨some 8, .fadr 0 (.tmp 7), none, none⟩,
    ⟨some 9, .load 1 false (.tmp 8), none, none⟩,
    ⟨some 10, .bin .neq (.tmp 9) (.const (.int .u8 12)), none, none⟩,
    ⟨some 3, .mv (.tmp 10), none, none⟩]
def netlists_node_1_ic : IC := (.seq (.reg netlists_node_1_r0 [.keep [0, 1] []]) (.seq (.reg netlists_node_1_r1 [.keep [3] []]) .ret))
@[simp ↓] theorem netlists_node_1_ic_run : run P Γ netlists_node_1_ic Q s = run P Γ (.seq (.reg netlists_node_1_r0 [.keep [0, 1] []]) (.seq (.reg netlists_node_1_r1 [.keep [3] []]) .ret)) Q s := Eq.trans rfl rfl
attribute [simp] netlists_node_1_r0 netlists_node_1_r1
def netlists_node_1_rv : List RV := [.tmp 3]

/- probecard/netlists.bit (function 122) -/
def netlists_bit_r0 : List RO := [
    ⟨some 2, .box true (.tmp 0), none, none⟩,
    ⟨some 3, .box true (.tmp 1), none, none⟩,
    ⟨some 4, .mv (.const (.bool false)), none, none⟩]
def netlists_bit_r1 : List RO := [
    ⟨some 5, .fadr 0 (.tmp 3), none, none⟩,
    ⟨some 6, .load 1 false (.tmp 5), none, none⟩,
    ⟨some 7, .bin .neq (.tmp 6) (.const (.int .u8 15)), none, none⟩]
def netlists_bit_r2 : List RO := [
    ⟨some 8, .fadr 2 (.tmp 3), none, none⟩,
    ⟨some 9, .load 1 false (.tmp 8), none, none⟩,
    ⟨some 10, .bin .eql (.tmp 9) (.const (.int .i64 0)), none, none⟩,
    ⟨some 11, .mv (.tmp 10), none, none⟩,
    ⟨some 12, .fadr 3 (.tmp 3), some (11, true), none⟩,
    ⟨some 13, .load 1 false (.tmp 12), some (11, true), none⟩,
    ⟨some 14, .bin .eql (.tmp 13) (.const (.int .i64 0)), some (11, true), none⟩,
    ⟨some 15, .pick (.tmp 11) (.tmp 14) (.const (.bool false)), none, none⟩,
    ⟨some 4, .mv (.tmp 15), none, none⟩]
def netlists_bit_r3 : List RO := [
    ⟨some 16, .fadr 2 (.tmp 3), none, none⟩,
    ⟨some 17, .load 1 false (.tmp 16), none, none⟩,
    ⟨some 18, .bin .geq (.tmp 17) (.const (.int .i64 0)), none, none⟩,
    ⟨some 19, .mv (.tmp 18), none, none⟩,
    ⟨some 20, .fadr 2 (.tmp 3), some (19, true), none⟩,
    ⟨some 21, .load 1 false (.tmp 20), some (19, true), none⟩,
    ⟨some 22, .fadr 2 (.tmp 2), some (19, true), none⟩,
    ⟨some 23, .load 1 false (.tmp 22), some (19, true), none⟩,
    ⟨some 24, .len 0 (.tmp 23), some (19, true), none⟩,
    ⟨some 25, .bin .lss (.tmp 21) (.tmp 24), some (19, true), none⟩,
    ⟨some 26, .pick (.tmp 19) (.tmp 25) (.const (.bool false)), none, none⟩,
    ⟨some 27, .mv (.tmp 26), none, none⟩,
    ⟨some 28, .fadr 3 (.tmp 3), some (27, true), none⟩,
    ⟨some 29, .load 1 false (.tmp 28), some (27, true), none⟩,
    ⟨some 30, .bin .geq (.tmp 29) (.const (.int .i64 0)), some (27, true), none⟩,
    ⟨some 31, .pick (.tmp 27) (.tmp 30) (.const (.bool false)), none, none⟩,
    ⟨some 32, .mv (.tmp 31), none, none⟩,
    ⟨some 33, .fadr 3 (.tmp 3), some (32, true), none⟩,
    ⟨some 34, .load 1 false (.tmp 33), some (32, true), none⟩,
    ⟨some 35, .fadr 2 (.tmp 2), some (32, true), none⟩,
    ⟨some 36, .load 1 false (.tmp 35), some (32, true), none⟩,
    ⟨some 37, .fadr 2 (.tmp 3), some (32, true), none⟩,
    ⟨some 38, .load 1 false (.tmp 37), some (32, true), none⟩,
    ⟨some 39, .iadr 3 (.tmp 36) (.tmp 38), some (32, true), none⟩,
    ⟨some 40, .fadr 1 (.tmp 39), some (32, true), none⟩,
    ⟨some 41, .load 1 false (.tmp 40), some (32, true), none⟩,
    ⟨some 42, .len 0 (.tmp 41), some (32, true), none⟩,
    ⟨some 43, .bin .lss (.tmp 34) (.tmp 42), some (32, true), none⟩,
    ⟨some 44, .pick (.tmp 32) (.tmp 43) (.const (.bool false)), none, none⟩,
    ⟨some 4, .mv (.tmp 44), none, none⟩]
def netlists_bit_ic : IC := (.seq (.reg netlists_bit_r0 [.keep [2, 3] []]) (.seq (.seq (.reg netlists_bit_r1 [.keep [2, 3, 7] []]) (.cond (.tmp 7) (.seq (.reg netlists_bit_r2 [.keep [4] []]) .ret) .skip)) (.seq (.reg netlists_bit_r3 [.keep [4] []]) .ret)))
@[simp ↓] theorem netlists_bit_ic_run : run P Γ netlists_bit_ic Q s = run P Γ (.seq (.reg netlists_bit_r0 [.keep [2, 3] []]) (.seq (.seq (.reg netlists_bit_r1 [.keep [2, 3, 7] []]) (.cond (.tmp 7) (.seq (.reg netlists_bit_r2 [.keep [4] []]) .ret) .skip)) (.seq (.reg netlists_bit_r3 [.keep [4] []]) .ret))) Q s := Eq.trans rfl rfl
attribute [simp] netlists_bit_r0 netlists_bit_r1 netlists_bit_r2 netlists_bit_r3
def netlists_bit_rv : List RV := [.tmp 4]

/- probecard/netlists.IsName (function 123) -/
def netlists_IsName_r0 : List RO := [
    ⟨some 2, .mv (.const (.bool false)), none, none⟩]
def netlists_IsName_r1 : List RO := [
    ⟨some 3, .mv (.func 134), none, none⟩]
def netlists_IsName_r2 : List RO := [
    ⟨some 4, .mv (.tmp 0), none, none⟩,
    ⟨some 5, .bin .neq (.tmp 4) (.const (sV [])), none, none⟩,
    ⟨some 6, .mv (.tmp 5), none, none⟩,
    ⟨some 7, .mv (.tmp 0), some (6, true), none⟩,
    ⟨some 8, .len 1 (.tmp 7), some (6, true), none⟩,
    ⟨some 9, .bin .leq (.tmp 8) (.const (.int .i64 32)), some (6, true), none⟩,
    ⟨some 10, .pick (.tmp 6) (.tmp 9) (.const (.bool false)), none, none⟩,
    ⟨some 11, .mv (.tmp 10), none, none⟩,
    ⟨some 12, .mv (.tmp 0), some (11, true), none⟩,
    ⟨some 13, .mv (.tmp 3), some (11, true), none⟩,
    ⟨some 14, .call 136 [(.tmp 12), (.tmp 13)], some (11, true), none⟩,
    ⟨some 15, .un .not (.tmp 14), some (11, true), none⟩,
    ⟨some 16, .pick (.tmp 11) (.tmp 15) (.const (.bool false)), none, none⟩,
    ⟨some 2, .mv (.tmp 16), none, none⟩]
def netlists_IsName_ic : IC := (.seq (.reg netlists_IsName_r0 [.keep [0] []]) (.seq (.reg netlists_IsName_r1 [.keep [0, 3] []]) (.seq (.reg netlists_IsName_r2 [.keep [2] []]) .ret)))
@[simp ↓] theorem netlists_IsName_ic_run : run P Γ netlists_IsName_ic Q s = run P Γ (.seq (.reg netlists_IsName_r0 [.keep [0] []]) (.seq (.reg netlists_IsName_r1 [.keep [0, 3] []]) (.seq (.reg netlists_IsName_r2 [.keep [2] []]) .ret))) Q s := Eq.trans rfl rfl
attribute [simp] netlists_IsName_r0 netlists_IsName_r1 netlists_IsName_r2
def netlists_IsName_rv : List RV := [.tmp 2]

/- probecard/netlists.memory$1 (function 124) -/
def netlists_memory_1_r0 : List RO := [
    ⟨some 4, .mv (.const (.bool false)), none, none⟩]
def netlists_memory_1_r1 : List RO := [
    ⟨some 5, .mv (.tmp 0), none, none⟩,
    ⟨some 6, .len 0 (.tmp 5), none, none⟩,
    ⟨some 7, .bin .eql (.tmp 6) (.const (.int .i64 0)), none, none⟩,
    ⟨some 8, .mv (.tmp 7), none, none⟩,
    ⟨some 9, .mv (.tmp 0), some (8, false), none⟩,
    ⟨some 10, .len 0 (.tmp 9), some (8, false), none⟩,
    ⟨some 11, .mv (.tmp 1), some (8, false), none⟩,
    ⟨some 12, .bin .gtr (.tmp 10) (.tmp 11), some (8, false), none⟩,
    ⟨some 13, .pick (.tmp 8) (.const (.bool true)) (.tmp 12), none, none⟩,
    ⟨some 4, .mv (.tmp 13), none, none⟩]
def netlists_memory_1_ic : IC := (.seq (.reg netlists_memory_1_r0 [.keep [0, 1] []]) (.seq (.reg netlists_memory_1_r1 [.keep [4] []]) .ret))
@[simp ↓] theorem netlists_memory_1_ic_run : run P Γ netlists_memory_1_ic Q s = run P Γ (.seq (.reg netlists_memory_1_r0 [.keep [0, 1] []]) (.seq (.reg netlists_memory_1_r1 [.keep [4] []]) .ret)) Q s := Eq.trans rfl rfl
attribute [simp] netlists_memory_1_r0 netlists_memory_1_r1
def netlists_memory_1_rv : List RV := [.tmp 4]

/- slices.IndexFunc[[]int,int] (function 125) -/
def slices_IndexFunc_int_r0 : List RO := [
    ⟨some 4, .mv (.const (.int .i64 0)), none, none⟩]
def slices_IndexFunc_int_r1 : List RO := [
    ⟨some 6, .mv (.tmp 0), none, none⟩,
    ⟨some 7, .len 0 (.tmp 6), none, none⟩,
    ⟨some 8, .mv (.const (.int .i64 0)), none, none⟩]
def slices_IndexFunc_int_r2 : List RO := [
    ⟨some 9, .bin .lss (.tmp 8) (.tmp 7), none, none⟩]
def slices_IndexFunc_int_r3 : List RO := [
    ⟨some 10, .mv (.tmp 8), none, none⟩,
    ⟨some 5, .mv (.tmp 10), none, none⟩]
def slices_IndexFunc_int_r4 : List RO := [
    ⟨some 11, .mv (.tmp 1), none, none⟩,
    ⟨some 12, .mv (.tmp 0), none, none⟩,
    ⟨some 13, .mv (.tmp 5), none, none⟩,
    ⟨some 14, .iadr 1 (.tmp 12) (.tmp 13), none, none⟩,
    ⟨some 15, .load 1 false (.tmp 14), none, none⟩,
    ⟨some 16, .callv (.tmp 11) [(.tmp 15)], none, none⟩]
def slices_IndexFunc_int_r5 : List RO := [
    ⟨some 17, .mv (.tmp 5), none, none⟩,
    ⟨some 4, .mv (.tmp 17), none, none⟩]
def slices_IndexFunc_int_r6 : List RO := [
    ⟨some 18, .bin .add (.tmp 8) (.const (.int .i64 1)), none, none⟩,
    ⟨some 8, .mv (.tmp 18), none, none⟩]
def slices_IndexFunc_int_g0 : IC := .gh (.seq (.reg slices_IndexFunc_int_r2 [.keep [0, 1, 7, 8, 9] []]) (.seq (.cond (.tmp 9) .skip (.exit 0)) (.seq (.block 1 (.seq (.reg slices_IndexFunc_int_r3 [.keep [0, 1, 5, 7, 8] []]) (.seq (.reg slices_IndexFunc_int_r4 [.keep [0, 1, 5, 7, 8, 16] []]) (.cond (.tmp 16) (.seq (.reg slices_IndexFunc_int_r5 [.keep [4] []]) .ret) .skip)))) (.reg slices_IndexFunc_int_r6 [.keep [0, 1, 7, 8] []])))) [.keep [0, 1, 7, 8] []]
def slices_IndexFunc_int_l1 : IC := .loop slices_IndexFunc_int_g0
def slices_IndexFunc_int_r7 : List RO := [
    ⟨some 4, .mv (.const (.int .i64 (-1))), none, none⟩]
def slices_IndexFunc_int_ic : IC := (.seq (.reg slices_IndexFunc_int_r0 [.keep [0, 1] []]) (.seq (.seq (.reg slices_IndexFunc_int_r1 [.keep [0, 1, 7, 8] []]) (.block 0 slices_IndexFunc_int_l1)) (.seq (.reg slices_IndexFunc_int_r7 [.keep [4] []]) .ret)))
@[simp ↓] theorem slices_IndexFunc_int_g0_run : run P Γ slices_IndexFunc_int_g0 Q s = run P Γ (.gh (.seq (.reg slices_IndexFunc_int_r2 [.keep [0, 1, 7, 8, 9] []]) (.seq (.cond (.tmp 9) .skip (.exit 0)) (.seq (.block 1 (.seq (.reg slices_IndexFunc_int_r3 [.keep [0, 1, 5, 7, 8] []]) (.seq (.reg slices_IndexFunc_int_r4 [.keep [0, 1, 5, 7, 8, 16] []]) (.cond (.tmp 16) (.seq (.reg slices_IndexFunc_int_r5 [.keep [4] []]) .ret) .skip)))) (.reg slices_IndexFunc_int_r6 [.keep [0, 1, 7, 8] []])))) [.keep [0, 1, 7, 8] []]) Q s := Eq.trans rfl rfl
@[simp ↓] theorem slices_IndexFunc_int_ic_run : run P Γ slices_IndexFunc_int_ic Q s = run P Γ (.seq (.reg slices_IndexFunc_int_r0 [.keep [0, 1] []]) (.seq (.seq (.reg slices_IndexFunc_int_r1 [.keep [0, 1, 7, 8] []]) (.block 0 slices_IndexFunc_int_l1)) (.seq (.reg slices_IndexFunc_int_r7 [.keep [4] []]) .ret))) Q s := Eq.trans rfl rfl
theorem slices_IndexFunc_int_l1_run (h : ∀ K : St → Prop, K = run P Γ slices_IndexFunc_int_l1 Q → run P Γ slices_IndexFunc_int_g0 (thenX K Q) s) : run P Γ slices_IndexFunc_int_l1 Q s := run_loop h
attribute [simp] slices_IndexFunc_int_r0 slices_IndexFunc_int_r1 slices_IndexFunc_int_r2 slices_IndexFunc_int_r3 slices_IndexFunc_int_r4 slices_IndexFunc_int_r5 slices_IndexFunc_int_r6 slices_IndexFunc_int_r7
def slices_IndexFunc_int_rv : List RV := [.tmp 4]

/- probecard/netlists.outside$1 (function 126) -/
def netlists_outside_1_r0 : List RO := [
    ⟨some 3, .mv (.const (.bool false)), none, none⟩]
def netlists_outside_1_r1 : List RO := [
    ⟨some 4, .mv (.tmp 0), none, none⟩,
    ⟨some 5, .bin .lss (.tmp 4) (.const (.int .i64 0)), none, none⟩,
    ⟨some 6, .mv (.tmp 5), none, none⟩,
    ⟨some 7, .mv (.tmp 0), some (6, false), none⟩,
    ⟨some 8, .fadr 0 (.tmp 1), some (6, false), none⟩,
    ⟨some 9, .load 1 false (.tmp 8), some (6, false), none⟩,
    ⟨some 10, .len 0 (.tmp 9), some (6, false), none⟩,
    ⟨some 11, .bin .geq (.tmp 7) (.tmp 10), some (6, false), none⟩,
    ⟨some 12, .pick (.tmp 6) (.const (.bool true)) (.tmp 11), none, none⟩,
    ⟨some 3, .mv (.tmp 12), none, none⟩]
def netlists_outside_1_ic : IC := (.seq (.reg netlists_outside_1_r0 [.keep [0, 1] []]) (.seq (.reg netlists_outside_1_r1 [.keep [3] []]) .ret))
@[simp ↓] theorem netlists_outside_1_ic_run : run P Γ netlists_outside_1_ic Q s = run P Γ (.seq (.reg netlists_outside_1_r0 [.keep [0, 1] []]) (.seq (.reg netlists_outside_1_r1 [.keep [3] []]) .ret)) Q s := Eq.trans rfl rfl
attribute [simp] netlists_outside_1_r0 netlists_outside_1_r1
def netlists_outside_1_rv : List RV := [.tmp 3]

/- probecard/netlists.IsName$1 (function 134) -/
def netlists_IsName_1_r0 : List RO := [
    ⟨some 2, .mv (.const (.bool false)), none, none⟩]
def netlists_IsName_1_r1 : List RO := [
    ⟨some 3, .mv (.tmp 0), none, none⟩,
    ⟨some 4, .bin .leq (.tmp 3) (.const (.int .i32 32)), none, none⟩,
    ⟨some 5, .mv (.tmp 4), none, none⟩,
    ⟨some 6, .mv (.tmp 0), some (5, false), none⟩,
    ⟨some 7, .bin .gtr (.tmp 6) (.const (.int .i32 126)), some (5, false), none⟩,
    ⟨some 8, .pick (.tmp 5) (.const (.bool true)) (.tmp 7), none, none⟩,
    ⟨some 9, .mv (.tmp 8), none, none⟩,
    ⟨some 10, .mv (.tmp 0), some (9, false), none⟩,
    ⟨some 11, .call 135 [(.const (sV [40, 41, 61, 44, 35])), (.tmp 10)], some (9, false), none⟩,
    ⟨some 12, .pick (.tmp 9) (.const (.bool true)) (.tmp 11), none, none⟩,
    ⟨some 2, .mv (.tmp 12), none, none⟩]
def netlists_IsName_1_ic : IC := (.seq (.reg netlists_IsName_1_r0 [.keep [0] []]) (.seq (.reg netlists_IsName_1_r1 [.keep [2] []]) .ret))
@[simp ↓] theorem netlists_IsName_1_ic_run : run P Γ netlists_IsName_1_ic Q s = run P Γ (.seq (.reg netlists_IsName_1_r0 [.keep [0] []]) (.seq (.reg netlists_IsName_1_r1 [.keep [2] []]) .ret)) Q s := Eq.trans rfl rfl
attribute [simp] netlists_IsName_1_r0 netlists_IsName_1_r1
def netlists_IsName_1_rv : List RV := [.tmp 2]

/- strings.ContainsRune (function 135) -/
def strings_ContainsRune_r0 : List RO := [
    ⟨some 4, .mv (.const (.bool false)), none, none⟩]
def strings_ContainsRune_r1 : List RO := [
    ⟨some 5, .mv (.tmp 0), none, none⟩,
    ⟨some 6, .mv (.tmp 1), none, none⟩,
    ⟨some 7, .call 143 [(.tmp 5), (.tmp 6)], none, none⟩,
    ⟨some 8, .bin .geq (.tmp 7) (.const (.int .i64 0)), none, none⟩,
    ⟨some 4, .mv (.tmp 8), none, none⟩]
def strings_ContainsRune_ic : IC := (.seq (.reg strings_ContainsRune_r0 [.keep [0, 1] []]) (.seq (.reg strings_ContainsRune_r1 [.keep [4] []]) .ret))
@[simp ↓] theorem strings_ContainsRune_ic_run : run P Γ strings_ContainsRune_ic Q s = run P Γ (.seq (.reg strings_ContainsRune_r0 [.keep [0, 1] []]) (.seq (.reg strings_ContainsRune_r1 [.keep [4] []]) .ret)) Q s := Eq.trans rfl rfl
attribute [simp] strings_ContainsRune_r0 strings_ContainsRune_r1
def strings_ContainsRune_rv : List RV := [.tmp 4]

/- strings.ContainsFunc (function 136) -/
def strings_ContainsFunc_r0 : List RO := [
    ⟨some 4, .mv (.const (.bool false)), none, none⟩]
def strings_ContainsFunc_r1 : List RO := [
    ⟨some 5, .mv (.tmp 0), none, none⟩,
    ⟨some 6, .mv (.tmp 1), none, none⟩,
    ⟨some 7, .call 144 [(.tmp 5), (.tmp 6)], none, none⟩,
    ⟨some 8, .bin .geq (.tmp 7) (.const (.int .i64 0)), none, none⟩,
    ⟨some 4, .mv (.tmp 8), none, none⟩]
def strings_ContainsFunc_ic : IC := (.seq (.reg strings_ContainsFunc_r0 [.keep [0, 1] []]) (.seq (.reg strings_ContainsFunc_r1 [.keep [4] []]) .ret))
@[simp ↓] theorem strings_ContainsFunc_ic_run : run P Γ strings_ContainsFunc_ic Q s = run P Γ (.seq (.reg strings_ContainsFunc_r0 [.keep [0, 1] []]) (.seq (.reg strings_ContainsFunc_r1 [.keep [4] []]) .ret)) Q s := Eq.trans rfl rfl
attribute [simp] strings_ContainsFunc_r0 strings_ContainsFunc_r1
def strings_ContainsFunc_rv : List RV := [.tmp 4]

/- strings.IndexRune (function 143) -/
def strings_IndexRune_r0 : List RO := [
    ⟨some 4, .mv (.const (.int .i64 0)), none, none⟩]
def strings_IndexRune_r34 : List RO := [
    ⟨some 161, .mv (.tmp 1), none, none⟩,
    ⟨some 162, .bin .leq (.const (.int .i32 0)) (.tmp 161), none, none⟩,
    ⟨some 163, .mv (.tmp 162), none, none⟩,
    ⟨some 164, .mv (.tmp 1), some (163, true), none⟩,
    ⟨some 165, .bin .lss (.tmp 164) (.const (.int .i32 128)), some (163, true), none⟩,
    ⟨some 166, .pick (.tmp 163) (.tmp 165) (.const (.bool false)), none, none⟩,
    ⟨some 160, .mv (.tmp 166), none, none⟩]
def strings_IndexRune_r35 : List RO := [
    ⟨some 167, .mv (.tmp 0), none, none⟩,
    ⟨some 168, .mv (.tmp 1), none, none⟩,
    ⟨some 169, .conv .u8 (.tmp 168), none, none⟩,
    ⟨some 170, .call 91 [(.tmp 167), (.tmp 169)], none, none⟩,
    ⟨some 4, .mv (.tmp 170), none, none⟩]
def strings_IndexRune_r36 : List RO := [
    ⟨some 172, .mv (.tmp 1), none, none⟩,
    ⟨some 173, .bin .eql (.tmp 172) (.const (.int .i32 65533)), none, none⟩,
    ⟨some 171, .mv (.tmp 173), none, none⟩]
def strings_IndexRune_r43 : List RO := [
    ⟨some 184, .mv (.tmp 1), none, none⟩,
    ⟨some 185, .call 147 [(.tmp 184)], none, none⟩,
    ⟨some 186, .un .not (.tmp 185), none, none⟩,
    ⟨some 183, .mv (.tmp 186), none, none⟩]
def strings_IndexRune_ic : IC := (.seq (.reg strings_IndexRune_r0 [.keep [0, 1] []]) (.block 0 (.seq (.reg strings_IndexRune_r34 [.keep [0, 1, 160] []]) (.cond (.tmp 160) (.seq (.reg strings_IndexRune_r35 [.keep [4] []]) .ret) (.seq (.reg strings_IndexRune_r36 [.keep [1, 171] []]) (.cond (.tmp 171) .dead (.seq (.reg strings_IndexRune_r43 [.keep [183] []]) (.cond (.tmp 183) .dead .dead))))))))
@[simp ↓] theorem strings_IndexRune_ic_run : run P Γ strings_IndexRune_ic Q s = run P Γ (.seq (.reg strings_IndexRune_r0 [.keep [0, 1] []]) (.block 0 (.seq (.reg strings_IndexRune_r34 [.keep [0, 1, 160] []]) (.cond (.tmp 160) (.seq (.reg strings_IndexRune_r35 [.keep [4] []]) .ret) (.seq (.reg strings_IndexRune_r36 [.keep [1, 171] []]) (.cond (.tmp 171) .dead (.seq (.reg strings_IndexRune_r43 [.keep [183] []]) (.cond (.tmp 183) .dead .dead)))))))) Q s := Eq.trans rfl rfl
attribute [simp] strings_IndexRune_r0 strings_IndexRune_r34 strings_IndexRune_r35 strings_IndexRune_r36 strings_IndexRune_r43
def strings_IndexRune_rv : List RV := [.tmp 4]

/- strings.IndexFunc (function 144) -/
def strings_IndexFunc_r0 : List RO := [
    ⟨some 4, .mv (.const (.int .i64 0)), none, none⟩]
def strings_IndexFunc_r1 : List RO := [
    ⟨some 5, .mv (.tmp 0), none, none⟩,
    ⟨some 6, .mv (.tmp 1), none, none⟩,
    ⟨some 7, .call 150 [(.tmp 5), (.tmp 6), (.const (.bool true))], none, none⟩,
    ⟨some 4, .mv (.tmp 7), none, none⟩]
def strings_IndexFunc_ic : IC := (.seq (.reg strings_IndexFunc_r0 [.keep [0, 1] []]) (.seq (.reg strings_IndexFunc_r1 [.keep [4] []]) .ret))
@[simp ↓] theorem strings_IndexFunc_ic_run : run P Γ strings_IndexFunc_ic Q s = run P Γ (.seq (.reg strings_IndexFunc_r0 [.keep [0, 1] []]) (.seq (.reg strings_IndexFunc_r1 [.keep [4] []]) .ret)) Q s := Eq.trans rfl rfl
attribute [simp] strings_IndexFunc_r0 strings_IndexFunc_r1
def strings_IndexFunc_rv : List RV := [.tmp 4]

/- unicode/utf8.ValidRune (function 147) -/
def utf8_ValidRune_r0 : List RO := [
    ⟨some 2, .mv (.const (.bool false)), none, none⟩]
def utf8_ValidRune_r1 : List RO := [
    ⟨some 4, .mv (.tmp 0), none, none⟩,
    ⟨some 5, .bin .leq (.const (.int .i32 0)) (.tmp 4), none, none⟩,
    ⟨some 6, .mv (.tmp 5), none, none⟩,
    ⟨some 7, .mv (.tmp 0), some (6, true), none⟩,
    ⟨some 8, .bin .lss (.tmp 7) (.const (.int .i32 55296)), some (6, true), none⟩,
    ⟨some 9, .pick (.tmp 6) (.tmp 8) (.const (.bool false)), none, none⟩,
    ⟨some 3, .mv (.tmp 9), none, none⟩]
def utf8_ValidRune_r2 : List RO := [
    ⟨some 2, .mv (.const (.bool true)), none, none⟩]
def utf8_ValidRune_r3 : List RO := [
    ⟨some 11, .mv (.tmp 0), none, none⟩,
    ⟨some 12, .bin .lss (.const (.int .i32 57343)) (.tmp 11), none, none⟩,
    ⟨some 13, .mv (.tmp 12), none, none⟩,
    ⟨some 14, .mv (.tmp 0), some (13, true), none⟩,
    ⟨some 15, .bin .leq (.tmp 14) (.const (.int .i32 1114111)), some (13, true), none⟩,
    ⟨some 16, .pick (.tmp 13) (.tmp 15) (.const (.bool false)), none, none⟩,
    ⟨some 10, .mv (.tmp 16), none, none⟩]
def utf8_ValidRune_r4 : List RO := [
    ⟨some 2, .mv (.const (.bool true)), none, none⟩]
def utf8_ValidRune_r5 : List RO := [
    ⟨some 2, .mv (.const (.bool false)), none, none⟩]
def utf8_ValidRune_ic : IC := (.seq (.reg utf8_ValidRune_r0 [.keep [0] []]) (.seq (.block 0 (.seq (.reg utf8_ValidRune_r1 [.keep [0, 3] []]) (.cond (.tmp 3) (.seq (.reg utf8_ValidRune_r2 [.keep [2] []]) .ret) (.seq (.reg utf8_ValidRune_r3 [.keep [10] []]) (.cond (.tmp 10) (.seq (.reg utf8_ValidRune_r4 [.keep [2] []]) .ret) .skip))))) (.seq (.reg utf8_ValidRune_r5 [.keep [2] []]) .ret)))
@[simp ↓] theorem utf8_ValidRune_ic_run : run P Γ utf8_ValidRune_ic Q s = run P Γ (.seq (.reg utf8_ValidRune_r0 [.keep [0] []]) (.seq (.block 0 (.seq (.reg utf8_ValidRune_r1 [.keep [0, 3] []]) (.cond (.tmp 3) (.seq (.reg utf8_ValidRune_r2 [.keep [2] []]) .ret) (.seq (.reg utf8_ValidRune_r3 [.keep [10] []]) (.cond (.tmp 10) (.seq (.reg utf8_ValidRune_r4 [.keep [2] []]) .ret) .skip))))) (.seq (.reg utf8_ValidRune_r5 [.keep [2] []]) .ret))) Q s := Eq.trans rfl rfl
attribute [simp] utf8_ValidRune_r0 utf8_ValidRune_r1 utf8_ValidRune_r2 utf8_ValidRune_r3 utf8_ValidRune_r4 utf8_ValidRune_r5
def utf8_ValidRune_rv : List RV := [.tmp 2]

/- strings.indexFunc (function 150) -/
def strings_indexFunc_r0 : List RO := [
    ⟨some 6, .mv (.const (.int .i64 0)), none, none⟩]
def strings_indexFunc_r1 : List RO := [
    ⟨some 9, .mv (.tmp 0), none, none⟩,
    ⟨some 10, .rng (.tmp 9), none, none⟩]
def strings_indexFunc_r2 : List RO := [
    ⟨some 11, .nxt (.tmp 10), none, none⟩,
    ⟨some 12, .ext (.tmp 11) 0, none, none⟩]
def strings_indexFunc_r3 : List RO := [
    ⟨some 13, .ext (.tmp 11) 1, none, none⟩,
    ⟨some 14, .ext (.tmp 11) 2, none, none⟩,
    ⟨some 7, .mv (.tmp 13), none, none⟩,
    ⟨some 8, .mv (.tmp 14), none, none⟩]
def strings_indexFunc_r4 : List RO := [
    ⟨some 15, .mv (.tmp 1), none, none⟩,
    ⟨some 16, .mv (.tmp 8), none, none⟩,
    ⟨some 17, .callv (.tmp 15) [(.tmp 16)], none, none⟩,
    ⟨some 18, .mv (.tmp 2), none, none⟩,
    ⟨some 19, .eqb true (.tmp 17) (.tmp 18), none, none⟩]
def strings_indexFunc_r5 : List RO := [
    ⟨some 20, .mv (.tmp 7), none, none⟩,
    ⟨some 6, .mv (.tmp 20), none, none⟩]
def strings_indexFunc_g0 : IC := .gh (.seq (.reg strings_indexFunc_r2 [.keep [1, 2, 10, 11, 12] [10]]) (.seq (.cond (.tmp 12) .skip (.exit 0)) (.block 1 (.seq (.reg strings_indexFunc_r3 [.keep [1, 2, 7, 8, 10] [10]]) (.seq (.reg strings_indexFunc_r4 [.keep [1, 2, 7, 10, 19] [10]]) (.cond (.tmp 19) (.seq (.reg strings_indexFunc_r5 [.keep [6] []]) .ret) .skip)))))) [.keep [1, 2, 10] [10]]
def strings_indexFunc_l1 : IC := .loop strings_indexFunc_g0
def strings_indexFunc_r6 : List RO := [
    ⟨some 6, .mv (.const (.int .i64 (-1))), none, none⟩]
def strings_indexFunc_ic : IC := (.seq (.reg strings_indexFunc_r0 [.keep [0, 1, 2] []]) (.seq (.seq (.reg strings_indexFunc_r1 [.keep [1, 2, 10] [10]]) (.block 0 strings_indexFunc_l1)) (.seq (.reg strings_indexFunc_r6 [.keep [6] []]) .ret)))
@[simp ↓] theorem strings_indexFunc_g0_run : run P Γ strings_indexFunc_g0 Q s = run P Γ (.gh (.seq (.reg strings_indexFunc_r2 [.keep [1, 2, 10, 11, 12] [10]]) (.seq (.cond (.tmp 12) .skip (.exit 0)) (.block 1 (.seq (.reg strings_indexFunc_r3 [.keep [1, 2, 7, 8, 10] [10]]) (.seq (.reg strings_indexFunc_r4 [.keep [1, 2, 7, 10, 19] [10]]) (.cond (.tmp 19) (.seq (.reg strings_indexFunc_r5 [.keep [6] []]) .ret) .skip)))))) [.keep [1, 2, 10] [10]]) Q s := Eq.trans rfl rfl
@[simp ↓] theorem strings_indexFunc_ic_run : run P Γ strings_indexFunc_ic Q s = run P Γ (.seq (.reg strings_indexFunc_r0 [.keep [0, 1, 2] []]) (.seq (.seq (.reg strings_indexFunc_r1 [.keep [1, 2, 10] [10]]) (.block 0 strings_indexFunc_l1)) (.seq (.reg strings_indexFunc_r6 [.keep [6] []]) .ret))) Q s := Eq.trans rfl rfl
theorem strings_indexFunc_l1_run (h : ∀ K : St → Prop, K = run P Γ strings_indexFunc_l1 Q → run P Γ strings_indexFunc_g0 (thenX K Q) s) : run P Γ strings_indexFunc_l1 Q s := run_loop h
attribute [simp] strings_indexFunc_r0 strings_indexFunc_r1 strings_indexFunc_r2 strings_indexFunc_r3 strings_indexFunc_r4 strings_indexFunc_r5 strings_indexFunc_r6
def strings_indexFunc_rv : List RV := [.tmp 6]

/- probecard/probecardlaw34.ScansBalance (function 3) -/
def law34_ScansBalance_r0 : List RO := [
    ⟨some 2, .box true (.tmp 0), none, none⟩,
    ⟨some 4, .mv (.const (.bool false)), none, none⟩]
def law34_ScansBalance_r1 : List RO := [
    ⟨some 13, .load 12 true (.tmp 2), none, none⟩,
    ⟨some 14, .call 12 [(.tmp 13)], none, none⟩,
    ⟨some 5, .alloc false [(.slice none 0 0), (.slice none 0 0), (.slice none 0 0), (.slice none 0 0)], none, none⟩,
    ⟨none, .store 4 (.tmp 5) (.tmp 14), none, none⟩]
def law34_ScansBalance_r2 : List RO := [
    ⟨some 16, .load 4 true (.tmp 5), none, none⟩,
    ⟨some 17, .mv (.tmp 1), none, none⟩,
    ⟨some 18, .call 13 [(.tmp 16), (.tmp 17)], none, none⟩,
    ⟨some 15, .mv (.tmp 18), none, none⟩,
    ⟨some 19, .ext (.tmp 15) 0, none, none⟩,
    ⟨some 20, .ext (.tmp 15) 1, none, none⟩,
    ⟨some 6, .mv (.tmp 19), none, none⟩,
    ⟨some 7, .mv (.tmp 20), none, none⟩]
def law34_ScansBalance_r3 : List RO := [
    ⟨some 21, .load 4 true (.tmp 5), none, none⟩,
    ⟨some 22, .call 14 [(.tmp 21)], none, none⟩,
    ⟨some 8, .mv (.tmp 22), none, none⟩]
def law34_ScansBalance_r4 : List RO := [
    ⟨some 23, .mv (.tmp 8), none, none⟩,
    ⟨some 24, .bin .eql (.tmp 23) (.const (.int .i64 0)), none, none⟩,
    ⟨some 25, .mv (.tmp 24), none, none⟩,
    ⟨some 26, .fadr 2 (.tmp 5), some (25, true), none⟩,
    ⟨some 27, .load 1 false (.tmp 26), some (25, true), none⟩,
    ⟨some 28, .len 0 (.tmp 27), some (25, true), none⟩,
    ⟨some 29, .bin .gtr (.tmp 28) (.const (.int .i64 0)), some (25, true), none⟩,
    ⟨some 30, .mv (.tmp 29), some (25, true), none⟩,
    ⟨some 31, .load 4 true (.tmp 5), some (30, false), none⟩,
    ⟨some 32, .bsl true 41 1 [(.const (.int .u8 15))], some (30, false), none⟩,
    ⟨some 33, .call 15 [(.tmp 31), (.tmp 32)], some (30, false), none⟩,
    ⟨some 34, .len 0 (.tmp 33), some (30, false), none⟩,
    ⟨some 35, .bin .gtr (.tmp 34) (.const (.int .i64 0)), some (30, false), none⟩,
    ⟨some 36, .pick (.tmp 30) (.const (.bool true)) (.tmp 35), some (25, true), none⟩,
    ⟨some 37, .pick (.tmp 25) (.tmp 36) (.const (.bool false)), none, none⟩]
def law34_ScansBalance_r5 : List RO := [
    ⟨some 8, .mv (.const (.int .i64 7)), none, none⟩]
def law34_ScansBalance_r6 : List RO := [
    ⟨some 38, .mv (.tmp 8), none, none⟩,
    ⟨some 39, .bin .eql (.tmp 38) (.const (.int .i64 0)), none, none⟩,
    ⟨some 40, .mv (.tmp 39), none, none⟩,
    ⟨some 41, .mv (.tmp 1), some (40, true), none⟩,
    ⟨some 42, .bin .lss (.tmp 41) (.const (.int .i64 1)), some (40, true), none⟩,
    ⟨some 43, .pick (.tmp 40) (.tmp 42) (.const (.bool false)), none, none⟩]
def law34_ScansBalance_r7 : List RO := [
    ⟨some 8, .mv (.const (.int .i64 1)), none, none⟩]
def law34_ScansBalance_r8 : List RO := [
    ⟨some 44, .mv (.tmp 8), none, none⟩,
    ⟨some 45, .bin .eql (.tmp 44) (.const (.int .i64 0)), none, none⟩,
    ⟨some 46, .mv (.tmp 45), none, none⟩,
    ⟨some 47, .mv (.tmp 1), some (46, true), none⟩,
    ⟨some 48, .bin .gtr (.tmp 47) (.const (.int .i64 64)), some (46, true), none⟩,
    ⟨some 49, .pick (.tmp 46) (.tmp 48) (.const (.bool false)), none, none⟩]
def law34_ScansBalance_r9 : List RO := [
    ⟨some 8, .mv (.const (.int .i64 3)), none, none⟩]
def law34_ScansBalance_r10 : List RO := [
    ⟨some 50, .mv (.tmp 7), none, none⟩,
    ⟨some 51, .mv (.tmp 8), none, none⟩,
    ⟨some 52, .bin .neq (.tmp 50) (.tmp 51), none, none⟩]
def law34_ScansBalance_r11 : List RO := [
    ⟨some 4, .mv (.const (.bool false)), none, none⟩]
def law34_ScansBalance_r12 : List RO := [
    ⟨some 53, .mv (.tmp 7), none, none⟩,
    ⟨some 54, .bin .neq (.tmp 53) (.const (.int .i64 0)), none, none⟩]
def law34_ScansBalance_r13 : List RO := [
    ⟨some 55, .mv (.tmp 6), none, none⟩,
    ⟨some 56, .len 0 (.tmp 55), none, none⟩,
    ⟨some 57, .bin .eql (.tmp 56) (.const (.int .i64 0)), none, none⟩,
    ⟨some 58, .mv (.tmp 57), none, none⟩,
    ⟨some 59, .call 16 [], some (58, true), none⟩,
    ⟨some 60, .pick (.tmp 58) (.tmp 59) (.const (.bool false)), none, none⟩,
    ⟨some 4, .mv (.tmp 60), none, none⟩]
def law34_ScansBalance_r14 : List RO := [
    ⟨some 61, .load 4 true (.tmp 5), none, none⟩,
    ⟨some 62, .call 17 [(.tmp 61)], none, none⟩,
    ⟨some 9, .mv (.tmp 62), none, none⟩]
def law34_ScansBalance_r15 : List RO := [
    ⟨some 63, .mv (.tmp 6), none, none⟩,
    ⟨some 64, .len 0 (.tmp 63), none, none⟩,
    ⟨some 65, .mv (.tmp 1), none, none⟩,
    ⟨some 66, .mv (.tmp 9), none, none⟩,
    ⟨some 67, .len 0 (.tmp 66), none, none⟩,
    ⟨some 68, .mmx false [(.tmp 65), (.tmp 67)], none, none⟩,
    ⟨some 69, .bin .neq (.tmp 64) (.tmp 68), none, none⟩,
    ⟨some 70, .mv (.tmp 69), none, none⟩,
    ⟨some 71, .load 4 true (.tmp 5), some (70, false), none⟩,
    ⟨some 72, .mv (.tmp 6), some (70, false), none⟩,
    ⟨some 73, .call 18 [(.tmp 71), (.tmp 72)], some (70, false), none⟩,
    ⟨some 74, .bin .neq (.tmp 73) (.const (.int .i64 0)), some (70, false), none⟩,
    ⟨some 75, .pick (.tmp 70) (.const (.bool true)) (.tmp 74), none, none⟩]
def law34_ScansBalance_r16 : List RO := [
    ⟨some 4, .mv (.const (.bool false)), none, none⟩]
def law34_ScansBalance_r17 : List RO := [
    ⟨some 10, .mv (.const (.int .i64 0)), none, none⟩]
def law34_ScansBalance_r18 : List RO := [
    ⟨some 11, .mv (.const (.int .i64 0)), none, none⟩]
def law34_ScansBalance_r19 : List RO := [
    ⟨some 76, .mv (.tmp 11), none, none⟩,
    ⟨some 77, .mv (.tmp 6), none, none⟩,
    ⟨some 78, .len 0 (.tmp 77), none, none⟩,
    ⟨some 79, .bin .lss (.tmp 76) (.tmp 78), none, none⟩]
def law34_ScansBalance_r21 : List RO := [
    ⟨some 82, .mv (.tmp 11), none, none⟩,
    ⟨some 83, .bin .gtr (.tmp 82) (.const (.int .i64 0)), none, none⟩,
    ⟨some 84, .mv (.tmp 83), none, none⟩,
    ⟨some 85, .mv (.tmp 6), some (84, true), none⟩,
    ⟨some 86, .mv (.tmp 11), some (84, true), none⟩,
    ⟨some 87, .iadr 1 (.tmp 85) (.tmp 86), some (84, true), none⟩,
    ⟨some 88, .load 1 false (.tmp 87), some (84, true), none⟩,
    ⟨some 89, .len 0 (.tmp 88), some (84, true), none⟩,
    ⟨some 90, .mv (.tmp 6), some (84, true), none⟩,
    ⟨some 91, .mv (.tmp 11), some (84, true), none⟩,
    ⟨some 92, .bin .sub (.tmp 91) (.const (.int .i64 1)), some (84, true), none⟩,
    ⟨some 93, .iadr 1 (.tmp 90) (.tmp 92), some (84, true), none⟩,
    ⟨some 94, .load 1 false (.tmp 93), some (84, true), none⟩,
    ⟨some 95, .len 0 (.tmp 94), some (84, true), none⟩,
    ⟨some 96, .bin .gtr (.tmp 89) (.tmp 95), some (84, true), none⟩,
    ⟨some 97, .mv (.tmp 96), some (84, true), none⟩,
    ⟨some 98, .mv (.tmp 6), some (97, false), none⟩,
    ⟨some 99, .mv (.tmp 11), some (97, false), none⟩,
    ⟨some 100, .iadr 1 (.tmp 98) (.tmp 99), some (97, false), none⟩,
    ⟨some 101, .load 1 false (.tmp 100), some (97, false), none⟩,
    ⟨some 102, .len 0 (.tmp 101), some (97, false), none⟩,
    ⟨some 103, .bin .add (.tmp 102) (.const (.int .i64 1)), some (97, false), none⟩,
    ⟨some 104, .mv (.tmp 6), some (97, false), none⟩,
    ⟨some 105, .iadr 1 (.tmp 104) (.const (.int .i64 0)), some (97, false), none⟩,
    ⟨some 106, .load 1 false (.tmp 105), some (97, false), none⟩,
    ⟨some 107, .len 0 (.tmp 106), some (97, false), none⟩,
    ⟨some 108, .bin .lss (.tmp 103) (.tmp 107), some (97, false), none⟩,
    ⟨some 109, .pick (.tmp 97) (.const (.bool true)) (.tmp 108), some (84, true), none⟩,
    ⟨some 110, .pick (.tmp 84) (.tmp 109) (.const (.bool false)), none, none⟩]
def law34_ScansBalance_r22 : List RO := [
    ⟨some 4, .mv (.const (.bool false)), none, none⟩]
def law34_ScansBalance_r23 : List RO := [
    ⟨some 12, .mv (.const (.int .i64 0)), none, none⟩]
def law34_ScansBalance_r24 : List RO := [
    ⟨some 111, .mv (.tmp 12), none, none⟩,
    ⟨some 112, .mv (.tmp 6), none, none⟩,
    ⟨some 113, .mv (.tmp 11), none, none⟩,
    ⟨some 114, .iadr 1 (.tmp 112) (.tmp 113), none, none⟩,
    ⟨some 115, .load 1 false (.tmp 114), none, none⟩,
    ⟨some 116, .len 0 (.tmp 115), none, none⟩,
    ⟨some 117, .bin .lss (.tmp 111) (.tmp 116), none, none⟩]
def law34_ScansBalance_r26 : List RO := [
    ⟨some 120, .mv (.tmp 10), none, none⟩,
    ⟨some 121, .mv (.tmp 9), none, none⟩,
    ⟨some 122, .len 0 (.tmp 121), none, none⟩,
    ⟨some 123, .bin .geq (.tmp 120) (.tmp 122), none, none⟩,
    ⟨some 124, .mv (.tmp 123), none, none⟩,
    ⟨some 125, .mv (.tmp 6), some (124, false), none⟩,
    ⟨some 126, .mv (.tmp 11), some (124, false), none⟩,
    ⟨some 127, .iadr 1 (.tmp 125) (.tmp 126), some (124, false), none⟩,
    ⟨some 128, .load 1 false (.tmp 127), some (124, false), none⟩,
    ⟨some 129, .mv (.tmp 12), some (124, false), none⟩,
    ⟨some 130, .iadr 1 (.tmp 128) (.tmp 129), some (124, false), none⟩,
    ⟨some 131, .load 1 false (.tmp 130), some (124, false), none⟩,
    ⟨some 132, .mv (.tmp 9), some (124, false), none⟩,
    ⟨some 133, .mv (.tmp 10), some (124, false), none⟩,
    ⟨some 134, .iadr 1 (.tmp 132) (.tmp 133), some (124, false), none⟩,
    ⟨some 135, .load 1 false (.tmp 134), some (124, false), none⟩,
    ⟨some 136, .bin .neq (.tmp 131) (.tmp 135), some (124, false), none⟩,
    ⟨some 137, .pick (.tmp 124) (.const (.bool true)) (.tmp 136), none, none⟩]
def law34_ScansBalance_r27 : List RO := [
    ⟨some 4, .mv (.const (.bool false)), none, none⟩]
def law34_ScansBalance_r28 : List RO := [
    ⟨some 138, .mv (.tmp 10), none, none⟩,
    ⟨some 139, .bin .add (.tmp 138) (.const (.int .i64 1)), none, none⟩,
    ⟨some 10, .mv (.tmp 139), none, none⟩]
def law34_ScansBalance_r25 : List RO := [
    ⟨some 118, .mv (.tmp 12), none, none⟩,
    ⟨some 119, .bin .add (.tmp 118) (.const (.int .i64 1)), none, none⟩,
    ⟨some 12, .mv (.tmp 119), none, none⟩]
def law34_ScansBalance_g0 : IC := .gh (.seq (.seq (.reg law34_ScansBalance_r24 [.keep [6, 9, 10, 11, 12, 117] []]) (.cond (.tmp 117) .skip (.exit 2))) (.seq (.block 3 (.seq (.seq (.reg law34_ScansBalance_r26 [.keep [6, 9, 10, 11, 12, 137] []]) (.cond (.tmp 137) (.seq (.reg law34_ScansBalance_r27 [.keep [4] []]) .ret) .skip)) (.reg law34_ScansBalance_r28 [.keep [6, 9, 10, 11, 12] []]))) (.reg law34_ScansBalance_r25 [.keep [6, 9, 10, 11, 12] []]))) [.keep [6, 9, 10, 11, 12] []]
def law34_ScansBalance_l1 : IC := .loop law34_ScansBalance_g0
def law34_ScansBalance_r20 : List RO := [
    ⟨some 80, .mv (.tmp 11), none, none⟩,
    ⟨some 81, .bin .add (.tmp 80) (.const (.int .i64 1)), none, none⟩,
    ⟨some 11, .mv (.tmp 81), none, none⟩]
def law34_ScansBalance_g2 : IC := .gh (.seq (.seq (.reg law34_ScansBalance_r19 [.keep [6, 9, 10, 11, 79] []]) (.cond (.tmp 79) .skip (.exit 0))) (.seq (.block 1 (.seq (.seq (.reg law34_ScansBalance_r21 [.keep [6, 9, 10, 11, 110] []]) (.cond (.tmp 110) (.seq (.reg law34_ScansBalance_r22 [.keep [4] []]) .ret) .skip)) (.seq (.reg law34_ScansBalance_r23 [.keep [6, 9, 10, 11, 12] []]) (.block 2 law34_ScansBalance_l1)))) (.reg law34_ScansBalance_r20 [.keep [6, 9, 10, 11] []]))) [.keep [6, 9, 10, 11] []]
def law34_ScansBalance_l3 : IC := .loop law34_ScansBalance_g2
def law34_ScansBalance_r29 : List RO := [
    ⟨some 140, .mv (.tmp 10), none, none⟩,
    ⟨some 141, .mv (.tmp 9), none, none⟩,
    ⟨some 142, .len 0 (.tmp 141), none, none⟩,
    ⟨some 143, .bin .eql (.tmp 140) (.tmp 142), none, none⟩,
    ⟨some 144, .mv (.tmp 143), none, none⟩,
    ⟨some 145, .call 16 [], some (144, true), none⟩,
    ⟨some 146, .pick (.tmp 144) (.tmp 145) (.const (.bool false)), none, none⟩,
    ⟨some 4, .mv (.tmp 146), none, none⟩]
def law34_ScansBalance_ic : IC := (.seq (.reg law34_ScansBalance_r0 [.keep [1, 2] []]) (.seq (.reg law34_ScansBalance_r1 [.keep [1, 5] [5]]) (.seq (.reg law34_ScansBalance_r2 [.keep [1, 5, 6, 7] [5]]) (.seq (.reg law34_ScansBalance_r3 [.keep [1, 5, 6, 7, 8] [5]]) (.seq (.seq (.reg law34_ScansBalance_r4 [.keep [1, 5, 6, 7, 8, 37] [5]]) (.cond (.tmp 37) (.reg law34_ScansBalance_r5 [.keep [1, 5, 6, 7, 8] [5]]) .skip)) (.seq (.seq (.reg law34_ScansBalance_r6 [.keep [1, 5, 6, 7, 8, 43] [5]]) (.cond (.tmp 43) (.reg law34_ScansBalance_r7 [.keep [1, 5, 6, 7, 8] [5]]) .skip)) (.seq (.seq (.reg law34_ScansBalance_r8 [.keep [1, 5, 6, 7, 8, 49] [5]]) (.cond (.tmp 49) (.reg law34_ScansBalance_r9 [.keep [1, 5, 6, 7, 8] [5]]) .skip)) (.seq (.seq (.reg law34_ScansBalance_r10 [.keep [1, 5, 6, 7, 52] [5]]) (.cond (.tmp 52) (.seq (.reg law34_ScansBalance_r11 [.keep [4] []]) .ret) .skip)) (.seq (.seq (.reg law34_ScansBalance_r12 [.keep [1, 5, 6, 54] [5]]) (.cond (.tmp 54) (.seq (.reg law34_ScansBalance_r13 [.keep [4] []]) .ret) .skip)) (.seq (.reg law34_ScansBalance_r14 [.keep [1, 5, 6, 9] [5]]) (.seq (.seq (.reg law34_ScansBalance_r15 [.keep [6, 9, 75] []]) (.cond (.tmp 75) (.seq (.reg law34_ScansBalance_r16 [.keep [4] []]) .ret) .skip)) (.seq (.reg law34_ScansBalance_r17 [.keep [6, 9, 10] []]) (.seq (.seq (.reg law34_ScansBalance_r18 [.keep [6, 9, 10, 11] []]) (.block 0 law34_ScansBalance_l3)) (.seq (.reg law34_ScansBalance_r29 [.keep [4] []]) .ret))))))))))))))
@[simp ↓] theorem law34_ScansBalance_g0_run : run P Γ law34_ScansBalance_g0 Q s = run P Γ (.gh (.seq (.seq (.reg law34_ScansBalance_r24 [.keep [6, 9, 10, 11, 12, 117] []]) (.cond (.tmp 117) .skip (.exit 2))) (.seq (.block 3 (.seq (.seq (.reg law34_ScansBalance_r26 [.keep [6, 9, 10, 11, 12, 137] []]) (.cond (.tmp 137) (.seq (.reg law34_ScansBalance_r27 [.keep [4] []]) .ret) .skip)) (.reg law34_ScansBalance_r28 [.keep [6, 9, 10, 11, 12] []]))) (.reg law34_ScansBalance_r25 [.keep [6, 9, 10, 11, 12] []]))) [.keep [6, 9, 10, 11, 12] []]) Q s := Eq.trans rfl rfl
@[simp ↓] theorem law34_ScansBalance_g2_run : run P Γ law34_ScansBalance_g2 Q s = run P Γ (.gh (.seq (.seq (.reg law34_ScansBalance_r19 [.keep [6, 9, 10, 11, 79] []]) (.cond (.tmp 79) .skip (.exit 0))) (.seq (.block 1 (.seq (.seq (.reg law34_ScansBalance_r21 [.keep [6, 9, 10, 11, 110] []]) (.cond (.tmp 110) (.seq (.reg law34_ScansBalance_r22 [.keep [4] []]) .ret) .skip)) (.seq (.reg law34_ScansBalance_r23 [.keep [6, 9, 10, 11, 12] []]) (.block 2 law34_ScansBalance_l1)))) (.reg law34_ScansBalance_r20 [.keep [6, 9, 10, 11] []]))) [.keep [6, 9, 10, 11] []]) Q s := Eq.trans rfl rfl
@[simp ↓] theorem law34_ScansBalance_ic_run : run P Γ law34_ScansBalance_ic Q s = run P Γ (.seq (.reg law34_ScansBalance_r0 [.keep [1, 2] []]) (.seq (.reg law34_ScansBalance_r1 [.keep [1, 5] [5]]) (.seq (.reg law34_ScansBalance_r2 [.keep [1, 5, 6, 7] [5]]) (.seq (.reg law34_ScansBalance_r3 [.keep [1, 5, 6, 7, 8] [5]]) (.seq (.seq (.reg law34_ScansBalance_r4 [.keep [1, 5, 6, 7, 8, 37] [5]]) (.cond (.tmp 37) (.reg law34_ScansBalance_r5 [.keep [1, 5, 6, 7, 8] [5]]) .skip)) (.seq (.seq (.reg law34_ScansBalance_r6 [.keep [1, 5, 6, 7, 8, 43] [5]]) (.cond (.tmp 43) (.reg law34_ScansBalance_r7 [.keep [1, 5, 6, 7, 8] [5]]) .skip)) (.seq (.seq (.reg law34_ScansBalance_r8 [.keep [1, 5, 6, 7, 8, 49] [5]]) (.cond (.tmp 49) (.reg law34_ScansBalance_r9 [.keep [1, 5, 6, 7, 8] [5]]) .skip)) (.seq (.seq (.reg law34_ScansBalance_r10 [.keep [1, 5, 6, 7, 52] [5]]) (.cond (.tmp 52) (.seq (.reg law34_ScansBalance_r11 [.keep [4] []]) .ret) .skip)) (.seq (.seq (.reg law34_ScansBalance_r12 [.keep [1, 5, 6, 54] [5]]) (.cond (.tmp 54) (.seq (.reg law34_ScansBalance_r13 [.keep [4] []]) .ret) .skip)) (.seq (.reg law34_ScansBalance_r14 [.keep [1, 5, 6, 9] [5]]) (.seq (.seq (.reg law34_ScansBalance_r15 [.keep [6, 9, 75] []]) (.cond (.tmp 75) (.seq (.reg law34_ScansBalance_r16 [.keep [4] []]) .ret) .skip)) (.seq (.reg law34_ScansBalance_r17 [.keep [6, 9, 10] []]) (.seq (.seq (.reg law34_ScansBalance_r18 [.keep [6, 9, 10, 11] []]) (.block 0 law34_ScansBalance_l3)) (.seq (.reg law34_ScansBalance_r29 [.keep [4] []]) .ret)))))))))))))) Q s := Eq.trans rfl rfl
theorem law34_ScansBalance_l1_run (h : ∀ K : St → Prop, K = run P Γ law34_ScansBalance_l1 Q → run P Γ law34_ScansBalance_g0 (thenX K Q) s) : run P Γ law34_ScansBalance_l1 Q s := run_loop h
theorem law34_ScansBalance_l3_run (h : ∀ K : St → Prop, K = run P Γ law34_ScansBalance_l3 Q → run P Γ law34_ScansBalance_g2 (thenX K Q) s) : run P Γ law34_ScansBalance_l3 Q s := run_loop h
attribute [simp] law34_ScansBalance_r0 law34_ScansBalance_r1 law34_ScansBalance_r2 law34_ScansBalance_r3 law34_ScansBalance_r4 law34_ScansBalance_r5 law34_ScansBalance_r6 law34_ScansBalance_r7 law34_ScansBalance_r8 law34_ScansBalance_r9 law34_ScansBalance_r10 law34_ScansBalance_r11 law34_ScansBalance_r12 law34_ScansBalance_r13 law34_ScansBalance_r14 law34_ScansBalance_r15 law34_ScansBalance_r16 law34_ScansBalance_r17 law34_ScansBalance_r18 law34_ScansBalance_r19 law34_ScansBalance_r21 law34_ScansBalance_r22 law34_ScansBalance_r23 law34_ScansBalance_r24 law34_ScansBalance_r26 law34_ScansBalance_r27 law34_ScansBalance_r28 law34_ScansBalance_r25 law34_ScansBalance_r20 law34_ScansBalance_r29
def law34_ScansBalance_rv : List RV := [.tmp 4]
end
end Go.Lg

