/- Plain data as trees, and how calls are taken. Conditions: none. -/
import Derived.Test.YtjcogpofldkniaaGreatDoorPkC
import Derived.Test.YtjcogpofldkniaaGreatDoorProg
import Derived.KernelRfl
import Derived.Lib.Bytealg
import Derived.Test.YtjcogpofldkniaaGreatDoorRows
import Derived.Test.YtjcogpofldkniaaGreatDoorCards
import Derived.Test.YtjcogpofldkniaaGreatDoorTie
import Derived.ProofKit
import Derived.Deep.DeepHandedRow
import Derived.SevenTiedAt
set_option linter.unusedSimpArgs false
set_option linter.unusedVariables false
namespace Go.Lg
open Go
attribute [simp] C6 D2 T.one AV.one Value.oneCell' Dl Fh Fg As Ht ret qGf
@[simp] theorem qJj (a b : Int) : (a == b) = decide (a = b) := rfl
@[simp] theorem qOT (a b : Int) : (a != b) = !decide (a = b) := rfl
@[simp] theorem qOU (s : List UInt8) : (ByteArray.mk s.toArray).size = s.length := by simp [ByteArray.size]
def Ab {α : Type} (f : α → T) (l : List α) : List (List T) := l.map fun n => [f n]
theorem A0 {α : Type} {f : α → T} {l : List α} : (Ab f l).length = l.length := by simp [Ab]
theorem Bv {α : Type} {f : α → T} {l : List α} {i : Nat} (d : α) (h : i < l.length) : (Ab f l)[i]?.getD [] = [f (l[i]?.getD d)] := by simp [Ab, h]
theorem A6 {α : Type} {f : α → T} {l : List α} : Ce 1 (Ab f l) := by
 intro e he; obtain ⟨x, _, rfl⟩ := List.mem_map.1 he; rfl
theorem q6T {α : Type} {f : α → T} {l m : List α} : Ab f l ++ Ab f m = Ab f (l ++ m) := by simp [Ab]
theorem J2 {α : Type} {f : α → T} {l : List α} {n : Nat} {x : α} : (Ab f l).set n [f x] = Ab f (l.set n x) := by simp [Ab, List.map_set]
theorem D4 {α : Type} {f : α → T} : Ab f [] = [] := rfl
@[simp] theorem qJk {s : Nat} : Ce s [] := fun e h => by cases h
def An {α : Type} (f : α → List T) (l : List α) : List (List T) := l.map f
theorem A9 {α : Type} {f : α → List T} {l : List α} : (An f l).length = l.length := by simp [An]
theorem E3 {α : Type} {f : α → List T} {l : List α} {i : Nat} (d : α) (h : i < l.length) : (An f l)[i]?.getD [] = f (l[i]?.getD d) := by simp [An, h]
theorem Xn {α : Type} {f : α → List T} {l : List α} {s : Nat} (h : ∀ x, (f x).length = s) : Ce s (An f l) := by
 intro e he; obtain ⟨x, _, rfl⟩ := List.mem_map.1 he; exact h x
theorem q0x {α : Type} {f : α → List T} {l m : List α} : An f l ++ An f m = An f (l ++ m) := by simp [An]
@[simp] theorem Ag {α : Type} {f : α → T} {l : List α} : (Ab f l).take l.length = Ab f l := by rw [List.take_of_length_le (by simp [Ab])]
theorem Bf {α : Type} {f : α → T} {l : List α} {x : α} : Ab f l ++ [[f x]] = Ab f (l ++ [x]) := by simp [Ab]
@[simp] theorem qAm {α : Type} {f : α → List T} {l : List α} : (An f l).take l.length = An f l := by rw [List.take_of_length_le (by simp [An])]
theorem q0y {α : Type} {f : α → List T} {l : List α} {x : α} : An f l ++ [f x] = An f (l ++ [x]) := by simp [An]
structure Sl (α : Type) where
 l : List α
 cap : Option Nat
 nl : Option Bool
abbrev tI (n : Int) : T := .v (.int .i64 n)
abbrev tK (n : Int) : T := .v (.int .u8 n)
abbrev tB (b : Bool) : T := .v (.bool b)
abbrev Av (l : List Int) : List (List T) := Ab tI l
def B1 (s : Sl Int) : T := .sl (Av s.l) s.cap s.nl
@[simp] theorem qLo {cs : List AV} : Tt (.bx cs) = ∀ c ∈ cs, Fg c := rfl
@[simp] theorem qLp {s : ByteArray} {p : Nat} : Tt (.it s p) = True := rfl
@[simp] theorem qKg {ty s : Nat} : Tt (.sl ty s []) = True := by simp [Tt]
theorem q1p {α : Type} {f : α → T} {l : List α} {ty s : Nat} (h : ∀ x, As (f x) = true) : Tt (.sl ty s (Ab f l)) := by
 intro e he t ht
 obtain ⟨x, _, rfl⟩ := List.mem_map.1 he
 simp only [List.mem_singleton] at ht; subst ht; exact h x
@[simp] theorem qMy {l : List Int} {ty s : Nat} : Tt (.sl ty s (Ab tI l)) = True := eq_true (q1p fun _ => rfl)
@[simp] theorem qMz {l : List Int} {ty s : Nat} : Tt (.sl ty s (Ab tK l)) = True := eq_true (q1p fun _ => rfl)
@[simp] theorem qN0 {l : List Bool} {ty s : Nat} : Tt (.sl ty s (Ab tB l)) = True := eq_true (q1p fun _ => rfl)
section
variable {P : Program} {Γ : Tables} {hp : List (Nat × B7)} {f : FuncId} {avs : List AV} {K : T → Prop} {ts : List T} {res : T}
theorem Aa (h : Ac P Γ f ts res) (ht : Af (avs.map toT) = some ts) (hk : K res) : q4b P Γ hp f avs K ⟨⟩ := ⟨res, .inl ⟨ts, ht, h⟩, hk⟩
theorem A1 (h : A3 P Γ f ts res) (ht : Af (avs.map (Ah hp 4)) = some ts) (hk : K res) : q4b P Γ hp f avs K ⟨⟩ := ⟨res, .inr ⟨ts, ht, h⟩, hk⟩
theorem Ar {ic : IC} {N n : Nat} {rvs : List RV} {args : List T} (hc : Ap P f ic N n rvs = true) (hn : args.length = n) (h : run P Γ ic (ret false rvs fun r => r = res) ⟨params 0 args, []⟩) : Ac P Γ f args res := by
 obtain ⟨r, h1, rfl⟩ := run_pure hc hn h; exact h1
theorem A7 {ic : IC} {N n : Nat} {rvs : List RV} {args : List T} (hc : Ap P f ic N n rvs = true) (hn : args.length = n) (h : run P Γ ic (ret true rvs fun r => r = res) ⟨params 0 args, []⟩) : A3 P Γ f args res := by
 obtain ⟨r, h1, rfl⟩ := qBI hc hn h; exact h1
theorem Gu {ic : IC} {N n : Nat} {rvs : List RV} {args : List AV} {r0 : AV} {hp' : List (Nat × B7)} (hc : Ap P f ic N n rvs = true) (hn : args.length = n) (h : run P Γ ic (qGf rvs fun r h => r = r0 ∧ h = hp') ⟨qC9 0 args, hp⟩) : Eu P Γ f hp args r0 hp' := by
 obtain ⟨r, h', h1, rfl, rfl⟩ := qHw hc hn h; exact h1
end
end Go.Lg
namespace Go.Lg
open Go
section
variable {P : Program} {Γ : Tables} {Q : AX → St → Prop} {s : St}
/- probecard/netlists.Check (function 20) -/
abbrev Zd : IC := (.seq (.reg [od 1 (.box true (tm 0)), od 2 (.mv (ki 0))] [kp [1] []]) (.seq (.reg [od 6 (lG 4 1), od 7 (.call 67 [(tm 6)]), om 5 7, od 8 (ex 5 0), od 9 (ex 5 1), om 3 8, om 4 9] [kp [4] []]) (.seq (.reg [om 10 4, om 2 10] [kp [2]
 []]) .ret)))
def Ze : List RV := [.tmp 2]
/- probecard/netlists.Of (function 66) -/
abbrev q32 : IC := .gh (.seq (.reg [od 12 (.bin .lss (tm 11) (tm 10))] [kp [1, 5, 9, 10, 11, 12] [23]]) (.seq (.cond (tm 12) .skip (.exit 0)) (.seq (.block 1 (.seq (.reg [om 13 11, od 14 (ia 4 9 11), od 15 (lG 4 14), od 7 (.alloc false [(.int .u8 0),
 (.slice none 0 0), (.int .i64 0), (.int .i64 0)]), om 6 13, on (.store 4 (tm 7) (tm 15))] [kp [1, 5, 6, 7, 9, 10, 11] [7, 23]]) (.seq (.reg [om 16 1, od 17 (fa 0 7), od 18 (ld 1 17), od 19 (.call 111 [(tm 16), (tm 18)])] [kp [1, 5,
 6, 9, 10, 11, 19] [23]]) (.cond (tm 19) (.reg [om 20 5, om 21 6, od 22 (.bsl true 3 1 [(tm 21)]), od 23 (.app false 3 1 (tm 20) (tm 22)), om 5 23] [kp [1, 5, 9, 10, 11] [23]]) .skip)))) (.reg [od 24 (.bin .add (tm 11) (ki 1)), om
 11 24] [kp [1, 5, 9, 10, 11] [23]])))) [kp [1, 5, 9, 10, 11] [23]]
def Px : IC := .loop q32
abbrev q33 : IC := (.seq (.reg [od 2 (.box true (tm 0)), od 4 (.mv kN)] [kp [1, 2] []]) (.seq (.reg [od 5 (.mv kN)] [.nl 5 23 3 1, kp [1, 2, 5] [23]]) (.seq (.seq (.reg [od 8 (fa 0 2), od 9 (ld 1 8), od 10 (le 0 9), od 11 (.mv (ki 0))] [kp [1, 5, 9,
 10, 11] [23]]) (.block 0 Px)) (.seq (.reg [om 25 5, od 26 (.hcall 62 [(tm 25)] [23] 26000), om 4 26] [kp [4] [23]]) .ret))))
theorem Xo (h : ∀ K : St → Prop, K = run P Γ Px Q → run P Γ q32 (Am K Q) s) : run P Γ Px Q s := Ae h
def q34 : List RV := [.tmp 4]
/- probecard/netlists.States (function 19) -/
abbrev Xp : IC := (.seq (.reg [od 1 (.box true (tm 0)), od 2 (.mv kN)] [kp [1] []]) (.seq (.reg [od 3 (lG 4 1), od 4 (.bsl true 71 1 [(ku 14)]), od 5 (.call 66 [(tm 3), (tm 4)]), om 2 5] [kp [2] []]) .ret))
def Xq : List RV := [.tmp 2]
/- probecard/netlists.Comb (function 39) -/
abbrev q0z : IC := (.seq (.reg [od 2 (.mv kF)] [kp [0] []]) (.seq (.reg [om 3 0, od 4 (.bin .geq (tm 3) (ku 1)), om 5 4, oT 6 (.mv (tm 0)) 5, oT 7 (.bin .leq (tm 6) (ku 13)) 5, od 8 (.pick (tm 5) (tm 7) kF), om 2 8] [kp [2] []]) .ret))
def q10 : List RV := [.tmp 2]
/- slices.Clip[[]int,int] (function 62) -/
abbrev Oa : IC := (.seq (.reg [od 2 (.mv kN)] [kp [0] [1000000]]) (.seq (.reg [om 3 0, om 4 0, od 5 (le 0 4), om 6 0, od 7 (le 0 6), od 8 (.slice 1 (tm 3) none (some (tm 5)) (some (tm 7))), om 2 8] [kp [2] [1000000]]) .ret))
def Ob : List RV := [.tmp 2]
/- probecard/netlists.Levels (function 67) -/
def F6 : List RO := [om 45 6, om 46 8, od 47 (ia 1 45 46), od 48 (ld 1 47), od 49 (.bin .eql (tm 48) (ki 0))]
def N3 : List RO := [om 50 7, om 51 8, od 52 (.bsl true 3 1 [(tm 51)]), od 53 (.app false 3 1 (tm 50) (tm 52)), om 7 53]
def N5 : List RO := [od 54 (.bin .add (tm 31) (ki 1)), om 31 54]
abbrev Xr : IC := .gh (.seq (.reg [od 32 (.bin .lss (tm 31) (tm 30))] [kp [1, 5, 6, 7, 29, 30, 31, 32] [23, 27, 53]]) (.seq (.cond (tm 32) .skip (.exit 0)) (.seq (.block 1 (.seq (.reg [om 33 31, od 34 (ia 4 29 31), od 35 (lG 4 34), od 9 (.alloc
 false [(.int .u8 0), (.slice none 0 0), (.int .i64 0), (.int .i64 0)]), om 8 33, on (.store 4 (tm 9) (tm 35))] [kp [1, 5, 6, 7, 8, 9, 29, 30, 31] [9, 23, 27, 53]]) (.seq (.seq (.reg [od 36 (fa 0 9), od 37 (ld 1 36), od 38 (.call 39
 [(tm 37)])] [kp [1, 5, 6, 7, 8, 9, 29, 30, 31, 38] [9, 23, 27, 53]]) (.cond (tm 38) (.reg [om 39 6, om 40 8, od 41 (fa 1 9), od 42 (ld 1 41), od 43 (le 0 42), od 44 (ia 1 39 40), on (.store 1 (tm 44) (tm 43))] [kp [1, 5, 6, 7, 8,
 29, 30, 31] [23, 27, 53]]) .skip)) (.seq (.reg F6 [kp [1, 5, 6, 7, 8, 29, 30, 31, 49] [23, 27, 53]]) (.cond (tm 49) (.reg N3 [kp [1, 5, 6, 7, 29, 30, 31] [23, 27, 53]]) .skip))))) (.reg
 N5 [kp [1, 5, 6, 7, 29, 30, 31] [23, 27, 53]])))) [kp [1, 5, 6, 7, 29, 30, 31] [23, 27, 53]]
def Im : IC := .loop Xr
abbrev Xs : IC := .gh (.seq (.reg [od 79 (.bin .lss (tm 78) (tm 77))] [kp [1, 5, 6, 7, 10, 11, 12, 76, 77, 78, 79] [23, 27, 53]]) (.seq (.cond (tm 79) .skip (.exit 4)) (.seq (.block 5 (.seq (.reg [od 80 (ia 2 76 78), od 81 (lG 2 80), od 14 (.alloc
 false [(.int .i64 0), (.int .i64 0)]), on (.store 2 (tm 14) (tm 81))] [kp [1, 5, 6, 7, 10, 11, 12, 14, 76, 77, 78] [14, 23, 27, 53]]) (.seq (.seq (.reg [od 82 (fa 0 1), od 83 (ld 1 82), od 84 (fa 0 14), od 85 (ld 1 84), od 86 (ia 4
 83 85), od 87 (fa 0 86), od 88 (ld 1 87), od 89 (.call 39 [(tm 88)]), od 90 (.un .not (tm 89))] [kp [1, 5, 6, 7, 10, 11, 12, 14, 76, 77, 78, 90] [14, 23, 27, 53]]) (.cond (tm 90) (.exit 5) .skip)) (.seq (.reg [om 91 5, od 92 (fa 0
 14), od 93 (.ldR 14 1 false (tm 92)), om 94 5, od 95 (fa 0 14), od 96 (.ldR 14 1 false (tm 95)), od 97 (ia 1 94 96), od 98 (.ldR 23 1 false (tm 97)), om 99 5, om 100 12, od 101 (ia 1 99 100), od 102 (.ldR 23 1 false (tm 101)), od
 103 (.bin .add (tm 102) (ki 1)), od 104 (.mmx true [(tm 98), (tm 103)]), od 105 (ia 1 91 93), on (.stR 23 1 (tm 105) (tm 104))] [kp [1, 5, 6, 7, 10, 11, 12, 14, 76, 77, 78] [14, 23, 27, 53]]) (.seq (.reg [om 106 6, od 107 (fa 0
 14), od 108 (ld 1 107), od 109 (ia 1 106 108), od 110 (ld 1 109), od 111 (.bin .sub (tm 110) (ki 1)), od 112 (ia 1 106 108), on (.store 1 (tm 112) (tm 111))] [kp [1, 5, 6, 7, 10, 11, 12, 14, 76, 77, 78] [14, 23, 27, 53]]) (.seq
 (.reg [om 113 6, od 114 (fa 0 14), od 115 (ld 1 114), od 116 (ia 1 113 115), od 117 (ld 1 116), od 118 (.bin .eql (tm 117) (ki 0))] [kp [1, 5, 6, 7, 10, 11, 12, 14, 76, 77, 78, 118] [14, 23, 27, 53]]) (.cond (tm 118) (.reg [om 119
 7, od 120 (fa 0 14), od 121 (ld 1 120), od 122 (.bsl true 3 1 [(tm 121)]), oz 123 (.app false 3 1 (tm 119) (tm 122)) 53, om 7 123] [kp [1, 5, 6, 7, 10, 11, 12, 76, 77, 78] [23, 27, 53]]) .skip))))))) (.reg [od 124 (.bin .add (tm
 78) (ki 1)), om 78 124] [kp [1, 5, 6, 7, 10, 11, 12, 76, 77, 78] [23, 27, 53]])))) [kp [1, 5, 6, 7, 10, 11, 12, 76, 77, 78] [23, 27, 53]]
def Ip : IC := .loop Xs
abbrev Xt : IC := .gh (.seq (.seq (.reg [om 57 11, om 58 7, od 59 (le 0 58), od 60 (.bin .lss (tm 57) (tm 59))] [kp [1, 5, 6, 7, 10, 11, 60] [23, 27, 53]]) (.cond (tm 60) .skip (.exit 2))) (.block 3 (.seq (.reg [om 61 7, om 62 11, od 63 (ia 1 61
 62), od 64 (ld 1 63), om 12 64] [kp [1, 5, 6, 7, 10, 11, 12] [23, 27, 53]]) (.seq (.reg [om 65 11, od 66 (.bin .add (tm 65) (ki 1)), om 11 66] [kp [1, 5, 6, 7, 10, 11, 12] [23, 27, 53]]) (.seq (.seq (.reg [om 67 10, om 68 12, od 69
 (ia 1 67 68), od 70 (ld 1 69), od 71 (le 0 70), od 72 (.bin .eql (tm 71) (ki 0))] [kp [1, 5, 6, 7, 10, 11, 12, 72] [23, 27, 53]]) (.cond (tm 72) (.exit 3) .skip)) (.seq (.reg [om 73 10, om 74 12, od 75 (ia 1 73 74), od 76 (ld 1
 75), od 77 (le 0 76), od 78 (.mv (ki 0))] [kp [1, 5, 6, 7, 10, 11, 12, 76, 77, 78] [23, 27, 53]]) (.block 4 Ip))))))) [kp [1, 5, 6, 7, 10, 11] [23, 27, 53]]
def Iq : IC := .loop Xt
abbrev Xu : IC := (.seq (.reg [od 1 (.box true (tm 0)), od 2 (.mv kN), od 3 (.mv (ki 0))] [kp [1] []]) (.scope (.seq (.seq (.reg [od 15 (lG 4 1), od 16 (.call 112 [(tm 15)]), om 4 16] [kp [1, 4] []]) (.seq (.reg [om 17 4, od 18 (.bin .neq (tm 17)
 (ki 0))] [kp [1, 4, 18] []]) (.cond (tm 18) (.seq (.reg [om 19 4, od 2 (.mv kN), om 3 19] [kp [2, 3] [23]]) .ret) .skip))) (.seq (.reg [od 20 (fa 0 1), od 21 (ld 1 20), od 22 (le 0 21), od 23 (.mk 3 1 [(.int .i64 0)] (tm 22) (tm
 22)), om 5 23] [kp [1, 5] [23]]) (.seq (.reg [od 24 (fa 0 1), od 25 (ld 1 24), od 26 (le 0 25), od 27 (.mk 3 1 [(.int .i64 0)] (tm 26) (tm 26)), om 6 27] [kp [1, 5, 6] [23, 27]]) (.seq (.reg [od 7 (.mv kN)] [.nl 7 53 3 1, kp [1, 5,
 6, 7] [23, 27, 53]]) (.seq (.seq (.reg [od 28 (fa 0 1), od 29 (ld 1 28), od 30 (le 0 29), od 31 (.mv (ki 0))] [kp [1, 5, 6, 7, 29, 30, 31] [23, 27, 53]]) (.block 0 Im)) (.seq (.reg [od 55 (lG 4 1), od 56 (.call 113
 [(tm 55)]), om 10 56] [kp [1, 5, 6, 7, 10] [23, 27, 53]]) (.seq (.reg [od 11 (.mv (ki 0))] [kp [1, 5, 6, 7, 10, 11] [23, 27, 53]]) (.seq .skip (.seq (.block 2 Iq) (.seq (.seq (.reg [om 125 11, od 126 (fa 0 1), od
 127 (ld 1 126), od 128 (le 0 127), od 129 (.bin .lss (tm 125) (tm 128))] [kp [5, 129] [23]]) (.cond (tm 129) (.seq (.reg [od 2 (.mv kN), od 3 (.mv (ki 6))] [kp [2, 3] [23]]) .ret) .skip)) (.seq (.reg [om 130 5, om 2 130, od 3 (.mv
 (ki 0))] [kp [2, 3] [23]]) .ret)))))))))))))
theorem Py (h : ∀ K : St → Prop, K = run P Γ Im Q → run P Γ Xr (Am K Q) s) : run P Γ Im Q s := Ae h
theorem Pz (h : ∀ K : St → Prop, K = run P Γ Ip Q → run P Γ Xs (Am K Q) s) : run P Γ Ip Q s := Ae h
theorem Q0 (h : ∀ K : St → Prop, K = run P Γ Iq Q → run P Γ Xt (Am K Q) s) : run P Γ Iq Q s := Ae h
attribute [simp] F6 N3 N5
def Ir : List RV := [.tmp 2, .tmp 3]
/- slices.Contains[[]probecard/api.Kind,probecard/api.Kind] (function 111) -/
abbrev Jf : IC := (.seq (.reg [od 4 (.mv kF)] [kp [0, 1] []]) (.seq (.reg [om 5 0, om 6 1, od 7 (.call 133 [(tm 5), (tm 6)]), od 8 (.bin .geq (tm 7) (ki 0)), om 4 8] [kp [4] []]) .ret))
def Jg : List RV := [.tmp 4]
/- probecard/netlists.shape (function 112) -/
abbrev Zf : IC := .gh (.seq (.reg [od 39 (.bin .lss (tm 38) (tm 37))] [kp [1, 36, 37, 38, 39] []]) (.seq (.cond (tm 39) .skip (.exit 1)) (.seq (.block 2 (.seq (.reg [od 40 (ia 4 36 38), od 41 (lG 4 40), od 4 (.alloc false [(.int .u8 0), (.slice none
 0 0), (.int .i64 0), (.int .i64 0)]), on (.store 4 (tm 4) (tm 41))] [kp [1, 4, 36, 37, 38] [4]]) (.seq (.reg [od 42 (lG 4 1), od 43 (lG 4 4), od 44 (.call 134 [(tm 42), (tm 43)]), om 5 44] [kp [1, 5, 36, 37, 38] []]) (.seq (.reg
 [om 45 5, od 46 (.bin .neq (tm 45) (ki 0))] [kp [1, 5, 36, 37, 38, 46] []]) (.cond (tm 46) (.seq (.reg [om 47 5, om 2 47] [kp [2] []]) .ret) .skip))))) (.reg [od 48 (.bin .add (tm 38) (ki 1)), om 38 48] [kp [1, 36, 37, 38] []]))))
 [kp [1, 36, 37, 38] []]
def Jh : IC := .loop Zf
abbrev Zg : IC := .gh (.seq (.reg [od 58 (.bin .lss (tm 57) (tm 56))] [kp [1, 55, 56, 57, 58] []]) (.seq (.cond (tm 58) .skip (.exit 3)) (.seq (.block 4 (.seq (.reg [od 59 (ia 3 55 57), od 60 (lG 3 59), od 8 (.alloc false [(.slice none 0 0), (.slice
 none 0 0), (.int .i64 0)]), on (.store 3 (tm 8) (tm 60))] [kp [1, 8, 55, 56, 57] [8]]) (.seq (.reg [od 61 (lG 4 1), od 62 (lG 3 8), od 63 (.call 136 [(tm 61), (tm 62)]), om 9 63] [kp [1, 9, 55, 56, 57] []]) (.seq (.reg [om 64 9, od
 65 (.bin .neq (tm 64) (ki 0))] [kp [1, 9, 55, 56, 57, 65] []]) (.cond (tm 65) (.seq (.reg [om 66 9, om 2 66] [kp [2] []]) .ret) .skip))))) (.reg [od 67 (.bin .add (tm 57) (ki 1)), om 57 67] [kp [1, 55, 56, 57] []])))) [kp [1, 55,
 56, 57] []]
def Ji : IC := .loop Zg
abbrev Ep : IC := (.seq (.reg [od 1 (.box true (tm 0)), od 2 (.mv (ki 0))] [kp [1] []]) (.seq (.block 0 (.seq (.reg [od 11 (fa 0 1), od 12 (ld 1 11), od 13 (le 0 12), od 14 (.bin .gtr (tm 13) (ki 16384)), om 15 14, oF 16 (fa 2 1) 15, oF 17 (ld 1 16)
 15, oF 18 (le 0 17) 15, oF 19 (.bin .gtr (tm 18) (ki 16)) 15, od 20 (.pick (tm 15) kT (tm 19)), om 21 20, oF 22 (fa 3 1) 21, oF 23 (ld 1 22) 21, oF 24 (le 0 23) 21, oF 25 (.bin .gtr (tm 24) (ki 16384)) 21, od 26 (.pick (tm 21) kT
 (tm 25)), om 10 26] [kp [1, 10] []]) (.cond (tm 10) (.seq (.reg [od 2 (.mv (ki 3))] [kp [2] []]) .ret) (.seq (.reg [od 28 (fa 1 1), od 29 (ld 1 28), od 30 (le 0 29), od 31 (fa 0 1), od 32 (ld 1 31), od 33 (le 0 32), od 34 (.bin
 .neq (tm 30) (tm 33)), om 27 34] [kp [1, 27] []]) (.cond (tm 27) (.seq (.reg [od 2 (.mv (ki 8))] [kp [2] []]) .ret) .skip))))) (.seq (.seq (.reg [od 35 (fa 0 1), od 36 (ld 1 35), od 37 (le 0 36), od 38 (.mv (ki 0))] [kp [1, 36, 37,
 38] []]) (.block 1 Jh)) (.seq (.seq (.reg [od 49 (lG 4 1), od 50 (.call 135 [(tm 49)]), om 6 50] [kp [1, 6] []]) (.seq (.reg [om 51 6, od 52 (.bin .neq (tm 51) (ki 0))] [kp [1, 6, 52] []]) (.cond (tm 52) (.seq (.reg
 [om 53 6, om 2 53] [kp [2] []]) .ret) .skip))) (.seq (.seq (.reg [od 54 (fa 2 1), od 55 (ld 1 54), od 56 (le 0 55), od 57 (.mv (ki 0))] [kp [1, 55, 56, 57] []]) (.block 3 Ji)) (.seq (.seq (.reg [od 68 (fa 3 1), od 69
 (ld 1 68), od 70 (lG 4 1), od 71 (.call 138 [(tm 70)]), od 72 (.call 137 [(tm 69), (tm 71)])] [kp [72] []]) (.cond (tm 72) (.seq (.reg [od 2 (.mv (ki 1))] [kp [2] []]) .ret) .skip)) (.seq (.reg [od 2 (.mv (ki 0))] [kp [2] []])
 .ret)))))))
theorem Rb (h : ∀ K : St → Prop, K = run P Γ Jh Q → run P Γ Zf (Am K Q) s) : run P Γ Jh Q s := Ae h
theorem Re (h : ∀ K : St → Prop, K = run P Γ Ji Q → run P Γ Zg (Am K Q) s) : run P Γ Ji Q s := Ae h
def Cc : List RV := [.tmp 2]
/- probecard/netlists.Fanout (function 113) -/
def E7 : List RO := [om 37 3, om 38 8, om 39 3, om 40 8, od 41 (ia 1 39 40), od 42 (ld 1 41), om 43 5, om 44 7, od 45 (.build [(1, (tm 43)), (1, (tm 44))]), od 46 (.bsl true 165 2 [(tm 45)]), od 47 (.app false 165 2 (tm 42) (tm 46)), od 48 (ia 1 37
 38), on (.store 1 (tm 48) (tm 47))]
def N6 : List RO := [od 49 (.bin .add (tm 28) (ki 1)), om 28 49]
abbrev Xv : IC := .gh (.seq (.reg [od 29 (.bin .lss (tm 28) (tm 27))] [.keepB [3, 4, 5, 18, 19, 20, 26, 27, 28, 29] [14] 100000 16384]) (.seq (.cond (tm 29) .skip (.exit 2)) (.seq (.block 3 (.seq (.reg [om 30 28, od 31 (ia 1 26 28), od 32 (ld 1 31),
 om 7 30, om 8 32] [.keepB [3, 4, 5, 7, 8, 18, 19, 20, 26, 27, 28] [14] 100000 16384]) (.seq (.reg [om 33 4, om 34 8, od 35 (.callv (tm 33) [(tm 34)]), od 36 (.un .not (tm 35))] [.keepB [3, 4, 5, 7, 8, 18, 19, 20, 26, 27, 28, 36]
 [14] 100000 16384]) (.cond (tm 36) (.reg E7 [.renS 47 100000 8, .keepB [3, 4, 5, 18, 19, 20, 26, 27, 28] [14] 100000 16384]) .skip)))) (.reg N6 [.keepB [3, 4, 5, 18, 19, 20, 26, 27, 28] [14] 100000
 16384])))) [.keepB [3, 4, 5, 18, 19, 20, 26, 27, 28] [14] 100000 16384]
def Is : IC := .loop Xv
abbrev Xw : IC := .gh (.seq (.reg [od 21 (.bin .lss (tm 20) (tm 19))] [.keepB [3, 4, 18, 19, 20, 21] [14] 100000 16384]) (.seq (.cond (tm 21) .skip (.exit 0)) (.seq (.block 1 (.seq (.reg [om 22 20, od 23 (ia 4 18 20), od 24 (lG 4 23), od 6 (.alloc
 false [(.int .u8 0), (.slice none 0 0), (.int .i64 0), (.int .i64 0)]), om 5 22, on (.store 4 (tm 6) (tm 24))] [.keepB [3, 4, 5, 6, 18, 19, 20] [6, 14] 100000 16384]) (.seq (.reg [od 25 (fa 1 6), od 26 (ld 1 25), od 27 (le 0 26),
 od 28 (.mv (ki 0))] [.keepB [3, 4, 5, 18, 19, 20, 26, 27, 28] [14] 100000 16384]) (.block 2 Is)))) (.reg [od 50 (.bin .add (tm 20) (ki 1)), om 20 50] [.keepB [3, 4, 18, 19, 20] [14] 100000 16384])))) [.keepB [3, 4,
 18, 19, 20] [14] 100000 16384]
def It : IC := .loop Xw
abbrev Xx : IC := .gh (.seq (.reg [od 54 (.bin .lss (tm 53) (tm 52))] [kp [3, 51, 52, 53, 54] [14, 47]]) (.seq (.cond (tm 54) .skip (.exit 4)) (.seq (.block 5 (.seq (.reg [om 55 53, od 56 (ia 1 51 53), od 57 (ld 1 56), om 9 55, om 10 57] [kp [3, 9,
 10, 51, 52, 53] [14, 47]]) (.reg [om 58 3, om 59 9, om 60 10, od 61 (.call 139 [(tm 60)]), od 62 (ia 1 58 59), on (.store 1 (tm 62) (tm 61))] [kp [3, 51, 52, 53] [14, 47]]))) (.reg [od 63 (.bin .add (tm 53) (ki 1)), om 53 63] [kp
 [3, 51, 52, 53] [14, 47]])))) [kp [3, 51, 52, 53] [14, 47]]
def Iu : IC := .loop Xx
abbrev Xy : IC := (.seq (.reg [od 1 (.box true (tm 0)), od 2 (.mv kN)] [kp [1] []]) (.seq (.reg [od 11 (fa 0 1), od 12 (ld 1 11), od 13 (le 0 12), od 14 (.mkB 163 [(.slice none 0 0)] (tm 13) (tm 13)), om 3 14] [.keepB [1, 3] [14] 100000 16384])
 (.seq (.reg [od 15 (lG 4 1), od 16 (.call 138 [(tm 15)]), om 4 16] [.keepB [1, 3, 4] [14] 100000 16384]) (.seq (.seq (.reg [od 17 (fa 0 1), od 18 (ld 1 17), od 19 (le 0 18), od 20 (.mv (ki 0))] [.keepB [3, 4, 18, 19, 20] [14]
 100000 16384]) (.block 0 It)) (.seq (.seq (.reg [om 51 3, od 52 (le 0 51), od 53 (.mv (ki 0))] [.frzs 100000 16384, kp [3, 51, 52, 53] [14, 47]]) (.block 4 Iu)) (.seq (.reg [om 64 3, om 2 64] [kp [2]
 [14, 47]]) .ret))))))
theorem Q1 (h : ∀ K : St → Prop, K = run P Γ Is Q → run P Γ Xv (Am K Q) s) : run P Γ Is Q s := Ae h
theorem Q2 (h : ∀ K : St → Prop, K = run P Γ It Q → run P Γ Xw (Am K Q) s) : run P Γ It Q s := Ae h
theorem Q3 (h : ∀ K : St → Prop, K = run P Γ Iu Q → run P Γ Xx (Am K Q) s) : run P Γ Iu Q s := Ae h
attribute [simp] E7 N6
def Xz : List RV := [.tmp 2]
/- slices.Index[[]probecard/api.Kind,probecard/api.Kind] (function 133) -/
abbrev Nk : IC := .gh (.seq (.reg [od 9 (.bin .lss (tm 8) (tm 7))] [kp [0, 1, 7, 8, 9] []]) (.seq (.cond (tm 9) .skip (.exit 0)) (.seq (.block 1 (.seq (.reg [om 10 8, om 5 10] [kp [0, 1, 5, 7, 8] []]) (.seq (.reg [om 11 1, om 12 0, om 13 5, od 14
 (ia 1 12 13), od 15 (ld 1 14), od 16 (.bin .eql (tm 11) (tm 15))] [kp [0, 1, 5, 7, 8, 16] []]) (.cond (tm 16) (.seq (.reg [om 17 5, om 4 17] [kp [4] []]) .ret) .skip)))) (.reg [od 18 (.bin .add (tm 8) (ki 1)), om 8 18] [kp [0, 1,
 7, 8] []])))) [kp [0, 1, 7, 8] []]
def Ee : IC := .loop Nk
def H6 : List RO := [od 4 (.mv (.const (.int .i64 (-1))))]
abbrev Nl : IC := (.seq (.reg [od 4 (.mv (ki 0))] [kp [0, 1] []]) (.seq (.seq (.reg [om 6 0, od 7 (le 0 6), od 8 (.mv (ki 0))] [kp [0, 1, 7, 8] []]) (.block 0 Ee)) (.seq (.reg H6 [kp [4] []]) .ret)))
theorem J3 (h : ∀ K : St → Prop, K = run P Γ Ee Q → run P Γ Nk (Am K Q) s) : run P Γ Ee Q s := Ae h
attribute [simp] H6
def Dm : List RV := [.tmp 4]
/- probecard/logic.Fanin (function 93) -/
abbrev Y0 : IC := (.seq (.reg [od 2 (.mv (ki 0)), od 3 (.mv (ki 0))] [kp [0] []]) (.seq (.seq (.reg [om 4 0, od 5 (.conv .i64 (tm 4)), od 6 (.bin .geq (tm 5) (ki 16))] [kp [0, 6] []]) (.cond (tm 6) (.seq (.reg [od 2 (.mv (ki 0)), od 3 (.mv (.const
 (.int .i64 (-1))))] [kp [2, 3] []]) .ret) .skip)) (.seq (.reg [om 7 0, od 8 (.iadrA 16 2 (.global 0) (tm 7)), od 9 (.iadrA 2 1 (tm 8) (ki 0)), od 10 (ld 1 9), om 11 0, od 12 (.iadrA 16 2 (.global 0) (tm 11)), od 13 (.iadrA 2 1 (tm
 12) (ki 1)), od 14 (ld 1 13), om 2 10, om 3 14] [kp [2, 3] []]) .ret)))
def Y1 : List RV := [.tmp 2, .tmp 3]
/- strings.IndexByte (function 132) -/
abbrev Ud : IC := (.seq (.reg [od 4 (.mv (ki 0))] [kp [0, 1] []]) (.seq (.reg [om 5 0, om 6 1, od 7 (.call 148 [(tm 5), (tm 6)]), om 4 7] [kp [4] []]) .ret))
def Ue : List RV := [.tmp 4]
/- probecard/netlists.node (function 134) -/
abbrev q11 : IC := (.seq (.reg [od 2 (.box true (tm 0)), od 3 (.box true (tm 1)), od 4 (.mv (ki 0))] [kp [2, 3] []]) (.seq (.reg [od 9 (fa 0 3), od 10 (ld 1 9), od 11 (.call 93 [(tm 10)]), om 8 11, od 12 (ex 8 0), od 13 (ex 8 1), om 5 12, om 6 13]
 [kp [2, 3, 5, 6] []]) (.seq (.reg [od 14 (.mkf 149 [(tm 2)]), om 7 14] [kp [2, 3, 5, 6, 7] []]) (.seq (.block 0 (.seq (.reg [od 16 (fa 0 3), od 17 (ld 1 16), od 18 (.bin .gtr (tm 17) (ku 15)), om 15 18] [kp [2, 3, 5, 6, 7, 15] []])
 (.cond (tm 15) (.seq (.reg [od 4 (.mv (ki 7))] [kp [4] []]) .ret) (.seq (.reg [od 20 (fa 1 3), od 21 (ld 1 20), od 22 (le 0 21), om 23 5, od 24 (.bin .lss (tm 22) (tm 23)), om 25 24, oF 26 (fa 1 3) 25, oF 27 (ld 1 26) 25, oF 28 (le
 0 27) 25, oF 29 (.mv (tm 6)) 25, oF 30 (.bin .gtr (tm 28) (tm 29)) 25, od 31 (.pick (tm 25) kT (tm 30)), om 19 31] [kp [2, 3, 7, 19] []]) (.cond (tm 19) (.seq (.reg [od 4 (.mv (ki 8))] [kp [4] []]) .ret) (.seq (.reg [od 33 (fa 1
 3), od 34 (ld 1 33), od 35 (lG 4 2), od 36 (.call 138 [(tm 35)]), od 37 (.call 137 [(tm 34), (tm 36)]), om 32 37] [kp [2, 3, 7, 32] []]) (.cond (tm 32) (.seq (.reg [od 4 (.mv (ki 1))] [kp [4] []]) .ret) (.seq (.reg [od 39 (fa 0 3),
 od 40 (ld 1 39), od 41 (.bin .eql (tm 40) (ku 13)), om 42 41, oT 43 (fa 1 3) 42, oT 44 (ld 1 43) 42, oT 45 (.mv (tm 7)) 42, oT 46 (.call 137 [(tm 44), (tm 45)]) 42, od 47 (.pick (tm 42) (tm 46) kF), om 38 47] [kp [2, 3, 38] []])
 (.cond (tm 38) (.seq (.reg [od 4 (.mv (ki 7))] [kp [4] []]) .ret) (.seq (.reg [od 49 (lG 4 2), od 50 (lG 4 3), od 51 (.call 150 [(tm 49), (tm 50)]), od 52 (.un .not (tm 51)), om 48 52] [kp [48] []]) (.cond (tm 48) (.seq (.reg [od 4
 (.mv (ki 1))] [kp [4] []]) .ret) .skip))))))))))) (.seq (.reg [od 4 (.mv (ki 0))] [kp [4] []]) .ret)))))
def Dw : List RV := [.tmp 4]
/- probecard/netlists.names (function 135) -/
abbrev Zh : IC := .gh (.seq (.reg [od 11 (.bin .lss (tm 10) (tm 9))] [kp [3, 8, 9, 10, 11] [6]]) (.seq (.cond (tm 11) .skip (.exit 0)) (.seq (.block 1 (.seq (.reg [od 12 (ia 1 8 10), od 13 (ld 1 12), om 5 13] [kp [3, 5, 8, 9, 10] [6]]) (.seq (.seq
 (.reg [om 14 5, od 15 (.call 151 [(tm 14)]), od 16 (.un .not (tm 15)), om 17 16, oF 18 (.mv (tm 3)) 17, oF 19 (.mv (tm 5)) 17, oF 20 (.lkup .str (.bool false) false (tm 18) (tm 19)) 17, od 21 (.pick (tm 17) kT (tm 20))] [kp [3, 5,
 8, 9, 10, 21] [6]]) (.cond (tm 21) (.seq (.reg [od 2 (.mv (ki 5))] [kp [2] []]) .ret) .skip)) (.reg [om 22 3, om 23 5, on (.mup .str (tm 22) (tm 23) kT)] [kp [3, 8, 9, 10] [6]])))) (.reg [od 24 (.bin .add (tm 10) (ki 1)), om 10 24]
 [kp [3, 8, 9, 10] [6]])))) [kp [3, 8, 9, 10] [6]]
def Jj : IC := .loop Zh
abbrev Zi : IC := (.seq (.reg [od 1 (.box true (tm 0)), od 2 (.mv (ki 0))] [kp [1] []]) (.seq (.reg [od 6 (.mkmap), om 3 6] [kp [1, 3] [6]]) (.seq (.seq (.reg [od 7 (fa 1 1), od 8 (ld 1 7), od 9 (le 0 8), od 10 (.mv (ki 0))] [kp [3, 8, 9, 10] [6]])
 (.block 0 Jj)) (.seq (.reg [od 2 (.mv (ki 0))] [kp [2] []]) .ret))))
theorem Rf (h : ∀ K : St → Prop, K = run P Γ Jj Q → run P Γ Zh (Am K Q) s) : run P Γ Jj Q s := Ae h
def Q4 : List RV := [.tmp 2]
/- probecard/netlists.memory (function 136) -/
abbrev Y2 : IC := (.seq (.reg [od 2 (.box true (tm 0)), od 3 (.box true (tm 1)), od 4 (.mv (ki 0))] [kp [2, 3] []]) (.seq (.reg [od 5 (.mv (.func 152))] [kp [2, 3, 5] []]) (.seq (.reg [od 7 (lG 4 2), od 8 (.call 138 [(tm 7)]), om 6 8] [kp [3, 5, 6]
 []]) (.seq (.block 0 (.seq (.reg [om 10 5, od 11 (fa 0 3), od 12 (ld 1 11), od 13 (.callv (tm 10) [(tm 12), (ki 8)]), om 14 13, oF 15 (.mv (tm 5)) 14, oF 16 (fa 1 3) 14, oF 17 (ld 1 16) 14, oF 18 (.callv (tm 15) [(tm 17), (ki 32)])
 14, od 19 (.pick (tm 14) kT (tm 18)), om 9 19] [kp [3, 6, 9] []]) (.cond (tm 9) (.seq (.reg [od 4 (.mv (ki 8))] [kp [4] []]) .ret) (.seq (.reg [od 21 (fa 0 3), od 22 (ld 1 21), om 23 6, od 24 (.call 137 [(tm 22), (tm 23)]), om 25
 24, oF 26 (fa 1 3) 25, oF 27 (ld 1 26) 25, oF 28 (.mv (tm 6)) 25, oF 29 (.call 137 [(tm 27), (tm 28)]) 25, od 30 (.pick (tm 25) kT (tm 29)), om 31 30, oF 32 (.mv (tm 6)) 31, oF 33 (fa 2 3) 31, oF 34 (ld 1 33) 31, oF 35 (.callv (tm
 32) [(tm 34)]) 31, od 36 (.pick (tm 31) kT (tm 35)), om 20 36] [kp [20] []]) (.cond (tm 20) (.seq (.reg [od 4 (.mv (ki 1))] [kp [4] []]) .ret) .skip))))) (.seq (.reg [od 4 (.mv (ki 0))] [kp [4] []]) .ret)))))
def Du : List RV := [.tmp 4]
/- slices.ContainsFunc[[]int,int] (function 137) -/
abbrev Kr : IC := (.seq (.reg [od 4 (.mv kF)] [kp [0, 1] []]) (.seq (.reg [om 5 0, om 6 1, od 7 (.call 153 [(tm 5), (tm 6)]), od 8 (.bin .geq (tm 7) (ki 0)), om 4 8] [kp [4] []]) .ret))
def Ks : List RV := [.tmp 4]
/- probecard/netlists.outside (function 138) -/
abbrev Vv : IC := (.seq (.reg [od 1 (.box true (tm 0)), od 2 (.mv (.const .nilFunc))] [kp [1] []]) (.seq (.reg [od 3 (.mkf 154 [(tm 1)]), om 2 3] [kp [2] []]) .ret))
def Vw : List RV := [.tmp 2]
/- slices.Clip[[]probecard/api.Line,probecard/api.Line] (function 139) -/
abbrev Oy : IC := (.seq (.reg [od 2 (.mv kN)] [kp [0] []]) (.seq (.reg [om 3 0, om 4 0, od 5 (le 0 4), om 6 0, od 7 (le 0 6), od 8 (.slice 2 (tm 3) none (some (tm 5)) (some (tm 7))), om 2 8] [kp [2] []]) .ret))
def Oz : List RV := [.tmp 2]
/- internal/stringslite.IndexByte (function 148) -/
abbrev Kt : IC := (.seq (.reg [od 4 (.mv (ki 0))] [kp [0, 1] []]) (.seq (.reg [om 5 0, om 6 1, od 7 (.call 164 [(tm 5), (tm 6)]), om 4 7] [kp [4] []]) .ret))
def Ku : List RV := [.tmp 4]
/- probecard/netlists.node$1 (function 149) -/
abbrev Y3 : IC := (.seq (.reg [od 3 (.mv kF)] [kp [0, 1] []]) (.seq (.reg [od 4 (fa 0 1), od 5 (ld 1 4), om 6 0, od 7 (ia 4 5 6), od 8 (fa 0 7), od 9 (ld 1 8), od 10 (.bin .neq (tm 9) (ku 12)), om 3 10] [kp [3] []]) .ret))
def Y4 : List RV := [.tmp 3]
/- probecard/netlists.bit (function 150) -/
abbrev Ew : IC := (.seq (.reg [od 2 (.box true (tm 0)), od 3 (.box true (tm 1)), od 4 (.mv kF)] [kp [2, 3] []]) (.seq (.seq (.reg [od 5 (fa 0 3), od 6 (ld 1 5), od 7 (.bin .neq (tm 6) (ku 15))] [kp [2, 3, 7] []]) (.cond (tm 7) (.seq (.reg [od 8 (fa
 2 3), od 9 (ld 1 8), od 10 (.bin .eql (tm 9) (ki 0)), om 11 10, oT 12 (fa 3 3) 11, oT 13 (ld 1 12) 11, oT 14 (.bin .eql (tm 13) (ki 0)) 11, od 15 (.pick (tm 11) (tm 14) kF), om 4 15] [kp [4] []]) .ret) .skip)) (.seq (.reg [od 16
 (fa 2 3), od 17 (ld 1 16), od 18 (.bin .geq (tm 17) (ki 0)), om 19 18, oT 20 (fa 2 3) 19, oT 21 (ld 1 20) 19, oT 22 (fa 2 2) 19, oT 23 (ld 1 22) 19, oT 24 (le 0 23) 19, oT 25 (.bin .lss (tm 21) (tm 24)) 19, od 26 (.pick (tm 19) (tm
 25) kF), om 27 26, oT 28 (fa 3 3) 27, oT 29 (ld 1 28) 27, oT 30 (.bin .geq (tm 29) (ki 0)) 27, od 31 (.pick (tm 27) (tm 30) kF), om 32 31, oT 33 (fa 3 3) 32, oT 34 (ld 1 33) 32, oT 35 (fa 2 2) 32, oT 36 (ld 1 35) 32, oT 37 (fa 2 3)
 32, oT 38 (ld 1 37) 32, oT 39 (ia 3 36 38) 32, oT 40 (fa 1 39) 32, oT 41 (ld 1 40) 32, oT 42 (le 0 41) 32, oT 43 (.bin .lss (tm 34) (tm 42)) 32, od 44 (.pick (tm 32) (tm 43) kF), om 4 44] [kp [4] []]) .ret)))
def Ey : List RV := [.tmp 4]
/- probecard/netlists.IsName (function 151) -/
abbrev Iw : IC := (.seq (.reg [od 2 (.mv kF)] [kp [0] []]) (.seq (.reg [od 3 (.mv (.func 165))] [kp [0, 3] []]) (.seq (.reg [om 4 0, od 5 (.bin .neq (tm 4) (.const (sV []))), om 6 5, oT 7 (.mv (tm 0)) 6, oT 8 (le 1 7) 6, oT 9 (.bin .leq (tm 8) (ki
 32)) 6, od 10 (.pick (tm 6) (tm 9) kF), om 11 10, oT 12 (.mv (tm 0)) 11, oT 13 (.mv (tm 3)) 11, oT 14 (.call 167 [(tm 12), (tm 13)]) 11, oT 15 (.un .not (tm 14)) 11, od 16 (.pick (tm 11) (tm 15) kF), om 2 16] [kp [2] []]) .ret)))
def Ix : List RV := [.tmp 2]
/- probecard/netlists.memory$1 (function 152) -/
abbrev Uf : IC := (.seq (.reg [od 4 (.mv kF)] [kp [0, 1] []]) (.seq (.reg [om 5 0, od 6 (le 0 5), od 7 (.bin .eql (tm 6) (ki 0)), om 8 7, oF 9 (.mv (tm 0)) 8, oF 10 (le 0 9) 8, oF 11 (.mv (tm 1)) 8, oF 12 (.bin .gtr (tm 10) (tm 11)) 8, od 13 (.pick
 (tm 8) kT (tm 12)), om 4 13] [kp [4] []]) .ret))
def Ug : List RV := [.tmp 4]
/- slices.IndexFunc[[]int,int] (function 153) -/
abbrev P0 : IC := .gh (.seq (.reg [od 9 (.bin .lss (tm 8) (tm 7))] [kp [0, 1, 7, 8, 9] []]) (.seq (.cond (tm 9) .skip (.exit 0)) (.seq (.block 1 (.seq (.reg [om 10 8, om 5 10] [kp [0, 1, 5, 7, 8] []]) (.seq (.reg [om 11 1, om 12 0, om 13 5, od 14
 (ia 1 12 13), od 15 (ld 1 14), od 16 (.callv (tm 11) [(tm 15)])] [kp [0, 1, 5, 7, 8, 16] []]) (.cond (tm 16) (.seq (.reg [om 17 5, om 4 17] [kp [4] []]) .ret) .skip)))) (.reg [od 18 (.bin .add (tm 8) (ki 1)), om 8 18] [kp [0, 1, 7,
 8] []])))) [kp [0, 1, 7, 8] []]
def Es : IC := .loop P0
abbrev P1 : IC := (.seq (.reg [od 4 (.mv (ki 0))] [kp [0, 1] []]) (.seq (.seq (.reg [om 6 0, od 7 (le 0 6), od 8 (.mv (ki 0))] [kp [0, 1, 7, 8] []]) (.block 0 Es)) (.seq (.reg [od 4 (.mv (.const (.int .i64 (-1))))] [kp [4] []])
 .ret)))
theorem Jk (h : ∀ K : St → Prop, K = run P Γ Es Q → run P Γ P0 (Am K Q) s) : run P Γ Es Q s := Ae h
def Hv : List RV := [.tmp 4]
/- probecard/netlists.outside$1 (function 154) -/
abbrev Rh : IC := (.seq (.reg [od 3 (.mv kF)] [kp [0, 1] []]) (.seq (.reg [om 4 0, od 5 (.bin .lss (tm 4) (ki 0)), om 6 5, oF 7 (.mv (tm 0)) 6, oF 8 (fa 0 1) 6, oF 9 (ld 1 8) 6, oF 10 (le 0 9) 6, oF 11 (.bin .geq (tm 7) (tm 10)) 6, od 12 (.pick (tm
 6) kT (tm 11)), om 3 12] [kp [3] []]) .ret))
def Ri : List RV := [.tmp 3]
/- probecard/netlists.IsName$1 (function 165) -/
abbrev Gx : IC := (.seq (.reg [od 2 (.mv kF)] [kp [0] []]) (.seq (.reg [om 3 0, od 4 (.bin .leq (tm 3) (.const (.int .i32 32))), om 5 4, oF 6 (.mv (tm 0)) 5, oF 7 (.bin .gtr (tm 6) (.const (.int .i32 126))) 5, od 8 (.pick (tm 5) kT (tm 7)), om 9 8,
 oF 10 (.mv (tm 0)) 9, oF 11 (.call 166 [(.const (sV [40, 41, 61, 44, 35])), (tm 10)]) 9, od 12 (.pick (tm 9) kT (tm 11)), om 2 12] [kp [2] []]) .ret))
def Gy : List RV := [.tmp 2]
/- strings.ContainsRune (function 166) -/
abbrev P2 : IC := (.seq (.reg [od 4 (.mv kF)] [kp [0, 1] []]) (.seq (.reg [om 5 0, om 6 1, od 7 (.call 171 [(tm 5), (tm 6)]), od 8 (.bin .geq (tm 7) (ki 0)), om 4 8] [kp [4] []]) .ret))
def P3 : List RV := [.tmp 4]
/- strings.ContainsFunc (function 167) -/
abbrev P4 : IC := (.seq (.reg [od 4 (.mv kF)] [kp [0, 1] []]) (.seq (.reg [om 5 0, om 6 1, od 7 (.call 172 [(tm 5), (tm 6)]), od 8 (.bin .geq (tm 7) (ki 0)), om 4 8] [kp [4] []]) .ret))
def P5 : List RV := [.tmp 4]
/- strings.IndexRune (function 171) -/
abbrev Uh : IC := (.seq (.reg [od 4 (.mv (ki 0))] [kp [0, 1] []]) (.block 0 (.seq (.reg [om 161 1, od 162 (.bin .leq (.const (.int .i32 0)) (tm 161)), om 163 162, oT 164 (.mv (tm 1)) 163, oT 165 (.bin .lss (tm 164) (.const (.int .i32 128))) 163, od
 166 (.pick (tm 163) (tm 165) kF), om 160 166] [kp [0, 1, 160] []]) (.cond (tm 160) (.seq (.reg [om 167 0, om 168 1, od 169 (.conv .u8 (tm 168)), od 170 (.call 132 [(tm 167), (tm 169)]), om 4 170] [kp [4] []]) .ret) (.seq (.reg [om
 172 1, od 173 (.bin .eql (tm 172) (.const (.int .i32 65533))), om 171 173] [kp [1, 171] []]) (.cond (tm 171) .dead (.seq (.reg [om 184 1, od 185 (.call 173 [(tm 184)]), od 186 (.un .not (tm 185)), om 183 186] [kp [183] []]) (.cond
 (tm 183) .dead .dead))))))))
def Ui : List RV := [.tmp 4]
/- strings.IndexFunc (function 172) -/
abbrev Uj : IC := (.seq (.reg [od 4 (.mv (ki 0))] [kp [0, 1] []]) (.seq (.reg [om 5 0, om 6 1, od 7 (.call 176 [(tm 5), (tm 6), kT]), om 4 7] [kp [4] []]) .ret))
def Uk : List RV := [.tmp 4]
/- unicode/utf8.ValidRune (function 173) -/
abbrev Ul : IC := .gh (.seq (.reg [od 11 (.nxt (tm 10)), od 12 (ex 11 0)] [kp [1, 2, 10, 11, 12] [10]]) (.seq (.cond (tm 12) .skip (.exit 0)) (.block 1 (.seq (.reg [od 13 (ex 11 1), od 14 (ex 11 2), om 7 13, om 8 14] [kp [1, 2, 7, 8, 10] [10]])
 (.seq (.reg [om 15 1, om 16 8, od 17 (.callv (tm 15) [(tm 16)]), om 18 2, od 19 (.eqb true (tm 17) (tm 18))] [kp [1, 2, 7, 10, 19] [10]]) (.cond (tm 19) (.seq (.reg [om 20 7, om 6 20] [kp [6] []]) .ret) .skip)))))) [kp [1, 2, 10]
 [10]]
def Gz : IC := .loop Ul
abbrev Um : IC := (.seq (.reg [od 6 (.mv (ki 0))] [kp [0, 1, 2] []]) (.seq (.seq (.reg [om 9 0, od 10 (.rng (tm 9))] [kp [1, 2, 10] [10]]) (.block 0 Gz)) (.seq (.reg [od 6 (.mv (.const (.int .i64 (-1))))] [kp [6] []]) .ret)))
theorem Nn (h : ∀ K : St → Prop, K = run P Γ Gz Q → run P Γ Ul (Am K Q) s) : run P Γ Gz Q s := Ae h
def Kv : List RV := [.tmp 6]
end
end Go.Lg
namespace Go.Lg
open Go Go.Proofs
theorem q5W : Ap Tryz.prog 20 Zd 11 1 Ze = true := by kernel_rfl
theorem q8l : Ap Tryz.prog 66 q33 27 2 q34 = true := by kernel_rfl
theorem q4H : Ap Tryz.prog 19 Xp 6 1 Xq = true := by kernel_rfl
theorem q6U : Ap Tryz.prog 39 q0z 9 1 q10 = true := by kernel_rfl
theorem Vx : Ap Tryz.prog 62 Oa 9 1 Ob = true := by kernel_rfl
theorem q4I : Ap Tryz.prog 67 Xu 131 1 Ir = true := by kernel_rfl
theorem Vg : Ap Tryz.prog 111 Jf 9 2 Jg = true := by kernel_rfl
theorem q5X : Ap Tryz.prog 112 Ep 73 1 Cc = true := by kernel_rfl
theorem q4J : Ap Tryz.prog 113 Xy 65 1 Xz = true := by kernel_rfl
theorem Z4 : Ap Tryz.prog 133 Nl 19 2 Dm = true := by kernel_rfl
theorem q8m : Ap Tryz.prog 93 Y0 15 1 Y1 = true := by kernel_rfl
theorem q2f : Ap Tryz.prog 132 Ud 8 2 Ue = true := by kernel_rfl
theorem q6V : Ap Tryz.prog 134 q11 53 2 Dw = true := by kernel_rfl
theorem q5Y : Ap Tryz.prog 135 Zi 25 1 Q4 = true := by kernel_rfl
theorem q4K : Ap Tryz.prog 136 Y2 37 2 Du = true := by kernel_rfl
theorem Wx : Ap Tryz.prog 137 Kr 9 2 Ks = true := by kernel_rfl
theorem q35 : Ap Tryz.prog 138 Vv 4 1 Vw = true := by kernel_rfl
theorem q0W : Ap Tryz.prog 139 Oy 9 1 Oz = true := by kernel_rfl
theorem Wy : Ap Tryz.prog 148 Kt 8 2 Ku = true := by kernel_rfl
theorem q4L : Ap Tryz.prog 149 Y3 11 2 Y4 = true := by kernel_rfl
theorem q7c : Ap Tryz.prog 150 Ew 45 2 Ey = true := by kernel_rfl
theorem q4M : Ap Tryz.prog 151 Iw 17 1 Ix = true := by kernel_rfl
theorem q2g : Ap Tryz.prog 152 Uf 14 2 Ug = true := by kernel_rfl
theorem q0X : Ap Tryz.prog 153 P1 19 2 Hv = true := by kernel_rfl
theorem q1q : Ap Tryz.prog 154 Rh 13 2 Ri = true := by kernel_rfl
theorem q2h : Ap Tryz.prog 165 Gx 13 1 Gy = true := by kernel_rfl
theorem q0Y : Ap Tryz.prog 166 P2 9 2 P3 = true := by kernel_rfl
theorem q0Z : Ap Tryz.prog 167 P4 9 2 P5 = true := by kernel_rfl
theorem q2i : Ap Tryz.prog 171 Uh 187 2 Ui = true := by kernel_rfl
theorem q2j : Ap Tryz.prog 172 Uj 8 2 Uk = true := by kernel_rfl
theorem q2k : Ap Tryz.prog 176 Um 21 3 Kv = true := by kernel_rfl
end Go.Lg
set_option maxRecDepth 100000
namespace Go.Lg
open Go Go.Proofs
variable {Γ : Tables}
theorem q6W (es : List (List T)) (cap : Option Nat) (nl : Option Bool) (hw : Ce 1 es) : Ac Tryz.prog Γ 62 [.sl es cap nl] (.sl es (some es.length) nl) := by
 refine Ar Vx rfl ?_
 simp [Oa, Ob, ret, hw]
theorem qBL (es : List (List T)) (cap : Option Nat) (nl : Option Bool) (hw : Ce 2 es) : Ac Tryz.prog Γ 139 [.sl es cap nl] (.sl es (some es.length) nl) := by
 refine Ar q0W rfl ?_
 simp [Oy, Oz, ret, hw]
theorem qEc (ty : Nat) (es : List (List T)) (len : Nat) (cap : Option Nat) (hw : Ce 1 es) : Eu Tryz.prog Γ 62 [(1000000, .sl ty 1 es)] [.ls 1000000 0 len cap] (.ls 1000000 0 len (some len)) [(1000000, .sl ty 1 es)] := by
 refine Gu Vx rfl ?_
 simp [Oa, Ob, qGf, hw]
def q0a {α : Type} (p : α → Bool) (l : List α) : Int := match l.findIdx? p with | some i => i | none => -1
theorem q1r {α : Type} {p : α → Bool} {l : List α} {i : Nat} (hp : ∀ j, j < i → ∀ x, l[j]? = some x → p x = false) (x : α) (hx : l[i]? = some x) (h : p x = true) : l.findIdx? p = some i := by
 rw [List.findIdx?_eq_some_iff_getElem]
 have hi := (List.getElem?_eq_some_iff.1 hx).1
 refine ⟨hi, ?_, fun j hj => ?_⟩
 ·have := (List.getElem?_eq_some_iff.1 hx).2; rw [this]; exact h
 ·have := hp j hj l[j] (List.getElem?_eq_getElem (by omega))
  simp [this]
theorem q2F (l : List Int) (c : Option Nat) (nl : Option Bool) (x : Int) (hl : l.length ≤ 1000000000) : ∀ (k i : Nat), k + i = l.length → (∀ j, j < i → ∀ y, l[j]? = some y → (y == x) = false) →
  run Tryz.prog Γ Ee (N2 0 (Am (run Tryz.prog Γ (.seq (.reg H6 [.keep [4] []]) .ret) (ret true Dm fun r => r = tI (q0a (· == x) l))) (ret true Dm fun r => r = tI (q0a (· == x) l)))) ⟨[(0, .t (.sl (Ab tK l) c nl)), (1, .t (tK x)), (7, .t (tI l.length)), (8, .t (tI i))], []⟩
 | 0, i, h, hp => by
  refine J3 fun K hK => ?_
  have h2 : ¬ i < l.length := by omega
  simp (disch := omega) [A0, Bv (0 : Int), A6, A4, h2, ret, Dm, Dl, Fh, Fg, As]
  have : l.findIdx? (· == x) = none := by
   rw [List.findIdx?_eq_none_iff]
   intro y hy
   obtain ⟨j, hj, rfl⟩ := List.getElem_of_mem hy
   exact hp j (by omega) _ (List.getElem?_eq_getElem hj)
  have e : l.findIdx? (fun y => decide (y = x)) = _ := this
  simp [q0a, e]
 | k + 1, i, h, hp => by
  refine J3 fun K hK => ?_
  have h2 : i < l.length := by omega
  simp (disch := omega) [A0, Bv (0 : Int), A6, A4, h2]
  refine ⟨fun hc => ?_, fun hc => ?_⟩
  ·simp [Bg, ret, Dm, Dl, Fh, Fg, As]
   have := q1r (p := (· == x)) hp l[i] (List.getElem?_eq_getElem h2) (by simp [hc])
   have e : l.findIdx? (fun y => decide (y = x)) = _ := this
   simp [q0a, e]
  ·simp (disch := omega) [Bg, A4]
   rw [hK]
   exact_mod_cast q2F l c nl x hl k (i + 1) (by omega) (fun j hj y hy => by
    rcases Nat.lt_succ_iff_lt_or_eq.1 hj with hj | rfl
    ·exact hp j hj y hy
    ·rw [List.getElem?_eq_getElem h2] at hy; simp at hy; subst hy
     simp; exact fun e => hc e.symm)
theorem qEd (l : List Int) (c : Option Nat) (nl : Option Bool) (x : Int) (hl : l.length ≤ 1000000000) : A3 Tryz.prog Γ 133 [.sl (Ab tK l) c nl, tK x] (tI (q0a (· == x) l)) := by
 refine A7 Z4 rfl ?_
 simp (disch := omega) [Nl, A0, A4]
 exact_mod_cast q2F l c nl x hl l.length 0 (by omega) (by simp)
theorem qAn (l : List Int) (c : Option Nat) (nl : Option Bool) (x : Int) (hl : l.length ≤ 1000000000) : A3 Tryz.prog Γ 111 [.sl (Ab tK l) c nl, tK x] (tB (l.contains x)) := by
 refine A7 Vg rfl ?_
 simp (disch := omega) [Jf, A0, A4]
 refine A1 (qEd l c nl x hl) rfl ?_
 simp [ret, Jg, Dl, Fh, Fg, As]
 unfold q0a
 cases h : l.findIdx? (· == x) with
 | none =>
  rw [List.findIdx?_eq_none_iff] at h
  have : ¬ x ∈ l := fun hx => by simpa using h x hx
  simp [this]
 | some i =>
  rw [List.findIdx?_eq_some_iff_getElem] at h
  obtain ⟨hi, h1, _⟩ := h
  have : x ∈ l := by rw [← (show l[i] = x by simpa using h1)]; exact List.getElem_mem hi
  simp [this]
theorem P6 {cs : List T} : Af (cs.map fun t => some t) = some cs := by
 induction cs with
 | nil => rfl
 | cons t cs ih => simp only [List.map_cons, Af, ih, Option.map_some]
theorem Y5 {hp : List (Nat × B7)} {f : FuncId} {K : T → Prop} {cs : List T} {t res : T} (h : A3 Tryz.prog Γ f (t :: cs) res) (hk : K res) : q4b Tryz.prog Γ hp f (.t t :: cs.map .t) K ⟨⟩ :=
 A1 h (by simp only [List.map_cons, List.map_map, Function.comp_def, Af, Ah]; rw [P6]; rfl) hk
theorem q36 {Q : AX → St → Prop} (l : List Int) (c : Option Nat) (nl : Option Bool) (f : FuncId) (cs : List T) (p : Int → Bool) (hp : ∀ x ∈ l, A3 Tryz.prog Γ f (tI x :: cs) (tB (p x))) (hl : l.length ≤ 1000000000)
  (h0 : (∀ x ∈ l, p x = false) → Q (.exit 0) ⟨[(0, .t (.sl (Av l) c nl)), (1, .t (.fn f cs)), (7, .t (tI l.length)), (8, .t (tI l.length)), (9, .t (tB false))], []⟩)
  (h1 : ∀ i : Nat, l.findIdx? p = some i → Q .ret ⟨[(4, .t (tI i))], []⟩) : ∀ (k i : Nat), k + i = l.length → (∀ j, j < i → ∀ y, l[j]? = some y → p y = false) →
  run Tryz.prog Γ Es Q ⟨[(0, .t (.sl (Av l) c nl)), (1, .t (.fn f cs)), (7, .t (tI l.length)), (8, .t (tI i))], []⟩
 | 0, i, h, hq => by
  refine Jk fun K hK => ?_
  have h2 : ¬ i < l.length := by omega
  simp (disch := omega) [A0, Bv (0 : Int), A6, A4, h2]
  have h3 : i = l.length := by omega
  subst h3
  refine h0 fun y hy => ?_
  obtain ⟨j, hj, rfl⟩ := List.getElem_of_mem hy
  exact hq j (by omega) _ (List.getElem?_eq_getElem hj)
 | k + 1, i, h, hq => by
  refine Jk fun K hK => ?_
  have h2 : i < l.length := by omega
  simp (disch := omega) [A0, Bv (0 : Int), A6, A4, h2]
  refine Y5 (hp l[i] (List.getElem_mem h2)) ?_
  simp
  refine ⟨fun hc => ?_, fun hc => ?_⟩
  ·simp [Bg]
   exact h1 i (q1r hq l[i] (List.getElem?_eq_getElem h2) hc)
  ·simp (disch := omega) [Bg, A4]
   rw [hK]
   exact_mod_cast q36 l c nl f cs p hp hl h0 h1 k (i + 1) (by omega) (fun j hj y hy => by
    rcases Nat.lt_succ_iff_lt_or_eq.1 hj with hj | rfl
    ·exact hq j hj y hy
    ·rw [List.getElem?_eq_getElem h2] at hy; simp at hy; subst hy; exact hc)
theorem qAo (l : List Int) (c : Option Nat) (nl : Option Bool) (f : FuncId) (cs : List T) (p : Int → Bool) (hp : ∀ x ∈ l, A3 Tryz.prog Γ f (tI x :: cs) (tB (p x))) (hl : l.length ≤ 1000000000) : A3 Tryz.prog Γ 153 [.sl (Av l) c nl, .fn f cs] (tI (q0a p l)) := by
 refine A7 q0X rfl ?_
 simp (disch := omega) [P1, A0, A4]
 refine q36 l c nl f cs p hp hl (fun h => ?_) (fun i h => ?_) l.length 0 (by omega) (by simp)
 ·have : l.findIdx? p = none := List.findIdx?_eq_none_iff.2 h
  simp [ret, Hv, Dl, Fh, Fg, As, q0a, this]
 ·simp [ret, Hv, Dl, Fh, Fg, As, q0a, h]
theorem q12 (l : List Int) (c : Option Nat) (nl : Option Bool) (f : FuncId) (cs : List T) (p : Int → Bool) (hp : ∀ x ∈ l, A3 Tryz.prog Γ f (tI x :: cs) (tB (p x))) (hl : l.length ≤ 1000000000) : A3 Tryz.prog Γ 137 [.sl (Av l) c nl, .fn f cs] (tB (l.any p)) := by
 refine A7 Wx rfl ?_
 simp (disch := omega) [Kr, A0, A4]
 refine A1 (qAo l c nl f cs p hp hl) rfl ?_
 simp [ret, Ks, Dl, Fh, Fg, As]
 unfold q0a
 cases h : l.findIdx? p with
 | none =>
  rw [List.findIdx?_eq_none_iff] at h
  have : l.any p = false := by rw [List.any_eq_false]; intro x hx; simp [h x hx]
  simp [this]
 | some i =>
  rw [List.findIdx?_eq_some_iff_getElem] at h
  obtain ⟨hi, h1, _⟩ := h
  have : l.any p = true := List.any_eq_true.2 ⟨_, List.getElem_mem hi, h1⟩
  simp [this]
theorem q7d (k : Int) : A3 Tryz.prog Γ 39 [tK k] (tB (decide (1 ≤ k ∧ k ≤ 13))) := by
 refine A7 q6U rfl ?_
 by_cases h1 : 1 ≤ k <;> by_cases h2 : k ≤ 13 <;> simp [q0z, ret, q10, Dl, Fh, Fg, As, h1, h2]
structure Nd where
 k : Int
 inn : Sl Int
 mem : Int
 bit : Int
structure Mm where
 addr : Sl Int
 data : Sl Int
 write : Int
structure B5 where
 nodes : Sl Nd
 names : Sl (List UInt8)
 mems : Sl Mm
 outs : Sl Int
def Dn (x : Nd) : List T := [tK x.k, B1 x.inn, tI x.mem, tI x.bit]
def tMm (m : Mm) : List T := [B1 m.addr, B1 m.data, tI m.write]
def tS (l : List UInt8) : T := .v (sV l)
def A5 (s : Sl Nd) : T := .sl (An Dn s.l) s.cap s.nl
def A8 (s : Sl (List UInt8)) : T := .sl (Ab tS s.l) s.cap s.nl
def Ad (s : Sl Mm) : T := .sl (An tMm s.l) s.cap s.nl
def tC (c : B5) : List T := [A5 c.nodes, A8 c.names, Ad c.mems, B1 c.outs]
def Nd.d : Nd := ⟨0, ⟨[], none, none⟩, 0, 0⟩
def Mm.d : Mm := ⟨⟨[], none, none⟩, ⟨[], none, none⟩, 0⟩
theorem Bd {l : List Nd} : Ce 4 (An Dn l) := Xn fun _ => rfl
theorem Q5 {l : List Mm} : Ce 3 (An tMm l) := Xn fun _ => rfl
structure CirOk (c : B5) : Prop where
 nodes : c.nodes.l.length ≤ 1000000000
 names : c.names.l.length ≤ 1000000000
 mems : c.mems.l.length ≤ 1000000000
 outs : c.outs.l.length ≤ 1000000000
 kind : ∀ x ∈ c.nodes.l, 0 ≤ x.k ∧ x.k ≤ 255
 inn : ∀ x ∈ c.nodes.l, x.inn.l.length ≤ 1000000000
 addr : ∀ m ∈ c.mems.l, m.addr.l.length ≤ 1000000000 ∧ m.data.l.length ≤ 1000000000
def Q6 (c : B5) (n : Int) : Bool := decide (n < 0 ∨ (c.nodes.l.length : Int) ≤ n)
theorem q0b (c : B5) (n : Int) (hc : c.nodes.l.length ≤ 1000000000) : A3 Tryz.prog Γ 154 [tI n, .ip (tC c) 0] (tB (Q6 c n)) := by
 refine A7 q1q rfl ?_
 by_cases h1 : n < 0 <;> simp (disch := omega) [Rh, ret, Ri, Dl, Fh, Fg, As, h1, tC, A5, A9, A4, Q6]
theorem Wz (c : B5) : Ac Tryz.prog Γ 138 [.agg (tC c)] (.fn 154 [.ip (tC c) 0]) := by
 refine Ar q35 rfl ?_
 simp [Vv, ret, Vw, tC, C6, D2, T.one, AV.one, A5, A8, Ad, B1]
theorem Zj (c : B5) (hc : c.nodes.l.length ≤ 1000000000) (l : List Int) (cap : Option Nat) (nl : Option Bool) (hl : l.length ≤ 1000000000) : A3 Tryz.prog Γ 137 [.sl (Av l) cap nl, .fn 154 [.ip (tC c) 0]] (tB (l.any (Q6 c))) :=
 q12 l cap nl _ _ _ (fun x _ => q0b c x hc) hl
def q9m : List (Int × Int) := [(0, 0), (0, 0), (0, 0), (1, 1), (1, 1), (2, 16), (2, 16), (2, 16), (2, 16), (2, 16), (2, 16), (3, 3), (2, 2), (1, 16), (1, 1), (0, 0)]
def qGg : List T := q9m.flatMap fun p => [tI p.1, tI p.2]
def Vh (k : Int) : Int × Int := if 16 ≤ k then (0, -1) else q9m.getD k.toNat (0, 0)
def GOk (Γ : Tables) : Prop := Γ 0 = some qGg
theorem Dc (hΓ : GOk Γ) (k : Int) (h0 : 0 ≤ k) (h1 : k ≤ 255) : A3 Tryz.prog Γ 93 [tK k] (.tup [tI (Vh k).1, tI (Vh k).2]) := by
 unfold GOk at hΓ
 refine A7 q8m rfl ?_
 by_cases h2 : 16 ≤ k
 ·simp (disch := omega) [Y0, ret, Y1, Dl, Fh, Fg, As, h2, A4, Vh]
 ·have h3 : k = 0 ∨ k = 1 ∨ k = 2 ∨ k = 3 ∨ k = 4 ∨ k = 5 ∨ k = 6 ∨ k = 7 ∨ k = 8 ∨ k = 9 ∨ k = 10 ∨ k = 11 ∨ k = 12 ∨ k = 13 ∨ k = 14 ∨ k = 15 := by omega
  rcases h3 with rfl | rfl | rfl | rfl | rfl | rfl | rfl | rfl | rfl | rfl | rfl | rfl | rfl | rfl | rfl | rfl <;>
  simp (disch := omega) [Y0, ret, Y1, Dl, Fh, Fg, As, A4, Vh, hΓ, qGg, q9m] <;> exact ⟨rfl, rfl⟩
def q13 (c : B5) (x : Nd) : Bool :=
 if x.k ≠ 15 then decide (x.mem = 0 ∧ x.bit = 0)
 else decide (0 ≤ x.mem ∧ x.mem < c.mems.l.length ∧ 0 ≤ x.bit ∧ x.bit < ((c.mems.l.getD x.mem.toNat Mm.d).data.l.length))
theorem qI0 (c : B5) (x : Nd) (hc : CirOk c) : A3 Tryz.prog Γ 150 [.agg (tC c), .agg (Dn x)] (tB (q13 c x)) := by
 refine A7 q7c rfl ?_
 have hm := hc.mems
 by_cases h1 : x.k = 15
 ·by_cases h2 : 0 ≤ x.mem
  ·by_cases h3 : x.mem < c.mems.l.length
   ·have h3' : x.mem.toNat < c.mems.l.length := by omega
    by_cases h4 : 0 ≤ x.bit
    ·simp (disch := omega) [Ew, ret, Ey, Dl, Fh, Fg, As, C6, D2, T.one, AV.one, tC, Dn, A5, A8, Ad, B1, h1, h2, h3, h4, h3', A9, E3 Mm.d, A4, Q5, tMm, A0, q13]
    ·simp (disch := omega) [Ew, ret, Ey, Dl, Fh, Fg, As, C6, D2, T.one, AV.one, tC, Dn, A5, A8, Ad, B1, h1, h2, h3, h4, h3', A9, E3 Mm.d, A4, Q5, tMm, A0, q13]
   ·simp (disch := omega) [Ew, ret, Ey, Dl, Fh, Fg, As, C6, D2, T.one, AV.one, tC, Dn, A5, A8, Ad, B1, h1, h2, h3, A9, E3 Mm.d, A4, Q5, tMm, A0, q13]
  ·simp (disch := omega) [Ew, ret, Ey, Dl, Fh, Fg, As, C6, D2, T.one, AV.one, tC, Dn, A5, A8, Ad, B1, h1, h2, A9, E3 Mm.d, A4, Q5, tMm, A0, q13]
 ·by_cases h2 : x.mem = 0
  ·simp (disch := omega) [Bg, Ew, Ey, tC, Dn, A5, A8, Ad, B1, h1, h2, q13, -decide_eq_decide]
  ·have h2' : (x.mem == 0) = false := by simpa using h2
   simp (disch := omega) [Bg, Ew, Ey, tC, Dn, A5, A8, Ad, B1, h1, h2, h2', q13]
def Vi (l : List Int) (most : Int) : Bool := decide (l.length = 0 ∨ most < l.length)
theorem q6X (l : List Int) (cap : Option Nat) (nl : Option Bool) (most : Int) (hl : l.length ≤ 1000000000) : A3 Tryz.prog Γ 152 [.sl (Av l) cap nl, tI most] (tB (Vi l most)) := by
 refine A7 q2g rfl ?_
 by_cases h : l.length = 0 <;> simp (disch := omega) [Uf, ret, Ug, Dl, Fh, Fg, As, A0, h, Vi, A4]
def q37 (c : B5) (n : Int) : Bool := decide ((c.nodes.l.getD n.toNat Nd.d).k ≠ 12)
theorem qEe (c : B5) (n : Int) (h0 : 0 ≤ n) (h1 : n < c.nodes.l.length) : A3 Tryz.prog Γ 149 [tI n, .ip (tC c) 0] (tB (q37 c n)) := by
 refine A7 q4L rfl ?_
 have h2 : n.toNat < c.nodes.l.length := by omega
 simp (disch := omega) [Y3, ret, Y4, Dl, Fh, Fg, As, tC, A5, A9, E3 Nd.d, Bd, h0, h1, h2, q37, Dn]
def Dq (c : B5) (x : Nd) : Int :=
 if 15 < x.k then 7 else if (x.inn.l.length : Int) < (Vh x.k).1 ∨ (Vh x.k).2 < x.inn.l.length then 8 else if x.inn.l.any (Q6 c) then 1
 else if x.k = 13 ∧ x.inn.l.any (q37 c) = true then 7 else if q13 c x = false then 1 else 0
theorem q48 {c : B5} {l : List Int} (h : l.any (Q6 c) = false) : ∀ n ∈ l, 0 ≤ n ∧ n < c.nodes.l.length := by
 intro n hn
 have := List.any_eq_false.1 h n hn
 simp only [Q6, decide_eq_true_eq, not_or, Int.not_lt, Int.not_le] at this
 exact this
theorem qGh (hΓ : GOk Γ) (c : B5) (x : Nd) (hc : CirOk c) (hk : 0 ≤ x.k ∧ x.k ≤ 255) (hl : x.inn.l.length ≤ 1000000000) : A3 Tryz.prog Γ 134 [.agg (tC c), .agg (Dn x)] (tI (Dq c x)) := by
 refine A7 q6V rfl ?_
 have hn := hc.nodes
 have e1 := Zj (Γ := Γ) c hn x.inn.l x.inn.cap x.inn.nl hl
 have e2 := Dc hΓ x.k hk.1 hk.2
 have e3 := Wz (Γ := Γ) c
 have e4 := qI0 (Γ := Γ) c x hc
 simp (disch := omega) [q11, C6, D2, T.one, AV.one, tC, Dn, A5, A8, Ad, B1]
 refine A1 e2 rfl ?_
 simp (disch := omega)
 simp
 refine ⟨fun h1 => ?_, fun h1 => ?_⟩
 ·simp [Bg, ret, Dw, Dl, Fh, Fg, As, Dq, h1]
 by_cases h2 : (x.inn.l.length : Int) < (Vh x.k).1
 ·simp (disch := omega) [Bg, A0, A4, h2, ret, Dw, Dl, Fh, Fg, As, Dq, h1]
 by_cases h3 : (Vh x.k).2 < x.inn.l.length
 ·simp (disch := omega) [Bg, A0, A4, h2, h3, ret, Dw, Dl, Fh, Fg, As, Dq, h1]
 simp (disch := omega) [Bg, A0, A4, h2, h3]
 refine Aa e3 rfl ?_
 simp (disch := omega)
 refine A1 e1 rfl ?_
 simp (disch := omega) [-List.any_eq_true, -List.any_eq_false]
 refine ⟨fun h4 => ?_, fun h4 => ?_⟩
 ·simp [-List.any_eq_true, -List.any_eq_false, Bg, ret, Dw, Dl, Fh, Fg, As, Dq, h1, h2, h3, h4]
 have h4' : x.inn.l.any (Q6 c) = false := h4
 by_cases h5 : x.k = 13
 ·have e5 := q12 (Γ := Γ) x.inn.l x.inn.cap x.inn.nl 149 [.ip (tC c) 0] (q37 c) (fun n hm => qEe c n (q48 h4' n hm).1 (q48 h4' n hm).2) hl
  simp (disch := omega) [Bg, h5]
  refine A1 e5 rfl ?_
  simp [-List.any_eq_true, -List.any_eq_false]
  refine ⟨fun h6 => ?_, fun h6 => ?_⟩
  ·have h6' : x.inn.l.any (q37 c) = true := h6
   simp [-List.any_eq_true, -List.any_eq_false, Bg, ret, Dw, Dl, Fh, Fg, As, Dq, h1, h2, h3, h4', h5, h6']
   simp [h5] at h2 h3; omega
  ·have h6' : x.inn.l.any (q37 c) = false := h6
   have e : Dq c x = if q13 c x = false then 1 else 0 := by
    unfold Dq
    rw [if_neg (by omega), if_neg (by omega), if_neg (by simp [h4']), if_neg (by simp [h6'])]
   rw [e]
   simp (disch := omega) [Bg, h6']
   rw [show Dn x = [tK 13, B1 x.inn, tI x.mem, tI x.bit] from by simp [Dn, h5]] at e4
   refine A1 e4 rfl ?_
   simp
   refine ⟨fun h7 => ?_, fun h7 => ?_⟩ <;> simp [Bg, Dw, h7]
 ·have e : Dq c x = if q13 c x = false then 1 else 0 := by
   unfold Dq
   rw [if_neg (by omega), if_neg (by omega), if_neg (by simp [h4']), if_neg (by simp [h5])]
  rw [e]
  simp (disch := omega) [Bg, h5]
  refine A1 e4 rfl ?_
  simp
  refine ⟨fun h7 => ?_, fun h7 => ?_⟩ <;> simp [Bg, Dw, h7]
theorem qOf : (Tryz.prog.funcs[164]?).map (fun f => (f.name, f.body.isNone, f.origin)) = some ("internal/bytealg.IndexByteString", true, "") := by kernel_rfl
abbrev tR (n : Int) : T := .v (.int .i32 n)
theorem q38 (s : ByteArray) (c : Int) : A3 Tryz.prog Γ 164 [.v (.string s), tK c] (tI (Lib.indexByte s.data.toList c.toNat.toUInt8)) := by
 intro w X vs hg hx hts
 obtain ⟨x, xs, rfl, h1, h2⟩ := hts.cons_inv
 obtain ⟨y, ys, rfl, h3, h4⟩ := h2.cons_inv
 have := h4.nil_inv; subst this
 cases h1; cases h3
 refine .inr ⟨.int .i64 (Lib.indexByte s.data.toList c.toNat.toUInt8), ?_, RowKit.Below.refl _ _, .v _⟩
 have h := qOf
 simp only [Option.map_eq_some_iff, Prod.mk.injEq] at h
 obtain ⟨fn, hf, hn, hb, ho⟩ := h
 have e1 : Extern.findNext fn = none := by
  simp only [Extern.findNext, hn, ho]
  have a : Extern.allNextRows.lookup "internal/bytealg.IndexByteString" = none := by kernel_rfl
  have b : Extern.allNextRows.lookup "" = none := by kernel_rfl
  rw [a, b]; rfl
 have e2 : Extern.find fn = some Extern.BytealgIndexByte.indexByte := by
  simp only [Extern.find, hn, ho]
  have a : Extern.allGenericRows.lookup "internal/bytealg.IndexByteString" = none := by kernel_rfl
  have b : Extern.allTypedRows.lookup "internal/bytealg.IndexByteString" = none := by kernel_rfl
  have c : Extern.allRows.lookup "internal/bytealg.IndexByteString" = some Extern.BytealgIndexByte.indexByte := by kernel_rfl
  rw [a, b, c]; rfl
 have hnn : ¬ fn.name = "runtime.NumGoroutine" := by rw [hn]; decide
 have hr := Lib.run_indexByteString (P := Tryz.prog) s c w
 have hb' : fn.body = none := by simpa using hb
 simp [callFunc, hf, hnn, hb', e1, e2, hr]
theorem qGi (s : ByteArray) (c : Int) : A3 Tryz.prog Γ 148 [.v (.string s), tK c] (tI (Lib.indexByte s.data.toList c.toNat.toUInt8)) := by
 refine A7 Wy rfl ?_
 simp [Kt]
 refine A1 (q38 s c) rfl ?_
 simp [Ku]
theorem q9n (s : ByteArray) (c : Int) : A3 Tryz.prog Γ 132 [.v (.string s), tK c] (tI (Lib.indexByte s.data.toList c.toNat.toUInt8)) := by
 refine A7 q2f rfl ?_
 simp [Ud]
 refine A1 (qGi s c) rfl ?_
 simp [Ue]
theorem q9o (s : ByteArray) (c : Int) (h0 : 0 ≤ c) (h1 : c < 128) : A3 Tryz.prog Γ 171 [.v (.string s), tR c] (tI (Lib.indexByte s.data.toList c.toNat.toUInt8)) := by
 refine A7 q2i rfl ?_
 simp (disch := omega) [Uh, h0, h1, Bh]
 refine A1 (q9n s c) rfl ?_
 simp [Ui]
theorem q6Y (s : ByteArray) (c : Int) (h0 : 0 ≤ c) (h1 : c < 128) : A3 Tryz.prog Γ 166 [.v (.string s), tR c] (tB (decide (0 ≤ Lib.indexByte s.data.toList c.toNat.toUInt8))) := by
 refine A7 q0Y rfl ?_
 simp (disch := omega) [P2]
 refine A1 (q9o s c h0 h1) rfl ?_
 simp [P3]
def qGj (c : Int) : Bool := decide (c ≤ 32 ∨ 126 < c ∨ 0 ≤ Lib.indexByte [40, 41, 61, 44, 35] c.toNat.toUInt8)
theorem qGk (c : Int) : A3 Tryz.prog Γ 165 [tR c] (tB (qGj c)) := by
 refine A7 q2h rfl ?_
 by_cases h1 : c ≤ 32
 ·simp [Gx, Gy, h1, qGj]
 by_cases h2 : 126 < c
 ·simp [Gx, Gy, h1, h2, qGj]
 simp [Gx, h1, h2]
 refine A1 (q6Y ⟨#[40, 41, 61, 44, 35]⟩ c (by omega) (by omega)) rfl ?_
 simp [Gy, qGj, h1, h2]
theorem qEf (s : List UInt8) (i : Nat) (hi : i < s.length) (ha : s[i] < 128) : Utf8.decode ⟨s.toArray⟩ i = ((s[i]).toNat, 1) := by
 have e : (ByteArray.mk s.toArray).get! (i + 0) = s[i] := by
  simp [ByteArray.get!, hi]
 have h2 : (s[i]).toNat < 128 := by simpa [UInt8.lt_iff_toNat_lt] using ha
 unfold Utf8.decode
 simp only [e, h2, ↓reduceIte]
def qEg (s : List UInt8) : Bool := s.any fun b => qGj b.toNat
theorem q39 {Q : AX → St → Prop} (s : List UInt8) (ha : ∀ b ∈ s, b < 128)
  (h0 : qEg s = false → Q (.exit 0) ⟨[(1, .t (.fn 165 [])), (2, .t (tB true)), (10, .li 10), (11, .t (.tup [tB false])), (12, .t (tB false))], [(10, .it ⟨s.toArray⟩ s.length)]⟩)
  (h1 : qEg s = true → ∀ i : Nat, Q .ret ⟨[(6, .t (tI i))], []⟩) : ∀ (k i : Nat), k + i = s.length → (∀ j, j < i → ∀ b, s[j]? = some b → qGj b.toNat = false) →
  run Tryz.prog Γ Gz Q ⟨[(1, .t (.fn 165 [])), (2, .t (tB true)), (10, .li 10)], [(10, .it ⟨s.toArray⟩ i)]⟩
 | 0, i, h, hq => by
  refine Nn fun K hK => ?_
  have h2 : ¬ i < s.length := by omega
  have h3 : i = s.length := by omega
  have h4 : ¬ i < (ByteArray.mk s.toArray).size := by simpa [ByteArray.size] using h2
  simp [h2]
  subst h3
  refine h0 (List.any_eq_false.2 fun b hb => ?_)
  obtain ⟨j, hj, rfl⟩ := List.getElem_of_mem hb
  simp [hq j hj _ (List.getElem?_eq_getElem hj)]
 | k + 1, i, h, hq => by
  refine Nn fun K hK => ?_
  have h2 : i < s.length := by omega
  have h4 : i < (ByteArray.mk s.toArray).size := by simpa [ByteArray.size] using h2
  simp [h2, qEf s i h2 (ha _ (List.getElem_mem h2))]
  refine A1 (qGk s[i].toNat) rfl ?_
  simp
  refine ⟨fun hc => ?_, fun hc => ?_⟩
  ·simp [Bg]
   exact h1 (List.any_eq_true.2 ⟨_, List.getElem_mem h2, hc⟩) i
  ·simp [Bg]
   rw [hK]
   exact q39 s ha h0 h1 k (i + 1) (by omega) (fun j hj b hb => by
    rcases Nat.lt_succ_iff_lt_or_eq.1 hj with hj | rfl
    ·exact hq j hj b hb
    ·rw [List.getElem?_eq_getElem h2] at hb; simp at hb; subst hb; exact hc)
theorem qCC (s : List UInt8) (ha : ∀ b ∈ s, b < 128) : ∃ n : Int, A3 Tryz.prog Γ 176 [tS s, .fn 165 [], tB true] (tI n) ∧ (0 ≤ n ↔ qEg s = true) := by
 have : ∃ r, A3 Tryz.prog Γ 176 [tS s, .fn 165 [], tB true] r ∧ ∃ n, r = tI n ∧ (0 ≤ n ↔ qEg s = true) := by
  refine qBI q2k rfl ?_
  simp [Um, tS, sV]
  refine q39 s ha (fun h => ?_) (fun h i => ?_) s.length 0 (by omega) (by simp)
  ·simp [Kv, h]
  ·simp [Kv, h]
 obtain ⟨_, h1, n, rfl, h2⟩ := this
 exact ⟨n, h1, h2⟩
theorem q8n (s : List UInt8) (ha : ∀ b ∈ s, b < 128) : ∃ n : Int, A3 Tryz.prog Γ 172 [tS s, .fn 165 []] (tI n) ∧ (0 ≤ n ↔ qEg s = true) := by
 obtain ⟨n, h1, h2⟩ := qCC (Γ := Γ) s ha
 refine ⟨n, A7 q2j rfl ?_, h2⟩
 simp [Uj]
 refine A1 h1 rfl ?_
 simp [Uk]
theorem q3A (s : List UInt8) (ha : ∀ b ∈ s, b < 128) : A3 Tryz.prog Γ 167 [tS s, .fn 165 []] (tB (qEg s)) := by
 obtain ⟨n, h1, h2⟩ := q8n (Γ := Γ) s ha
 refine A7 q0Z rfl ?_
 simp [P4]
 refine A1 h1 rfl ?_
 simp [P5, h2]
def q5Z (s : List UInt8) : Bool := decide (s ≠ [] ∧ s.length ≤ 32) && !qEg s
theorem qDD (s : List UInt8) (ha : ∀ b ∈ s, b < 128) : A3 Tryz.prog Γ 151 [tS s] (tB (q5Z s)) := by
 refine A7 q4M rfl ?_
 have h := q3A (Γ := Γ) s ha
 by_cases h1 : s = []
 ·simp [Iw, Ix, tS, sV, h1, q5Z]
 have h1' : s.isEmpty = false := by simpa using h1
 by_cases h2 : s.length ≤ 32
 ·have h2' : (s.length : Int) ≤ 32 := by omega
  simp [Iw, tS, sV, h1, h1', h2']
  refine A1 h rfl ?_
  simp [Ix, q5Z, h1, h2]
 ·have h2' : ¬ (s.length : Int) ≤ 32 := by omega
  simp [Iw, Ix, tS, sV, h1, h1', h2', h2, q5Z]
def Oc (c : B5) (m : Mm) : Int :=
 if Vi m.addr.l 8 = true ∨ Vi m.data.l 32 = true then 8 else if m.addr.l.any (Q6 c) = true ∨ m.data.l.any (Q6 c) = true ∨ Q6 c m.write = true then 1 else 0
theorem qDE (c : B5) (m : Mm) (hc : CirOk c) (hm : m.addr.l.length ≤ 1000000000 ∧ m.data.l.length ≤ 1000000000) : A3 Tryz.prog Γ 136 [.agg (tC c), .agg (tMm m)] (tI (Oc c m)) := by
 refine A7 q4K rfl ?_
 have hn := hc.nodes
 have e1 := Zj (Γ := Γ) c hn m.addr.l m.addr.cap m.addr.nl hm.1
 have e2 := Zj (Γ := Γ) c hn m.data.l m.data.cap m.data.nl hm.2
 have e3 := Wz (Γ := Γ) c
 have e4 := q6X (Γ := Γ) m.addr.l m.addr.cap m.addr.nl 8 hm.1
 have e5 := q6X (Γ := Γ) m.data.l m.data.cap m.data.nl 32 hm.2
 have e6 := q0b (Γ := Γ) c m.write hn
 simp [Y2, tC, tMm, A5, A8, Ad, B1]
 refine Aa e3 rfl ?_
 simp
 refine A1 e4 rfl ?_
 have fin2 : ∀ b : Bool, b = decide (m.addr.l.any (Q6 c) = true ∨ m.data.l.any (Q6 c) = true ∨ Q6 c m.write = true) → (Vi m.addr.l 8 = false) → (Vi m.data.l 32 = false) → Oc c m = if b then 1 else 0 := by
  intro b hb h1 h2
  subst hb
  unfold Oc
  rw [if_neg (by simp [h1, h2])]
  simp
 by_cases h1 : Vi m.addr.l 8 = true
 ·simp [h1, Du, Oc]
 have h1' : Vi m.addr.l 8 = false := by simpa using h1
 simp [h1']
 refine A1 e5 rfl ?_
 by_cases h2 : Vi m.data.l 32 = true
 ·simp [h2, Du, Oc]
 have h2' : Vi m.data.l 32 = false := by simpa using h2
 simp [h2']
 refine A1 e1 rfl ?_
 generalize m.addr.l.any (Q6 c) = b1 at e1 fin2
 generalize m.data.l.any (Q6 c) = b2 at e2 fin2
 generalize Q6 c m.write = b3 at e6 fin2
 cases b1 with
 | true => simp [Du, fin2 true (by simp) h1' h2']
 | false =>
  simp
  refine A1 e2 rfl ?_
  cases b2 with
  | true => simp [Du, fin2 true (by simp) h1' h2']
  | false =>
   simp
   refine Y5 e6 ?_
   cases b3 with
   | true => simp [Du, fin2 true (by simp) h1' h2']
   | false => simp [Du, fin2 false (by simp) h1' h2']
def q9p (l : List (List UInt8)) : List (Value × T) := l.map fun s => (sV s, tB true)
theorem qKh (a b : List UInt8) : q2D (sV a) (sV b) = decide (a = b) := by
 simp only [q2D, sV]
 by_cases h : a = b
 ·subst h; simp [qC3]
 ·have : ¬ (ByteArray.mk a.toArray) = ⟨b.toArray⟩ := fun e => h (by simpa using e)
  have h2 : ((ByteArray.mk a.toArray) == ⟨b.toArray⟩) = false := by
   cases hq : ((ByteArray.mk a.toArray) == ⟨b.toArray⟩)
   ·rfl
   ·exact absurd ((qC3 _ _).1 hq) this
  rw [h2]; simp [h]
theorem q9q (x : List UInt8) : ∀ l : List (List UInt8), G2 (sV x) (q9p l) = if x ∈ l then some (tB true) else none
 | [] => rfl
 | y :: l => by
  have ih := q9q x l
  simp only [q9p, List.map_cons, G2, qKh] at ih ⊢
  by_cases h : x = y
  ·simp [h]
  ·simp [h, ih]
theorem qBM (x : List UInt8) : ∀ l : List (List UInt8), x ∉ l → q7K (sV x) (tB true) (q9p l) = q9p (l ++ [x])
 | [], _ => rfl
 | y :: l, h => by
  have ih := qBM x l (fun hm => h (List.mem_cons_of_mem _ hm))
  have hne : x ≠ y := fun e => h (by simp [e])
  simp only [q9p, List.map_cons, q7K, qKh, List.cons_append] at ih ⊢
  simp [hne, ih]
theorem qGl (l : List (List UInt8)) : O3 .str (q9p l) := by
 intro e he; obtain ⟨s, _, rfl⟩ := List.mem_map.1 he; rfl
def J4 : List (List UInt8) → List (List UInt8) → Int
 | _, [] => 0
 | done, s :: l => if q5Z s = false ∨ s ∈ done then 5 else J4 (done ++ [s]) l
theorem q9r {Q : AX → St → Prop} (n : Sl (List UInt8)) (hl : n.l.length ≤ 1000000000) (ha : ∀ s ∈ n.l, ∀ b ∈ s, b < 128) (R : Int)
  (h0 : R = 0 → ∀ m : List (Value × T), Q (.exit 0) ⟨[(3, .lm 6), (8, .t (A8 n)), (9, .t (tI n.l.length)), (10, .t (tI n.l.length)), (11, .t (tB false))], [(6, .mp m)]⟩)
  (h5 : R = 5 → Q .ret ⟨[(2, .t (tI 5))], []⟩) : ∀ (k i : Nat), k + i = n.l.length → J4 (n.l.take i) (n.l.drop i) = R →
  run Tryz.prog Γ Jj Q ⟨[(3, .lm 6), (8, .t (A8 n)), (9, .t (tI n.l.length)), (10, .t (tI i))], [(6, .mp (q9p (n.l.take i)))]⟩
 | 0, i, h, hR => by
  refine Rf fun K hK => ?_
  have h2 : ¬ i < n.l.length := by omega
  have h3 : i = n.l.length := by omega
  simp [h2, A8]
  subst h3
  refine h0 ?_ _
  rw [← hR]; simp [J4]
 | k + 1, i, h, hR => by
  refine Rf fun K hK => ?_
  have h2 : i < n.l.length := by omega
  simp (disch := omega) [h2, A8, A0, Bv ([] : List UInt8), A6]
  refine A1 (qDD n.l[i] (ha _ (List.getElem_mem h2))) rfl ?_
  have hd : n.l.drop i = n.l[i] :: n.l.drop (i + 1) := List.drop_eq_getElem_cons h2
  rw [hd] at hR
  simp only [J4] at hR
  have ht : n.l.take i ++ [n.l[i]] = n.l.take (i + 1) := by rw [List.take_add_one]; simp [h2]
  by_cases hq : q5Z n.l[i] = true
  ·have hfit := qGl (n.l.take i)
   simp [hq, tS, KT.fits, sV, hfit]
   rw [show (Value.string ⟨(n.l[i]).toArray⟩) = sV n.l[i] from rfl, q9q]
   by_cases hm : n.l[i] ∈ n.l.take i
   ·simp [hm]
    refine h5 ?_
    rw [← hR, if_pos (.inr hm)]
   ·rw [if_neg (by simp [hq, hm]), ht] at hR
    simp (disch := omega) [hm, sV, KT.fits, hfit, A4]
    rw [hK]
    have := q9r n hl ha R h0 h5 k (i + 1) (by omega) hR
    rw [show (Value.string ⟨(n.l[i]).toArray⟩) = sV n.l[i] from rfl, qBM _ _ hm, ht]
    exact_mod_cast this
  ·have hq' : q5Z n.l[i] = false := by simpa using hq
   simp [hq']
   refine h5 ?_
   rw [← hR, if_pos (.inl hq')]
theorem qEh (c : B5) (hc : CirOk c) (ha : ∀ s ∈ c.names.l, ∀ b ∈ s, b < 128) : A3 Tryz.prog Γ 135 [.agg (tC c)] (tI (J4 [] c.names.l)) := by
 refine A7 q5Y rfl ?_
 simp [Zi, tC, A5, A8, Ad, B1, A0]
 refine q9r c.names hc.names ha (J4 [] c.names.l) (fun h m => ?_) (fun h => ?_) c.names.l.length 0 (by omega) (by simp)
 ·simp [Q4, h]
 ·simp [Q4, h]
def Do : List Int → Int
 | [] => 0
 | e :: l => if e ≠ 0 then e else Do l
theorem q4d {α : Type} (f : α → Int) (l : List α) (i : Nat) (h : i < l.length) : Do ((l.drop i).map f) = if f l[i] ≠ 0 then f l[i] else Do ((l.drop (i + 1)).map f) := by
 rw [List.drop_eq_getElem_cons h]; rfl
theorem q8G {Q : AX → St → Prop} (hΓ : GOk Γ) (c : B5) (hc : CirOk c) (R : Int)
  (h0 : R = 0 → Q (.exit 1) ⟨[(1, .t (.ip (tC c) 0)), (36, .t (A5 c.nodes)), (37, .t (tI c.nodes.l.length)), (38, .t (tI c.nodes.l.length)), (39, .t (tB false))], []⟩)
  (h5 : R ≠ 0 → Q .ret ⟨[(2, .t (tI R))], []⟩) : ∀ (k i : Nat), k + i = c.nodes.l.length → Do ((c.nodes.l.drop i).map (Dq c)) = R →
  run Tryz.prog Γ Jh Q ⟨[(1, .t (.ip (tC c) 0)), (36, .t (A5 c.nodes)), (37, .t (tI c.nodes.l.length)), (38, .t (tI i))], []⟩
 | 0, i, h, hR => by
  refine Rb fun K hK => ?_
  have h2 : ¬ i < c.nodes.l.length := by omega
  have h3 : i = c.nodes.l.length := by omega
  simp [h2]
  subst h3
  exact h0 (by rw [← hR]; simp [Do])
 | k + 1, i, h, hR => by
  refine Rb fun K hK => ?_
  have h2 : i < c.nodes.l.length := by omega
  have hn := hc.nodes
  have hx := List.getElem_mem h2
  rw [q4d (Dq c) _ _ h2] at hR
  have e := qGh (Γ := Γ) hΓ c c.nodes.l[i] hc (hc.kind _ hx) (hc.inn _ hx)
  simp (disch := omega) [h2, A5, A9, E3 Nd.d, Bd, Dn, tC, B1]
  refine A1 e rfl ?_
  by_cases hq : Dq c c.nodes.l[i] = 0
  ·rw [if_neg (by simp [hq])] at hR
   simp (disch := omega) [hq, A4]
   rw [hK]
   have := q8G hΓ c hc R h0 h5 k (i + 1) (by omega) hR
   simpa [tC, A5, B1] using this
  ·rw [if_pos (by simpa using hq)] at hR
   simp [hq]
   rw [hR]
   exact h5 (by rw [← hR]; exact hq)
theorem q9s {Q : AX → St → Prop} (c : B5) (hc : CirOk c) (R : Int)
  (h0 : R = 0 → Q (.exit 3) ⟨[(1, .t (.ip (tC c) 0)), (55, .t (Ad c.mems)), (56, .t (tI c.mems.l.length)), (57, .t (tI c.mems.l.length)), (58, .t (tB false))], []⟩)
  (h5 : R ≠ 0 → Q .ret ⟨[(2, .t (tI R))], []⟩) : ∀ (k i : Nat), k + i = c.mems.l.length → Do ((c.mems.l.drop i).map (Oc c)) = R →
  run Tryz.prog Γ Ji Q ⟨[(1, .t (.ip (tC c) 0)), (55, .t (Ad c.mems)), (56, .t (tI c.mems.l.length)), (57, .t (tI i))], []⟩
 | 0, i, h, hR => by
  refine Re fun K hK => ?_
  have h2 : ¬ i < c.mems.l.length := by omega
  have h3 : i = c.mems.l.length := by omega
  simp [h2]
  subst h3
  exact h0 (by rw [← hR]; simp [Do])
 | k + 1, i, h, hR => by
  refine Re fun K hK => ?_
  have h2 : i < c.mems.l.length := by omega
  have hn := hc.mems
  have hx := List.getElem_mem h2
  rw [q4d (Oc c) _ _ h2] at hR
  have e := qDE (Γ := Γ) c c.mems.l[i] hc (hc.addr _ hx)
  simp (disch := omega) [h2, Ad, A9, E3 Mm.d, Q5, tMm, tC, B1]
  refine A1 e rfl ?_
  by_cases hq : Oc c c.mems.l[i] = 0
  ·rw [if_neg (by simp [hq])] at hR
   simp (disch := omega) [hq, A4]
   rw [hK]
   have := q9s c hc R h0 h5 k (i + 1) (by omega) hR
   simpa [tC, Ad, B1] using this
  ·rw [if_pos (by simpa using hq)] at hR
   simp [hq]
   rw [hR]
   exact h5 (by rw [← hR]; exact hq)
def Dx (c : B5) : Int :=
 if 16384 < c.nodes.l.length ∨ 16 < c.mems.l.length ∨ 16384 < c.outs.l.length then 3 else if c.names.l.length ≠ c.nodes.l.length then 8
 else if Do (c.nodes.l.map (Dq c)) ≠ 0 then Do (c.nodes.l.map (Dq c))
 else if J4 [] c.names.l ≠ 0 then J4 [] c.names.l
 else if Do (c.mems.l.map (Oc c)) ≠ 0 then Do (c.mems.l.map (Oc c))
 else if c.outs.l.any (Q6 c) = true then 1 else 0
theorem qEi (hΓ : GOk Γ) (c : B5) (hc : CirOk c) (ha : ∀ s ∈ c.names.l, ∀ b ∈ s, b < 128) : A3 Tryz.prog Γ 112 [.agg (tC c)] (tI (Dx c)) := by
 refine A7 q5X rfl ?_
 have hn := hc.nodes
 have hm := hc.mems
 have ho := hc.outs
 have hnn := hc.names
 have en := qEh (Γ := Γ) c hc ha
 have eo := Wz (Γ := Γ) c
 have ec := Zj (Γ := Γ) c hn c.outs.l c.outs.cap c.outs.nl ho
 by_cases h1 : 16384 < c.nodes.l.length ∨ 16 < c.mems.l.length ∨ 16384 < c.outs.l.length
 ·have : Dx c = 3 := by unfold Dx; rw [if_pos h1]
  rw [this]
  by_cases g1 : (16384 : Int) < c.nodes.l.length
  ·simp [Ep, Cc, tC, A5, A8, Ad, B1, A9, A0, g1]
  by_cases g2 : (16 : Int) < c.mems.l.length
  ·simp [Ep, Cc, tC, A5, A8, Ad, B1, A9, A0, g1, g2]
  have g3 : (16384 : Int) < c.outs.l.length := by omega
  simp [Ep, Cc, tC, A5, A8, Ad, B1, A9, A0, g1, g2, g3]
 have g1 : ¬ (16384 : Int) < c.nodes.l.length := by omega
 have g2 : ¬ (16 : Int) < c.mems.l.length := by omega
 have g3 : ¬ (16384 : Int) < c.outs.l.length := by omega
 by_cases h2 : c.names.l.length = c.nodes.l.length
 case neg =>
  have : Dx c = 8 := by unfold Dx; rw [if_neg h1, if_pos h2]
  have h2' : ¬ (c.names.l.length : Int) = c.nodes.l.length := by omega
  rw [this]
  simp [Ep, Cc, tC, A5, A8, Ad, B1, A9, A0, g1, g2, g3, h2']
 simp [Ep, tC, A5, A8, Ad, B1, A9, A0, g1, g2, g3, h2]
 have e0 : Dx c = if Do (c.nodes.l.map (Dq c)) ≠ 0 then Do (c.nodes.l.map (Dq c))
   else if J4 [] c.names.l ≠ 0 then J4 [] c.names.l
   else if Do (c.mems.l.map (Oc c)) ≠ 0 then Do (c.mems.l.map (Oc c))
   else if c.outs.l.any (Q6 c) = true then 1 else 0 := by
  unfold Dx; rw [if_neg h1, if_neg (by simp [h2])]
 refine q8G hΓ c hc (Do (c.nodes.l.map (Dq c))) (fun h3 => ?_) (fun h3 => ?_) c.nodes.l.length 0 (by omega) (by simp)
 case refine_2 =>
  rw [if_pos h3] at e0
  simp [Cc, e0]
 rw [if_neg (by rw [h3]; decide)] at e0
 simp [tC, A5, A8, Ad, B1]
 refine A1 en rfl ?_
 by_cases h4 : J4 [] c.names.l = 0
 case neg =>
  rw [if_pos h4] at e0
  simp [h4, Cc, e0]
 rw [if_neg (by rw [h4]; decide)] at e0
 simp [h4, A9]
 refine q9s c hc (Do (c.mems.l.map (Oc c))) (fun h5 => ?_) (fun h5 => ?_) c.mems.l.length 0 (by omega) (by simp)
 case refine_2 =>
  rw [if_pos h5] at e0
  simp [Cc, e0]
 rw [if_neg (by rw [h5]; decide)] at e0
 simp [tC, A5, A8, Ad, B1]
 refine Aa eo rfl ?_
 simp
 refine A1 ec rfl ?_
 generalize c.outs.l.any (Q6 c) = b at e0
 cases b <;> simp [Cc, e0]
def Qs (ks : List Int) : List Nd → Nat → List Int
 | [], _ => []
 | x :: l, i => if ks.contains x.k then (i : Int) :: Qs ks l (i + 1) else Qs ks l (i + 1)
theorem q9A (ks : List Int) : ∀ (a b : List Nd) (i : Nat), Qs ks (a ++ b) i = Qs ks a i ++ Qs ks b (i + a.length)
 | [], b, i => by simp [Qs]
 | x :: a, b, i => by
  have := q9A ks a b (i + 1)
  simp only [List.cons_append, Qs, this, List.length_cons]
  split <;> simp [Nat.add_assoc, Nat.add_comm 1]
theorem X3 (ks : List Int) : ∀ (a : List Nd) (i : Nat), (Qs ks a i).length ≤ a.length
 | [], _ => by simp [Qs]
 | x :: a, i => by
  have := X3 ks a (i + 1)
  simp only [Qs]
  split <;> simp <;> omega
theorem qFe {Q : AX → St → Prop} (n : Sl Nd) (hl : n.l.length ≤ 1000000000) (ks : List Int) (kc : Option Nat) (kn : Option Bool) (hk : ks.length ≤ 1000000000)
  (h0 : Q (.exit 0) ⟨[(1, .t (.sl (Ab tK ks) kc kn)), (5, .ls 23 0 (Qs ks n.l 0).length none), (9, .t (A5 n)), (10, .t (tI n.l.length)), (11, .t (tI n.l.length)), (12, .t (tB false))], [(23, .sl 3 1 (Av (Qs ks n.l 0)))]⟩) : ∀ (k i : Nat), k + i = n.l.length →
  run Tryz.prog Γ Px Q ⟨[(1, .t (.sl (Ab tK ks) kc kn)), (5, .ls 23 0 (Qs ks (n.l.take i) 0).length none), (9, .t (A5 n)), (10, .t (tI n.l.length)), (11, .t (tI i))], [(23, .sl 3 1 (Av (Qs ks (n.l.take i) 0)))]⟩
 | 0, i, h => by
  refine Xo fun K hK => ?_
  have h2 : ¬ i < n.l.length := by omega
  have h3 : i = n.l.length := by omega
  simp [h2]
  subst h3
  simpa using h0
 | k + 1, i, h => by
  refine Xo fun K hK => ?_
  have h2 : i < n.l.length := by omega
  have ht : n.l.take (i + 1) = n.l.take i ++ [n.l[i]] := by rw [List.take_add_one]; simp [h2]
  have hlen := X3 ks (n.l.take i) 0
  have htl : (n.l.take i).length = i := by simp; omega
  have hal : Qs ks (n.l.take (i + 1)) 0 = if ks.contains n.l[i].k then Qs ks (n.l.take i) 0 ++ [(i : Int)] else Qs ks (n.l.take i) 0 := by
   rw [ht, q9A, htl]
   simp only [Qs, Nat.zero_add]
   split <;> simp
  have e := qAn (Γ := Γ) ks kc kn n.l[i].k hk
  simp (disch := omega) [h2, A5, A9, E3 Nd.d, Bd, Dn, B1]
  refine A1 e rfl ?_
  generalize ks.contains n.l[i].k = b at hal
  have ih := qFe n hl ks kc kn hk h0 k (i + 1) (by omega)
  rw [hal] at ih
  cases b with
  | false =>
   simp (disch := omega) [A4]
   rw [hK]
   simpa [A5] using ih
  | true =>
   have hw : Ce 1 [[tI (i : Int)]] := by intro e he; simp at he; subst he; rfl
   simp (disch := omega) [A4, A0, A6, hw]
   rw [hK]
   simp [A5] at ih
   rw [Bf (f := tI) (x := (i : Int))]
   exact ⟨by omega, ih⟩
theorem qJl (c : B5) (hc : CirOk c) (ks : List Int) (kc : Option Nat) (kn : Option Bool) (hk : ks.length ≤ 1000000000) :
  A3 Tryz.prog Γ 66 [.agg (tC c), .sl (Ab tK ks) kc kn] (.sl (Av (Qs ks c.nodes.l 0)) (some (Qs ks c.nodes.l 0).length) none) := by
 refine A7 q8l rfl ?_
 simp [q33, tC, A5, A8, Ad, B1, A9]
 refine qFe c.nodes hc.nodes ks kc kn hk ?_ c.nodes.l.length 0 (by omega)
 simp
 refine ⟨_, _, qEc 3 (Av (Qs ks c.nodes.l 0)) (Qs ks c.nodes.l 0).length none A6, ?_⟩
 simp [q34]
abbrev Nc := List (Int × Int)
def tLn (p : Int × Int) : List T := [tI p.1, tI p.2]
def q9t (i : Nat) (r : Nc) : AV := if r = [] then .t (.sl [] (some 0) (some true)) else .ls (100000 + i) 0 r.length none
def Cf (rows : List Nc) : List AV := rows.mapIdx q9t
def Kw (rows : List Nc) (id : Nat) : Option B7 := match rows[id - 100000]? with
 | some r => if r = [] then none else some (.sl 165 2 (An tLn r))
 | none => none
def Kx (k : Nat) (g : Nat → Option B7) : List (Nat × B7) := (List.range' 100000 k).filterMap fun id => (g id).map fun r => (id, r)
def D6 (rows : List Nc) : List (Nat × B7) := Kx 16384 (Kw rows)
theorem q9u {α β : Type} {f g : α → Option β} : ∀ {l : List α}, (∀ x ∈ l, f x = g x) → l.filterMap f = l.filterMap g
 | [], _ => rfl
 | x :: l, h => by
  rw [List.filterMap_cons, List.filterMap_cons, h x List.mem_cons_self, q9u (l := l) fun y hy => h y (List.mem_cons_of_mem _ hy)]
theorem qJm {l : List Nat} {g : Nat → Option B7} {t : Nat} : A2 (l.filterMap fun id => (g id).map fun r => (id, r)) t = if t ∈ l then g t else none := by
 induction l with
 | nil => simp [A2]
 | cons k l ih =>
  rw [List.filterMap_cons]
  cases hg : g k with
  | none =>
   simp only [Option.map_none, ih]
   by_cases h : t = k
   ·subst h; simp [hg]
   ·simp [h]
  | some r =>
   simp only [Option.map_some, A2, ih]
   by_cases h : k = t
   ·subst h; simp [hg]
   ·simp [h, Ne.symm h]
theorem Oe {k : Nat} {g : Nat → Option B7} {t : Nat} : A2 (Kx k g) t = if 100000 ≤ t ∧ t < 100000 + k then g t else none := by
 unfold Kx; rw [qJm]
 by_cases h : 100000 ≤ t ∧ t < 100000 + k
 ·rw [if_pos h, if_pos (by rw [List.mem_range'_1]; exact h)]
 ·rw [if_neg h, if_neg (by rw [List.mem_range'_1]; exact h)]
theorem qBN {rows : List Nc} {l : List (Nat × B7)} (h : ∀ t ∈ List.range' 100000 16384, A2 l t = Kw rows t) : Lg.keep (List.range' 100000 16384) l = D6 rows := by
 unfold Lg.keep D6 Kx
 exact q9u fun t ht => by rw [h t ht]
theorem q7e {env : List (Nat × AV)} {hp : List (Nat × B7)} {ks : List Nat} {rows : List Nc} (hk : (hp.map (·.1)).filter (fun id => !([14] : List Nat).contains id && !(decide (100000 ≤ id) && decide (id < 100000 + 16384))) = [])
  (h14 : A2 hp 14 = some (.bx (Cf rows))) (hr : ∀ t, 100000 ≤ t → t < 116384 → A2 hp t = Kw rows t) :
  Gh.run (.keepB ks [14] 100000 16384) ⟨env, hp⟩ = ⟨Lg.keep ks env, (14, .bx (Cf rows)) :: D6 rows⟩ := by
 simp only [Gh.run, q98, hk, Il, q7b, h14, q9k, List.cons_append, List.nil_append]
 congr 2
 simp only [Lg.keep, D6, Kx]
 refine q9u fun t ht => ?_
 rw [List.mem_range'_1] at ht
 rw [hr t ht.1 (by omega)]
theorem q14 {k : Nat} {g : Nat → Option B7} : ∀ p ∈ Kx k g, 100000 ≤ p.1 ∧ p.1 < 100000 + k := by
 intro p hp
 obtain ⟨id, hid, he⟩ := List.mem_filterMap.1 hp
 rw [List.mem_range'_1] at hid
 cases hg : g id with
 | none => rw [hg] at he; cases he
 | some r => rw [hg] at he; simp at he; subst he; exact hid
theorem q8H {rows : List Nc} : ((D6 rows).map (·.1)).filter (fun id => !([14] : List Nat).contains id && !(decide (100000 ≤ id) && decide (id < 100000 + 16384))) = [] := by
 rw [List.filter_eq_nil_iff]
 intro id hid
 obtain ⟨p, hp, rfl⟩ := List.mem_map.1 hid
 have := q14 p hp
 simp [this.1, this.2]
theorem q49 {rows : List Nc} {t : Nat} : A2 ((14, .bx (Cf rows)) :: D6 rows) t = if t = 14 then some (.bx (Cf rows)) else if 100000 ≤ t ∧ t < 116384 then Kw rows t else none := by
 simp only [A2, D6, Oe]
 by_cases h : t = 14
 ·simp [h]
 ·simp [h, Ne.symm h]
theorem X5 {env : List (Nat × AV)} {ks : List Nat} {rows : List Nc} : Gh.run (.keepB ks [14] 100000 16384) ⟨env, (14, .bx (Cf rows)) :: D6 rows⟩ = ⟨Lg.keep ks env, (14, .bx (Cf rows)) :: D6 rows⟩ := by
 refine q7e ?_ (by simp [A2]) fun t h1 h2 => ?_
 ·rw [List.map_cons, List.filter_cons]; simp only [q8H]; simp
 ·rw [q49, if_neg (by omega), if_pos ⟨h1, h2⟩]
theorem qCD {id : Nat} (h : id < 100000) (rows : List Nc) : (Cf rows).map (Aw id) = Cf rows := by
 apply List.ext_getElem?
 intro i
 simp only [Cf, List.getElem?_map, List.getElem?_mapIdx, Option.map_map]
 cases rows[i]? with
 | none => rfl
 | some r =>
  simp only [Option.map_some, Function.comp_def, q9t]
  split
  ·rfl
  ·simp only [Aw, kill1]; rw [if_neg (by omega)]
theorem qJn {env : List (Nat × AV)} {ks : List Nat} {rows : List Nc} {q : B7} : Gh.run (.keepB ks [14] 100000 16384) ⟨env, (6, q) :: (14, .bx (Cf rows)) :: D6 rows⟩ = ⟨(Lg.keep ks env).map (fun p => (p.1, Aw 6 p.2)), (14, .bx (Cf rows)) :: D6 rows⟩ := by
 have hk : (((6, q) :: (14, B7.bx (Cf rows)) :: D6 rows).map (·.1)).filter (fun id => !([14] : List Nat).contains id && !(decide (100000 ≤ id) && decide (id < 100000 + 16384))) = [6] := by
  rw [List.map_cons, List.map_cons, List.filter_cons, List.filter_cons]; simp only [q8H]; simp
 have hl : ∀ t, t ≠ 6 → A2 (St.kill 6 ⟨Lg.keep ks env, (6, q) :: (14, .bx (Cf rows)) :: D6 rows⟩).hp t = A2 ((14, .bx (Cf rows)) :: D6 rows) t := by
  intro t ht
  rw [Xh, if_neg ht]
  show (A2 ((6, q) :: (14, .bx (Cf rows)) :: D6 rows) t).map _ = _
  rw [A2, if_neg (Ne.symm ht), q49]
  by_cases h : t = 14
  ·simp [h, Hj, qCD]
  ·simp only [h, ↓reduceIte]
   split
   ·unfold Kw
    split
    ·split <;> simp [Hj]
    ·rfl
   ·rfl
 simp only [Gh.run, q98, hk, Il, q7b, q9k, List.cons_append, List.nil_append]
 rw [hl 14 (by omega)]
 simp only [A2, ↓reduceIte, List.cons_append, List.nil_append]
 congr 2
 refine qBN fun t ht => ?_
 rw [List.mem_range'_1] at ht
 rw [hl t (by omega), q49, if_neg (by omega), if_pos ⟨ht.1, by omega⟩]
def Hw (rows : List Nc) (n : Nat) (p : Int × Int) : List Nc := rows.set n (rows.getD n [] ++ [p])
theorem q5a {rows : List Nc} {n : Nat} {p : Int × Int} : (Hw rows n p).length = rows.length := by simp [Hw]
theorem qGm {env : List (Nat × AV)} {ks : List Nat} {rows : List Nc} {n : Nat} {p : Int × Int} {hp : List (Nat × B7)} {cs : List AV} (hn : n < rows.length) (hn2 : rows.length ≤ 16384)
  (hlen : cs.length = rows.length) (hcs : ∀ i, i ≠ n → cs[i]? = (Cf rows)[i]?) (hc : cs[n]? = some (.ls 47 0 ((rows.getD n []).length + 1) none)) (h47 : A2 hp 47 = some (.sl 165 2 (An tLn (rows.getD n [] ++ [p])))) (h14 : A2 hp 14 = some (.bx cs))
  (hno : A2 hp (100000 + n) = none) (hoth : ∀ t, 100000 ≤ t → t < 116384 → t ≠ 100000 + n → A2 hp t = Kw rows t) (hkeys : ∀ q ∈ hp, q.1 = 47 ∨ q.1 = 14 ∨ (100000 ≤ q.1 ∧ q.1 < 116384)) :
  Gh.run (.keepB ks [14] 100000 16384) (q0u 47 (100000 + n) ⟨env, hp⟩) = ⟨(Lg.keep ks (env.map fun q => (q.1, Bc (Hu 47 (100000 + n)) q.2))), (14, .bx (Cf (Hw rows n p))) :: D6 (Hw rows n p)⟩ := by
 have hr : q0u 47 (100000 + n) ⟨env, hp⟩ = ⟨env.map fun q => (q.1, Bc (Hu 47 (100000 + n)) q.2), Zc 47 (100000 + n) hp⟩ := by
  unfold q0u
  rw [if_pos]
  simp [hno, h47]; omega
 rw [hr]
 have hget : ∀ i, (Hw rows n p)[i]? = if i = n then some (rows.getD n [] ++ [p]) else rows[i]? := by
  intro i
  unfold Hw
  rw [List.getElem?_set]
  by_cases h : n = i
  ·subst h; simp [hn]
  ·simp [h, Ne.symm h]
 have hl := fun t => q5U (a := 47) (b := 100000 + n) (t := t) hno (by omega)
 refine q7e ?_ ?_ fun t h1 h2 => ?_
 ·rw [List.filter_eq_nil_iff]
  intro id hid
  have : id = 100000 + n ∨ id ≠ 47 ∧ ∃ q ∈ hp, q.1 = id := by
   clear hl hr hno hoth h14 h47
   induction hp with
   | nil => simp [Zc] at hid
   | cons q l ih =>
    obtain ⟨k, r⟩ := q
    simp only [Zc, List.map_cons, List.mem_cons] at hid
    rcases hid with hid | hid
    ·by_cases h : k = 47
     ·left; simpa [h] using hid
     ·right; simp [h] at hid; subst hid; exact ⟨h, _, List.mem_cons_self, rfl⟩
    ·rcases ih (fun q hq => hkeys q (List.mem_cons_of_mem _ hq)) hid with h | ⟨h, q, hq, e⟩
     ·exact .inl h
     ·exact .inr ⟨h, q, List.mem_cons_of_mem _ hq, e⟩
  rcases this with h | ⟨h, q, hq, rfl⟩
  ·subst h; simp; intro _; omega
  ·rcases hkeys q hq with e | e | ⟨e1, e2⟩
   ·exact absurd e h
   ·simp [e]
   ·simp; intro _; omega
 ·rw [hl, if_neg (by omega), if_neg (by omega), h14]
  simp only [Option.map_some, D3, Option.some.injEq, B7.bx.injEq]
  apply List.ext_getElem?
  intro i
  simp only [List.getElem?_map, Cf, List.getElem?_mapIdx]
  rw [hget]
  by_cases h : i = n
  ·subst h
   rw [hc]
   have : ¬ (rows.getD i [] ++ [p] = []) := by simp
   simp only [↓reduceIte, Option.map_some, Option.some.injEq]
   unfold q9t
   rw [if_neg this]
   simp [Bc, ren1, ren0, Hu]
  ·rw [hcs i h, if_neg h]
   simp only [Cf, List.getElem?_mapIdx, Option.map_map]
   cases hrow : rows[i]? with
   | none => rfl
   | some r =>
    simp only [Option.map_some, Function.comp_def, q9t, Option.some.injEq]
    split
    ·rfl
    ·simp only [Bc, ren1, ren0, Hu]; rw [if_neg (by omega)]
 ·rw [hl]
  by_cases h : t = 100000 + n
  ·rw [if_pos h, h47]
   subst h
   unfold Kw
   rw [show 100000 + n - 100000 = n by omega, hget, if_pos rfl]
   simp [D3]
  ·rw [if_neg h, if_neg (by omega), hoth t h1 h2 h]
   unfold Kw
   rw [hget, if_neg (by omega)]
   cases rows[t - 100000]? with
   | none => rfl
   | some r => simp only; split <;> simp [D3]
def q7f (k i : Nat) (r : Nc) : AV := if r = [] then .t (.sl [] (some 0) (some true)) else if k ≤ i then .t (.sl (An tLn r) none none) else .ls (100000 + i) 0 r.length none
theorem qI1 {env : List (Nat × AV)} {rows : List Nc} (he : ∀ id r, 100000 ≤ id → ∀ p ∈ env, Bi id r p.2 = p.2) (k : Nat) : St.freeze (100000 + k) ⟨env, (14, .bx (rows.mapIdx (q7f (k + 1)))) :: Kx (k + 1) (Kw rows)⟩ = ⟨env, (14, .bx (rows.mapIdx (q7f k))) :: Kx k (Kw rows)⟩ := by
 have hsplit : Kx (k + 1) (Kw rows) = Kx k (Kw rows) ++ (match Kw rows (100000 + k) with | some r => [(100000 + k, r)] | none => []) := by
  unfold Kx
  rw [← List.range'_append (s := 100000) (m := k) (n := 1) (step := 1)]
  rw [List.filterMap_append]
  congr 1
  cases hr : Kw rows (100000 + k) <;> simp [hr]
 have hl : A2 ((14, B7.bx (rows.mapIdx (q7f (k + 1)))) :: Kx (k + 1) (Kw rows)) (100000 + k) = Kw rows (100000 + k) := by
  rw [A2, if_neg (by omega), Oe, if_pos (by omega)]
 simp only [St.freeze, hl]
 cases hr : Kw rows (100000 + k) with
 | none =>
  rw [hr] at hsplit
  simp only [hsplit, List.append_nil]
  refine congrArg (fun l => (⟨env, (14, B7.bx l) :: Kx k (Kw rows)⟩ : St)) ?_
  apply List.ext_getElem?
  intro i
  simp only [List.getElem?_mapIdx]
  cases hi : rows[i]? with
  | none => rfl
  | some r =>
   simp only [Option.map_some, q7f]
   by_cases h0 : r = []
   ·simp [h0]
   ·by_cases hik : i = k
    ·subst hik
     unfold Kw at hr
     rw [show 100000 + i - 100000 = i by omega, hi] at hr
     simp [h0] at hr
    ·have : (k + 1 ≤ i) = (k ≤ i) := by apply propext; omega
     simp [this]
 | some q =>
  obtain ⟨r, hrow, hne, rfl⟩ : ∃ r, rows[k]? = some r ∧ r ≠ [] ∧ q = .sl 165 2 (An tLn r) := by
   unfold Kw at hr
   rw [show 100000 + k - 100000 = k by omega] at hr
   split at hr
   ·rename_i r h
    split at hr
    ·cases hr
    ·rename_i hne; simp only [Option.some.injEq] at hr; exact ⟨r, h, hne, hr.symm⟩
   ·cases hr
  rw [hr] at hsplit
  simp only [B7.closed, ↓reduceIte]
  have e1 : env.map (fun p => (p.1, Bi (100000 + k) (.sl 165 2 (An tLn r)) p.2)) = env := by
   conv => rhs; rw [← List.map_id env]
   refine List.map_congr_left fun p hp => ?_
   rw [he _ _ (by omega) p hp]; rfl
  have e2 : del (100000 + k) ((14, B7.bx (rows.mapIdx (q7f (k + 1)))) :: Kx (k + 1) (Kw rows)) = (14, B7.bx (rows.mapIdx (q7f (k + 1)))) :: Kx k (Kw rows) := by
   rw [hsplit]
   unfold del
   rw [List.filter_cons, if_pos (by simp; omega), List.filter_append]
   congr 1
   have h1 : (Kx k (Kw rows)).filter (fun p => p.1 != 100000 + k) = Kx k (Kw rows) := by
    rw [List.filter_eq_self]
    intro p hp
    have := q14 p hp
    simp; omega
   rw [h1]; simp
  rw [e1, e2]
  have e3 : (Kx k (Kw rows)).map (fun p => (p.1, E1 (100000 + k) (.sl 165 2 (An tLn r)) p.2)) = Kx k (Kw rows) := by
   conv => rhs; rw [← List.map_id (Kx k (Kw rows))]
   refine List.map_congr_left fun p hp => ?_
   obtain ⟨id, hid, hee⟩ := List.mem_filterMap.1 hp
   cases hg : Kw rows id with
   | none => rw [hg] at hee; cases hee
   | some q =>
    rw [hg] at hee
    simp only [Option.map_some, Option.some.injEq] at hee; subst hee
    unfold Kw at hg
    split at hg
    ·split at hg
     ·cases hg
     ·simp only [Option.some.injEq] at hg; subst hg; rfl
    ·cases hg
  rw [List.map_cons, e3]
  refine congrArg (fun l => (⟨env, (14, B7.bx l) :: Kx k (Kw rows)⟩ : St)) ?_
  apply List.ext_getElem?
  intro i
  simp only [List.getElem?_map, List.getElem?_mapIdx, Option.map_map]
  cases hi : rows[i]? with
  | none => rfl
  | some r' =>
   simp only [Option.map_some, Function.comp_def, q7f]
   by_cases h0 : r' = []
   ·simp [h0, Bi, frz1, frz0]
   ·simp only [h0, ↓reduceIte]
    by_cases hik : i = k
    ·subst hik
     rw [hrow] at hi; cases hi
     rw [if_neg (by omega), if_pos (Nat.le_refl _)]
     simp [Bi, frz1, frz0, Ah, A2]
    ·by_cases hlt : k + 1 ≤ i
     ·rw [if_pos hlt, if_pos (by omega)]; rfl
     ·rw [if_neg hlt, if_neg (by omega)]
      simp only [Bi, frz1, frz0]
      rw [if_neg (by omega)]
theorem qFf {env : List (Nat × AV)} {rows : List Nc} (he : ∀ id r, 100000 ≤ id → ∀ p ∈ env, Bi id r p.2 = p.2) : ∀ k, qEY 100000 k ⟨env, (14, .bx (rows.mapIdx (q7f k))) :: Kx k (Kw rows)⟩ = ⟨env, (14, .bx (rows.mapIdx (q7f 0))) :: []⟩
 | 0 => by simp [qEY, Kx]
 | k + 1 => by
  rw [qEY, qI1 he k]
  exact qFf he k
def qAp (r : Nc) : T := if r = [] then .sl [] (some 0) (some true) else .sl (An tLn r) none none
theorem qI2 {env : List (Nat × AV)} {rows : List Nc} (hl : rows.length ≤ 16384) (he : ∀ id r, 100000 ≤ id → ∀ p ∈ env, Bi id r p.2 = p.2) : Gh.run (.frzs 100000 16384) ⟨env, (14, .bx (Cf rows)) :: D6 rows⟩ = ⟨env, [(14, .bx (rows.map fun r => .t (qAp r)))]⟩ := by
 have h1 : Cf rows = rows.mapIdx (q7f 16384) := by
  apply List.ext_getElem?
  intro i
  simp only [Cf, List.getElem?_mapIdx]
  cases hi : rows[i]? with
  | none => rfl
  | some r =>
   have := (List.getElem?_eq_some_iff.1 hi).1
   simp only [Option.map_some, q9t, q7f]
   rw [if_neg (show ¬ 16384 ≤ i by omega)]
 have h2 : rows.mapIdx (q7f 0) = rows.map fun r => .t (qAp r) := by
  apply List.ext_getElem?
  intro i
  simp only [List.getElem?_mapIdx, List.getElem?_map]
  cases rows[i]? with
  | none => rfl
  | some r =>
   simp only [Option.map_some, q7f, qAp, Nat.zero_le, ↓reduceIte]
   split <;> rfl
 have := qFf (rows := rows) he 16384
 rw [h2] at this
 simp only [Gh.run, h1, D6]
 exact this
theorem Ss {rows : List Nc} : (Cf rows).length = rows.length := by simp [Cf]
theorem qI3 {rows : List Nc} {n : Nat} (h : n < rows.length) : ((Cf rows).drop n).take 1 = [q9t n (rows.getD n [])] := by
 have : (Cf rows).drop n = q9t n (rows.getD n []) :: (Cf rows).drop (n + 1) := by
  rw [List.drop_eq_getElem_cons (by rw [Ss]; exact h)]
  simp [Cf, h]
 rw [this]; rfl
theorem qCE {l : Nc} : Ce 2 (An tLn l) := Xn fun _ => rfl
theorem qLq {Q : AX → St → Prop} (rows : List Nc) (n : Nat) (hn : n < rows.length) (hn2 : rows.length ≤ 16384) (i k : Int) (hr : (rows.getD n []).length ≤ 1000000000) (t4 t18 t19 t20 t26 t27 t28 t36 : T) (m : Nat) (hm : m = rows.length)
  (h : Q .normal ⟨[(3, .lb 14 m), (4, .t t4), (5, .t (tI i)), (18, .t t18), (19, .t t19), (20, .t t20), (26, .t t26), (27, .t t27), (28, .t t28)], (14, .bx (Cf (Hw rows n (i, k)))) :: D6 (Hw rows n (i, k))⟩) :
  Gp Tryz.prog Γ E7 ⟨[(3, .lb 14 m), (4, .t t4), (5, .t (tI i)), (7, .t (tI k)), (8, .t (tI n)), (18, .t t18), (19, .t t19), (20, .t t20), (26, .t t26), (27, .t t27), (28, .t t28), (36, .t t36)], (14, .bx (Cf rows)) :: D6 rows⟩
   (fun s1 => Q .normal (ghs [.renS 47 100000 8, .keepB [3, 4, 5, 18, 19, 20, 26, 27, 28] [14] 100000 16384] s1)) ⟨⟩ := by
 subst hm
 have hw : Ce 2 [[tI i, tI k]] := by intro e he; simp at he; subst he; rfl
 have hlk47 : A2 (D6 rows) 47 = none := by rw [D6, Oe, if_neg (by omega)]
 have hat := qI3 hn
 have hlk : A2 (D6 rows) (100000 + n) = if rows.getD n [] = [] then none else some (.sl 165 2 (An tLn (rows.getD n []))) := by
  rw [D6, Oe, if_pos (by omega)]
  unfold Kw
  rw [show 100000 + n - 100000 = n by omega, List.getElem?_eq_getElem hn]
  simp [hn]
 have hadd : Hw rows n (i, k) = rows.set n (rows.getD n [] ++ [(i, k)]) := rfl
 have fin := @qGm
 generalize hrow : rows.getD n [] = row at hr hat hlk hadd
 have hlen1 : n + 1 ≤ rows.length := hn
 have hset : ∀ (j : Nat), j ≠ n → ∀ (l : List AV) (x : AV), l.length = rows.length → (l.take n ++ x :: l.drop (n + 1))[j]? = l[j]? := by
  intro j hj l x hl
  rw [List.getElem?_append]
  by_cases hlt : j < n
  ·rw [if_pos (by simp; omega), List.getElem?_take, if_pos hlt]
  ·rw [if_neg (by simp; omega)]
   have e : (l.take n).length = n := by simp; omega
   rw [e, show j - n = (j - n - 1) + 1 by omega, List.getElem?_cons_succ, List.getElem?_drop]
   congr 1; omega
 have hseta : ∀ (l : List AV) (x : AV), l.length = rows.length → (l.take n ++ x :: l.drop (n + 1))[n]? = some x := by
  intro l x hl
  rw [List.getElem?_append, if_neg (by simp; omega)]
  have e : (l.take n).length = n := by simp; omega
  rw [e]; simp
 by_cases h0 : row = []
 ·subst h0
  simp only [q9t, ↓reduceIte] at hat hlk
  simp (disch := omega) [-Gh.run, Fz, hat, Ss, hn, hw, hlk47, hlen1]
  rw [show ∀ st, A2 st.env 8 = some (.t (tI n)) → (Gh.renS 47 100000 8).run st = q0u 47 (100000 + n) st from fun st hs => by simp [Gh.run, hs]]
  rw [fin (p := (i, k)) hn hn2 (by simp [Ss]; omega) (fun j hj => hset j hj _ _ Ss) (by rw [hseta _ _ Ss, hrow]; first | done | rfl) (by rw [hrow]; first | done | rfl) (by simp [A2]) (by rw [A2, if_neg (by omega), A2, if_neg (by omega)]; exact hlk) (fun t h1 h2 h3 => ?_) (fun q hq => ?_)]
  ·simpa [Bc, ren1, ren0, Hu] using h
  ·rw [A2, if_neg (by omega), A2, if_neg (by omega), D6, Oe, if_pos (by omega)]
  ·rcases List.mem_cons.1 hq with rfl | hq
   ·exact .inl rfl
   ·rcases List.mem_cons.1 hq with rfl | hq
    ·exact .inr (.inl rfl)
    ·have := q14 q hq; exact .inr (.inr (by omega))
  ·rfl
 ·simp only [q9t, h0, ↓reduceIte] at hat hlk
  have h14 : ¬ 14 = 100000 + n := by omega
  have htl : ∀ t, A2 ((D6 rows).filter fun p => p.1 != 100000 + n) t = if t = 100000 + n then none else A2 (D6 rows) t := fun t => q6D (100000 + n) (D6 rows) t
  have hkl : ∀ l : List (Nat × B7), (∀ p ∈ l, p ∈ D6 rows) → l.map (fun p => (p.1, Hj (100000 + n) p.2)) = l := by
   intro l hl
   conv => rhs; rw [← List.map_id l]
   refine List.map_congr_left fun p hp => ?_
   obtain ⟨id, hid, hee⟩ := List.mem_filterMap.1 (hl p hp)
   cases hg : Kw rows id with
   | none => rw [hg] at hee; cases hee
   | some q =>
    rw [hg] at hee
    simp only [Option.map_some, Option.some.injEq] at hee; subst hee
    unfold Kw at hg
    split at hg
    ·split at hg
     ·cases hg
     ·simp only [Option.some.injEq] at hg; subst hg; rfl
    ·cases hg
  have hk : (del (100000 + n) ((14, B7.bx (Cf rows)) :: D6 rows)).map (fun p => (p.1, Hj (100000 + n) p.2)) = (14, .bx ((Cf rows).map (Aw (100000 + n)))) :: (D6 rows).filter fun p => p.1 != 100000 + n := by
   have e : del (100000 + n) ((14, B7.bx (Cf rows)) :: D6 rows) = (14, B7.bx (Cf rows)) :: (D6 rows).filter fun p => p.1 != 100000 + n := by
    unfold del
    rw [List.filter_cons, if_pos (by simp; omega)]
   rw [e, List.map_cons, hkl _ (fun p hp => (List.mem_filter.1 hp).1)]
   rfl
  have hl47 : A2 ((D6 rows).filter fun p => p.1 != 100000 + n) 47 = none := by rw [htl, if_neg (by omega)]; exact hlk47
  generalize htail : (D6 rows).filter (fun p => p.1 != 100000 + n) = tl at htl hk hl47
  have hkeys : ∀ q ∈ tl, 100000 ≤ q.1 ∧ q.1 < 116384 := by
   intro q hq
   rw [← htail] at hq
   have := q14 q (List.mem_filter.1 hq).1
   omega
  have hcs : ∀ j, j ≠ n → ((Cf rows).map (Aw (100000 + n)))[j]? = (Cf rows)[j]? := by
   intro j hj
   simp only [Cf, List.getElem?_map, List.getElem?_mapIdx, Option.map_map]
   cases rows[j]? with
   | none => rfl
   | some r =>
    simp only [Option.map_some, Function.comp_def, q9t]
    split
    ·rfl
    ·simp only [Aw, kill1]; rw [if_neg (by omega)]
  have hcl : ((Cf rows).map (Aw (100000 + n))).length = rows.length := by simp [Ss]
  simp (disch := omega) [-Gh.run, Fz, -del, -Hj, hat, Ss, hn, hw, hlk, hlen1, A9, qCE, h14, hk, hl47]
  refine ⟨by omega, ?_⟩
  rw [show ∀ st, A2 st.env 8 = some (.t (tI n)) → (Gh.renS 47 100000 8).run st = q0u 47 (100000 + n) st from fun st hs => by simp [Gh.run, hs]]
  ·rw [fin (p := (i, k)) hn hn2 (by simp [hcl]; omega) (fun j hj => (hset j hj _ _ hcl).trans (hcs j hj)) (by rw [hseta _ _ hcl, hrow]) (by rw [hrow]; simp [A2]; rw [show [tI i, tI k] = tLn (i, k) from rfl, q0y]) (by simp [A2]) (by rw [A2, if_neg (by omega), A2, if_neg (by omega), htl, if_pos rfl]) (fun t h1 h2 h3 => ?_) (fun q hq => ?_)]
   ·simpa [Bc, ren1, ren0, Hu] using h
   ·rw [A2, if_neg (by omega), A2, if_neg (by omega), htl, if_neg h3, D6, Oe, if_pos (by omega)]
   ·rcases List.mem_cons.1 hq with rfl | hq
    ·exact .inl rfl
    ·rcases List.mem_cons.1 hq with rfl | hq
     ·exact .inr (.inl rfl)
     ·exact .inr (.inr (hkeys q hq))
  ·rfl
def Jl (c : B5) (i : Nat) : List Int → Nat → List Nc → List Nc
 | [], _, rows => rows
 | n :: l, k, rows => Jl c i l (k + 1) (if Q6 c n then rows else Hw rows n.toNat (i, k))
def H2 (c : B5) : List Nd → Nat → List Nc → List Nc
 | [], _, rows => rows
 | x :: l, i, rows => H2 c l (i + 1) (Jl c i x.inn.l 0 rows)
def RB (rows : List Nc) (B : Nat) : Prop := ∀ r ∈ rows, r.length ≤ B
theorem RB.add {rows : List Nc} {B n : Nat} {p : Int × Int} (h : RB rows B) : RB (Hw rows n p) (B + 1) := by
 intro r hr
 unfold Hw at hr
 by_cases hn : n < rows.length
 ·rcases List.mem_or_eq_of_mem_set hr with hr | rfl
  ·have := h r hr; omega
  ·have : (rows.getD n []).length ≤ B := by
    have e : rows.getD n [] = rows[n] := by simp [hn]
    rw [e]; exact h _ (List.getElem_mem hn)
   simp at this ⊢; omega
 ·rw [List.set_eq_of_length_le (by omega)] at hr
  have := h r hr; omega
theorem RB.mono {rows : List Nc} {B C : Nat} (h : RB rows B) (hc : B ≤ C) : RB rows C := fun r hr => Nat.le_trans (h r hr) hc
theorem RB.at {rows : List Nc} {B : Nat} (h : RB rows B) (n : Nat) : (rows.getD n []).length ≤ B := by
 by_cases hn : n < rows.length
 ·have e : rows.getD n [] = rows[n] := by simp [hn]
  rw [e]; exact h _ (List.getElem_mem hn)
 ·simp [List.getD, List.getElem?_eq_none (Nat.not_lt.1 hn)]
theorem Y6 (c : B5) (i : Nat) : ∀ (l : List Int) (k : Nat) (rows : List Nc) (B : Nat), RB rows B → (Jl c i l k rows).length = rows.length ∧ RB (Jl c i l k rows) (B + l.length)
 | [], k, rows, B, h => ⟨rfl, h⟩
 | n :: l, k, rows, B, h => by
  simp only [Jl, List.length_cons]
  split
  ·have := Y6 c i l (k + 1) rows B h
   exact ⟨this.1, this.2.mono (by omega)⟩
  ·have := Y6 c i l (k + 1) _ (B + 1) (h.add (n := n.toNat) (p := (i, k)))
   exact ⟨this.1.trans q5a, this.2.mono (by omega)⟩
theorem q7g {Q : AX → St → Prop} (c : B5) (hn : c.nodes.l.length ≤ 16384) (i : Nat) (s : Sl Int) (hs : s.l.length ≤ 1000000000) (R : List Nc)
  (h0 : Q (.exit 2) ⟨[(3, .lb 14 c.nodes.l.length), (4, .t (.fn 154 [.ip (tC c) 0])), (5, .t (tI i)), (18, .t (A5 c.nodes)), (19, .t (tI c.nodes.l.length)), (20, .t (tI i)), (26, .t (B1 s)), (27, .t (tI s.l.length)), (28, .t (tI s.l.length)), (29, .t (tB false))], (14, .bx (Cf R)) :: D6 R⟩) :
  ∀ (kk k : Nat) (rows : List Nc), kk + k = s.l.length → rows.length = c.nodes.l.length → (∀ n, (rows.getD n []).length + kk ≤ 1000000000) → Jl c i (s.l.drop k) k rows = R →
  run Tryz.prog Γ Is Q ⟨[(3, .lb 14 c.nodes.l.length), (4, .t (.fn 154 [.ip (tC c) 0])), (5, .t (tI i)), (18, .t (A5 c.nodes)), (19, .t (tI c.nodes.l.length)), (20, .t (tI i)), (26, .t (B1 s)), (27, .t (tI s.l.length)), (28, .t (tI k))], (14, .bx (Cf rows)) :: D6 rows⟩
 | 0, k, rows, h, hl, hb, hR => by
  refine Q1 fun K hK => ?_
  have h2 : ¬ k < s.l.length := by omega
  have h3 : k = s.l.length := by omega
  simp [h2, -Gh.run, Fz, X5]
  subst h3
  rw [List.drop_of_length_le (Nat.le_refl _)] at hR
  simp only [Jl] at hR
  subst hR
  exact h0
 | kk + 1, k, rows, h, hl, hb, hR => by
  refine Q1 fun K hK => ?_
  have h2 : k < s.l.length := by omega
  rw [List.drop_eq_getElem_cons h2] at hR
  simp only [Jl] at hR
  have e := q0b (Γ := Γ) c s.l[k] (by omega)
  simp (disch := omega) [h2, -Gh.run, Fz, X5, -E7, B1, A0, Bv (0 : Int), A6]
  refine Y5 e ?_
  by_cases ho : Q6 c s.l[k] = true
  ·rw [if_pos ho] at hR
   simp (disch := omega) [ho, -Gh.run, Fz, X5, -E7, A4]
   rw [hK]
   have := q7g c hn i s hs R h0 kk (k + 1) rows (by omega) hl (fun n => by have := hb n; omega) hR
   simpa [B1] using this
  ·have ho' : Q6 c s.l[k] = false := by simpa using ho
   rw [if_neg ho] at hR
   have hr := q48 (c := c) (l := [s.l[k]]) (by simp [ho']) s.l[k] (by simp)
   simp (disch := omega) [ho', -Gh.run, Fz, X5, -E7]
   have hz : ((s.l[k]).toNat : Int) = s.l[k] := by omega
   have := qLq (Γ := Γ) (Q := N2 3 (Am (run Tryz.prog Γ (.reg N6 [.keepB [3, 4, 5, 18, 19, 20, 26, 27, 28] [14] 100000 16384]) (Am (fun s => Am K Q .normal (ghs [.keepB [3, 4, 5, 18, 19, 20, 26, 27, 28] [14] 100000 16384] s)) (Am K Q))) (Am (fun s => Am K Q .normal (ghs [.keepB [3, 4, 5, 18, 19, 20, 26, 27, 28] [14] 100000 16384] s)) (Am K Q)))) rows (s.l[k]).toNat (by omega) (by omega) i k (by have := hb (s.l[k]).toNat; omega)
    (.fn 154 [.ip (tC c) 0]) (A5 c.nodes) (tI c.nodes.l.length) (tI i) (.sl (Av s.l) s.cap s.nl) (tI s.l.length) (tI k) (tB true) c.nodes.l.length hl.symm ?_
   ·rw [hz] at this; exact this
   ·simp (disch := omega) [-Gh.run, Fz, X5, A4]
    rw [hK]
    have hbb : ∀ n, ((Hw rows (s.l[k]).toNat (i, k)).getD n []).length + kk ≤ 1000000000 := by
     intro n
     unfold Hw
     have h5 := hb n
     have h6 := hb (s.l[k]).toNat
     by_cases hq : n = (s.l[k]).toNat
     ·subst hq
      have hlt : (s.l[k]).toNat < rows.length := by omega
      simp [List.getD, List.getElem?_set, hlt] at h6 ⊢
      omega
     ·have : ¬ (s.l[k]).toNat = n := fun e => hq e.symm
      simp [List.getD, List.getElem?_set, this] at h5 ⊢
      omega
    have := q7g c hn i s hs R h0 kk (k + 1) (Hw rows (s.l[k]).toNat (i, k)) (by omega) (q5a.trans hl) hbb hR
    simpa [B1] using this
theorem qJo {ks rs : List Nat} {st : St} : Gh.run (.keep ks rs) st = ⟨(Il ((st.hp.map (·.1)).filter fun id => !rs.contains id) ⟨Lg.keep ks st.env, st.hp⟩).env, Lg.keep rs (Il ((st.hp.map (·.1)).filter fun id => !rs.contains id) ⟨Lg.keep ks st.env, st.hp⟩).hp⟩ := rfl
theorem qI4 {env : List (Nat × AV)} {ks : List Nat} {rows : List Nc} {q : B7} : Gh.run (.keepB ks [6, 14] 100000 16384) ⟨env, (6, q) :: (14, .bx (Cf rows)) :: D6 rows⟩ = ⟨Lg.keep ks env, (6, q) :: (14, .bx (Cf rows)) :: D6 rows⟩ := by
 have hk : (((6, q) :: (14, B7.bx (Cf rows)) :: D6 rows).map (·.1)).filter (fun id => !([6, 14] : List Nat).contains id && !(decide (100000 ≤ id) && decide (id < 100000 + 16384))) = [] := by
  rw [List.filter_eq_nil_iff]
  intro id hid
  simp only [List.map_cons, List.mem_cons] at hid
  rcases hid with rfl | rfl | hid
  ·simp
  ·simp
  ·obtain ⟨p, hp, rfl⟩ := List.mem_map.1 hid
   have := q14 p hp
   simp; omega
 simp only [Gh.run, q98, hk, Il, q7b, q9k, A2, ↓reduceIte]
 simp only [show ¬ (6 = 14) by omega, ↓reduceIte, List.cons_append, List.nil_append]
 congr 3
 refine qBN fun t ht => ?_
 rw [List.mem_range'_1] at ht
 rw [A2, if_neg (by omega), q49, if_neg (by omega), if_pos ⟨ht.1, by omega⟩]
theorem q9v {Q : AX → St → Prop} (c : B5) (hn : c.nodes.l.length ≤ 16384) (hi : ∀ x ∈ c.nodes.l, x.inn.l.length ≤ 16) (R : List Nc)
  (h0 : Q (.exit 0) ⟨[(3, .lb 14 c.nodes.l.length), (4, .t (.fn 154 [.ip (tC c) 0])), (18, .t (A5 c.nodes)), (19, .t (tI c.nodes.l.length)), (20, .t (tI c.nodes.l.length)), (21, .t (tB false))], (14, .bx (Cf R)) :: D6 R⟩) :
  ∀ (kk i : Nat) (rows : List Nc), kk + i = c.nodes.l.length → rows.length = c.nodes.l.length → RB rows (16 * i) → H2 c (c.nodes.l.drop i) i rows = R →
  run Tryz.prog Γ It Q ⟨[(3, .lb 14 c.nodes.l.length), (4, .t (.fn 154 [.ip (tC c) 0])), (18, .t (A5 c.nodes)), (19, .t (tI c.nodes.l.length)), (20, .t (tI i))], (14, .bx (Cf rows)) :: D6 rows⟩
 | 0, i, rows, h, hl, hb, hR => by
  refine Q2 fun K hK => ?_
  have h2 : ¬ i < c.nodes.l.length := by omega
  have h3 : i = c.nodes.l.length := by omega
  simp [h2, -Gh.run, Fz, X5]
  subst h3
  rw [List.drop_of_length_le (Nat.le_refl _)] at hR
  simp only [H2] at hR
  subst hR
  exact h0
 | kk + 1, i, rows, h, hl, hb, hR => by
  refine Q2 fun K hK => ?_
  have h2 : i < c.nodes.l.length := by omega
  rw [List.drop_eq_getElem_cons h2] at hR
  simp only [H2] at hR
  have hx := hi _ (List.getElem_mem h2)
  have hlk6 : A2 (D6 rows) 6 = none := by rw [D6, Oe, if_neg (by omega)]
  simp (disch := omega) [h2, -Gh.run, Fz, X5, qJn, qI4, A5, A9, E3 Nd.d, Bd, Dn, B1, hlk6, A0]
  refine q7g c hn i c.nodes.l[i].inn (by omega) _ ?_ c.nodes.l[i].inn.l.length 0 rows (by omega) hl (fun n => by have := hb.at n; omega) rfl
  obtain ⟨hf1, hf2⟩ := Y6 c i c.nodes.l[i].inn.l 0 rows (16 * i) hb
  simp (disch := omega) [-Gh.run, Fz, X5, A4, List.drop_zero]
  rw [hK]
  have := q9v c hn hi R h0 kk (i + 1) _ (by omega) (hf1.trans hl) (hf2.mono (by omega)) hR
  simpa [A5] using this
def Y7 (r : Nc) : T := .sl (An tLn r) (some r.length) (if r = [] then some true else none)
theorem qI5 (r : Nc) : Ac Tryz.prog Γ 139 [qAp r] (Y7 r) := by
 unfold qAp Y7
 by_cases h : r = []
 ·subst h; simpa [An] using qBL (Γ := Γ) [] (some 0) (some true) qJk
 ·rw [if_neg h, if_neg h]
  have := qBL (Γ := Γ) (An tLn r) none none qCE
  rwa [A9] at this
def q1s (rows : List Nc) (i : Nat) : List AV := rows.mapIdx fun j r => .t (if j < i then Y7 r else qAp r)
theorem q6Z {rows : List Nc} {i : Nat} : (q1s rows i).length = rows.length := by simp [q1s]
theorem qJp {rows : List Nc} {i : Nat} (h : i < rows.length) : ((q1s rows i).drop i).take 1 = [.t (qAp rows[i])] := by
 rw [List.drop_eq_getElem_cons (by rw [q6Z]; exact h)]
 simp [q1s]
theorem qGn {rows : List Nc} {i : Nat} (h : i < rows.length) : (q1s rows i).take i ++ .t (Y7 rows[i]) :: (q1s rows i).drop (i + 1) = q1s rows (i + 1) := by
 apply List.ext_getElem?
 intro j
 rw [List.getElem?_append]
 have e : ((q1s rows i).take i).length = i := by simp [q6Z]; omega
 rw [e]
 by_cases h1 : j < i
 ·rw [if_pos h1, List.getElem?_take, if_pos h1]
  simp only [q1s, List.getElem?_mapIdx]
  cases rows[j]? with
  | none => rfl
  | some r => simp only [Option.map_some]; rw [if_pos h1, if_pos (by omega)]
 ·rw [if_neg h1]
  by_cases h2 : j = i
  ·subst h2
   simp [q1s, List.getElem?_eq_getElem h]
  ·rw [show j - i = (j - i - 1) + 1 by omega, List.getElem?_cons_succ, List.getElem?_drop]
   rw [show i + 1 + (j - i - 1) = j by omega]
   simp only [q1s, List.getElem?_mapIdx]
   cases rows[j]? with
   | none => rfl
   | some r => simp only [Option.map_some]; rw [if_neg h1, if_neg (by omega)]
theorem qBO {Q : AX → St → Prop} (rows : List Nc) (hn : rows.length ≤ 16384)
  (h0 : Q (.exit 4) ⟨[(3, .lb 14 rows.length), (51, .lb 14 rows.length), (52, .t (tI rows.length)), (53, .t (tI rows.length)), (54, .t (tB false))], [(14, .bx (q1s rows rows.length))]⟩) :
  ∀ (kk i : Nat), kk + i = rows.length →
  run Tryz.prog Γ Iu Q ⟨[(3, .lb 14 rows.length), (51, .lb 14 rows.length), (52, .t (tI rows.length)), (53, .t (tI i))], [(14, .bx (q1s rows i))]⟩
 | 0, i, h => by
  refine Q3 fun K hK => ?_
  have h2 : ¬ i < rows.length := by omega
  have h3 : i = rows.length := by omega
  simp [h2]
  subst h3
  exact h0
 | kk + 1, i, h => by
  refine Q3 fun K hK => ?_
  have h2 : i < rows.length := by omega
  have h3 : i + 1 ≤ rows.length := h2
  have e := qI5 (Γ := Γ) rows[i]
  have ho : (qAp rows[i]).one = true := by unfold qAp; split <;> rfl
  simp (disch := omega) [h2, h3, qJp h2, q6Z]
  refine Aa e rfl ?_
  simp (disch := omega) [h2, h3, q6Z, A4, Y7]
  rw [hK]
  have := qBO rows hn h0 kk (i + 1) (by omega)
  rw [← qGn h2] at this
  simpa [Y7] using this
def Et (c : B5) : List Nc := H2 c c.nodes.l 0 (List.replicate c.nodes.l.length [])
def qDF (rows : List Nc) : T := .sl (Ab Y7 rows) (some rows.length) none
theorem q6a (c : B5) : ∀ (l : List Nd) (i : Nat) (rows : List Nc), (H2 c l i rows).length = rows.length
 | [], _, _ => rfl
 | x :: l, i, rows => by
  simp only [H2]
  rw [q6a c l]
  exact (Y6 c i x.inn.l 0 rows (rows.foldr (fun r m => r.length + m) 0) (by
   intro r hr
   induction rows with
   | nil => cases hr
   | cons y ys ih =>
    simp only [List.foldr_cons]
    rcases List.mem_cons.1 hr with rfl | hr
    ·omega
    ·have := ih hr; omega)).1
theorem Zk (c : B5) : (Et c).length = c.nodes.l.length := by rw [Et, q6a]; simp
theorem qDG (c : B5) (hn : c.nodes.l.length ≤ 16384) (hi : ∀ x ∈ c.nodes.l, x.inn.l.length ≤ 16) : Ac Tryz.prog Γ 113 [.agg (tC c)] (qDF (Et c)) := by
 refine Ar q4J rfl ?_
 have eo := Wz (Γ := Γ) c
 have hR := Zk c
 have hk1 : ∀ (env : List (Nat × AV)) (ks : List Nat), Gh.run (.keepB ks [14] 100000 16384) ⟨env, [(14, .bx (List.replicate c.nodes.l.length (.t (.sl [] (some 0) (some true)))))]⟩ = ⟨Lg.keep ks env, (14, .bx (Cf (List.replicate c.nodes.l.length []))) :: D6 (List.replicate c.nodes.l.length [])⟩ := by
  intro env ks
  have hc : Cf (List.replicate c.nodes.l.length []) = List.replicate c.nodes.l.length (.t (.sl [] (some 0) (some true))) := by
   apply List.ext_getElem?
   intro j
   simp only [Cf, List.getElem?_mapIdx, List.getElem?_replicate]
   split <;> simp [q9t]
  refine q7e (by simp) (by simp [A2, hc]) fun t h1 h2 => ?_
  rw [A2, if_neg (by omega)]
  unfold Kw
  rw [List.getElem?_replicate]
  split <;> rename_i hq
  ·split at hq
   ·simp only [Option.some.injEq] at hq; subst hq; rfl
   ·cases hq
  ·rfl
 simp (disch := omega) [Xy, tC, A5, A8, Ad, B1, A9, -Gh.run, Fz, qJo, hk1, A4]
 refine ⟨by omega, ?_⟩
 refine Aa eo rfl ?_
 simp (disch := omega) [-Gh.run, Fz, X5, A9]
 have hp0 : RB (List.replicate c.nodes.l.length []) (16 * 0) := by
  intro r hr; rw [List.eq_of_mem_replicate hr]; simp
 refine q9v c hn hi (Et c) ?_ c.nodes.l.length 0 (List.replicate c.nodes.l.length []) (by omega) (by simp) hp0 rfl
 generalize Et c = R at hR
 rw [← hR]
 simp (disch := omega) [-Gh.run, Fz]
 rw [qI2 (by omega) (fun id r h p hp => by
  simp only [List.mem_cons, List.not_mem_nil, or_false] at hp
  have h14 : ¬ 14 = id := by omega
  rcases hp with rfl | rfl | rfl | rfl | rfl | rfl | rfl | rfl | rfl <;> simp [Bi, frz1, frz0, h14])]
 have hmix : (R.map fun r => AV.t (qAp r)) = q1s R 0 := by
  apply List.ext_getElem?
  intro j
  simp only [List.getElem?_map, q1s, List.getElem?_mapIdx]
  cases R[j]? <;> simp
 rw [hmix]
 simp
 refine qBO R (by omega) ?_ R.length 0 (by omega)
 have hfin : q1s R R.length = (R.map Y7).map .t := by
  apply List.ext_getElem?
  intro j
  simp only [List.getElem?_map, q1s, List.getElem?_mapIdx, Option.map_map]
  cases hj : R[j]? with
  | none => rfl
  | some r =>
   have := (List.getElem?_eq_some_iff.1 hj).1
   simp only [Option.map_some, Function.comp_def]
   rw [if_pos this]
 have hopt : Af ((q1s R R.length).map (Ah [(14, .bx (q1s R R.length))] 3)) = some (R.map Y7) := by
  conv => lhs; rw [hfin]
  rw [List.map_map]
  have : (R.map Y7).map (Ah [(14, .bx ((R.map Y7).map .t))] 3 ∘ AV.t) = (R.map Y7).map fun t => some t := List.map_congr_left fun t _ => by simp [Ah]
  rw [this]; exact P6
 simp [Xz, qDF, hopt, Ab]
end Go.Lg
namespace Go.Lg
open Go Go.Proofs
def Zl (N : Nat) (rows : List Nc) : Prop := ∀ r ∈ rows, ∀ p ∈ r, ∃ i : Nat, i < N ∧ p.1 = i
theorem Zl.add {N : Nat} {rows : List Nc} {n i : Nat} {k : Int} (h : Zl N rows) (hi : i < N) : Zl N (Hw rows n (i, k)) := by
 intro r hr p hp
 unfold Hw at hr
 by_cases hn : n < rows.length
 ·rcases List.mem_or_eq_of_mem_set hr with hr | rfl
  ·exact h r hr p hp
  ·rcases List.mem_append.1 hp with hp | hp
   ·have e : rows.getD n [] = rows[n] := by simp [hn]
    rw [e] at hp
    exact h _ (List.getElem_mem hn) p hp
   ·simp at hp; subst hp; exact ⟨i, hi, rfl⟩
 ·rw [List.set_eq_of_length_le (by omega)] at hr
  exact h r hr p hp
theorem q5b {N : Nat} (c : B5) (i : Nat) (hi : i < N) : ∀ (l : List Int) (k : Nat) (rows : List Nc), Zl N rows → Zl N (Jl c i l k rows)
 | [], _, _, h => h
 | n :: l, k, rows, h => by
  simp only [Jl]
  split
  ·exact q5b c i hi l (k + 1) rows h
  ·exact q5b c i hi l (k + 1) _ (h.add hi)
theorem q8I {N : Nat} (c : B5) : ∀ (l : List Nd) (i : Nat) (rows : List Nc), i + l.length ≤ N → Zl N rows → Zl N (H2 c l i rows)
 | [], _, _, _, h => h
 | x :: l, i, rows, hl, h => by
  simp only [H2]
  simp at hl
  exact q8I c l (i + 1) _ (by omega) (q5b c i (by omega) _ _ _ h)
theorem q5c (c : B5) : Zl c.nodes.l.length (Et c) := by
 refine q8I c c.nodes.l 0 _ (by omega) fun r hr p hp => ?_
 rw [List.eq_of_mem_replicate hr] at hp; cases hp
theorem q8J (c : B5) : ∀ (l : List Nd) (i B : Nat) (rows : List Nc), (∀ x ∈ l, x.inn.l.length ≤ 16) → RB rows B → RB (H2 c l i rows) (B + 16 * l.length)
 | [], _, _, _, _, h => h
 | x :: l, i, B, rows, hl, h => by
  simp only [H2, List.length_cons]
  have h1 := (Y6 c i x.inn.l 0 rows B h).2
  have h2 := hl x List.mem_cons_self
  exact (q8J c l (i + 1) (B + 16) _ (fun y hy => hl y (List.mem_cons_of_mem _ hy)) (h1.mono (by omega))).mono (by omega)
theorem qEj (c : B5) (hn : c.nodes.l.length ≤ 16384) (hi : ∀ x ∈ c.nodes.l, x.inn.l.length ≤ 16) : RB (Et c) 262144 := by
 refine (q8J c c.nodes.l 0 0 _ hi fun r hr => ?_).mono (by omega)
 rw [List.eq_of_mem_replicate hr]; simp
structure LS where
 out : List Int
 left : List Int
 rdy : List Int
def Fj (k : Int) : Bool := decide (1 ≤ k ∧ k ≤ 13)
def Bo (c : B5) (j : Nat) : Int := (c.nodes.l.getD j Nd.d).k
def E4 (c : B5) (n : Nat) (s : LS) (p : Int × Int) : LS :=
 if Fj (Bo c p.1.toNat) then
  ⟨s.out.set p.1.toNat (max (s.out.getD p.1.toNat 0) (s.out.getD n 0 + 1)), s.left.set p.1.toNat (s.left.getD p.1.toNat 0 - 1), if s.left.getD p.1.toNat 0 - 1 = 0 then s.rdy ++ [p.1] else s.rdy⟩
 else s
def Gi (c : B5) (n : Nat) : Nc := (Et c).getD n []
def M4 (c : B5) : Nat → Nat → LS → Nat × LS
 | 0, d, s => (d, s)
 | f + 1, d, s => if d < s.rdy.length then M4 c f (d + 1) ((Gi c (s.rdy.getD d 0).toNat).foldl (E4 c (s.rdy.getD d 0).toNat) s) else (d, s)
def Dp (x : Nd) : Int := if Fj x.k then x.inn.l.length else 0
def Ds : List Nd → Nat → List Int
 | [], _ => []
 | x :: l, i => if Dp x = 0 then (i : Int) :: Ds l (i + 1) else Ds l (i + 1)
def Hy (c : B5) : LS := ⟨List.replicate c.nodes.l.length 0, c.nodes.l.map Dp, Ds c.nodes.l 0⟩
def Og (c : B5) : Nat × LS := M4 c (c.nodes.l.length + 1) 0 (Hy c)
structure LI (N M : Nat) (s : LS) : Prop where
 lo : s.out.length = N
 ll : s.left.length = N
 rd : ∀ j ∈ s.rdy, ∃ i : Nat, i < N ∧ j = i ∧ s.left.getD i 0 ≤ 0
 nd : s.rdy.Nodup
 bo : ∀ i, 0 ≤ s.out.getD i 0 ∧ s.out.getD i 0 ≤ M
 bl : ∀ i, -(M : Int) ≤ s.left.getD i 0 ∧ s.left.getD i 0 ≤ 1000
theorem qBP {N : Nat} {l : List Int} (h : l.Nodup) (hb : ∀ j ∈ l, ∃ i : Nat, i < N ∧ j = i) : l.length ≤ N := by
 have h1 : (l.map Int.toNat).Nodup := by
  rw [List.nodup_iff_pairwise_ne] at h ⊢
  rw [List.pairwise_map]
  refine h.imp_of_mem fun {a b} ha hb' hne e => hne ?_
  obtain ⟨i, _, rfl⟩ := hb a ha
  obtain ⟨j, _, rfl⟩ := hb b hb'
  have : i = j := by simpa using e
  rw [this]
 have h2 : (l.map Int.toNat) ⊆ List.range N := by
  intro j hj
  obtain ⟨a, ha, rfl⟩ := List.mem_map.1 hj
  obtain ⟨i, hi, rfl⟩ := hb a ha
  simpa using hi
 have := (List.Nodup.length_le_of_subset h1 h2)
 simpa using this
theorem LI.len {N M : Nat} {s : LS} (h : LI N M s) : s.rdy.length ≤ N := qBP h.nd fun j hj => by obtain ⟨i, h1, h2, _⟩ := h.rd j hj; exact ⟨i, h1, h2⟩
theorem Np {l : List Int} {j i : Nat} {v : Int} (hj : j < l.length) : (l.set j v).getD i 0 = if i = j then v else l.getD i 0 := by
 simp only [List.getD, List.getElem?_set]
 by_cases h : j = i
 ·subst h; simp [hj]
 ·simp [h, Ne.symm h]
theorem LI.step {N M : Nat} {c : B5} {s : LS} {n i : Nat} {k : Int} (h : LI N M s) (hi : i < N) : LI N (M + 1) (E4 c n s (i, k)) := by
 unfold E4
 simp only [Int.toNat_natCast]
 split
 case isFalse => exact ⟨h.lo, h.ll, h.rd, h.nd, fun j => ⟨(h.bo j).1, by have := (h.bo j).2; omega⟩, fun j => ⟨by have := (h.bl j).1; omega, (h.bl j).2⟩⟩
 refine ⟨by simp [h.lo], by simp [h.ll], ?_, ?_, ?_, ?_⟩
 ·intro j hj
  have old : ∀ j ∈ s.rdy, ∃ i0 : Nat, i0 < N ∧ j = i0 ∧ (s.left.set i (s.left.getD i 0 - 1)).getD i0 0 ≤ 0 := by
   intro j hj
   obtain ⟨i0, h1, h2, h3⟩ := h.rd j hj
   refine ⟨i0, h1, h2, ?_⟩
   rw [Np (by rw [h.ll]; exact hi)]
   split
   ·rename_i e; subst e; omega
   ·exact h3
  split at hj
  ·rename_i hz
   rcases List.mem_append.1 hj with hj | hj
   ·exact old j hj
   ·simp at hj; subst hj
    refine ⟨i, hi, rfl, ?_⟩
    rw [Np (by rw [h.ll]; exact hi), if_pos rfl]; omega
  ·exact old j hj
 ·split
  ·rename_i hz
   rw [List.nodup_append]
   refine ⟨h.nd, by simp, ?_⟩
   intro a ha b hb e
   simp at hb; subst hb; subst e
   obtain ⟨i0, h1, h2, h3⟩ := h.rd _ ha
   have : i = i0 := by omega
   subst this
   omega
  ·exact h.nd
 ·intro j
  rw [Np (by rw [h.lo]; exact hi)]
  have h1 := h.bo j
  have h2 := h.bo i
  have h3 := h.bo n
  split
  ·rename_i e
   omega
  ·omega
 ·intro j
  rw [Np (by rw [h.ll]; exact hi)]
  have h1 := h.bl j
  have h2 := h.bl i
  split <;> omega
theorem LI.fold {N : Nat} {c : B5} {n : Nat} : ∀ {r : Nc} {s : LS} {M : Nat}, LI N M s → (∀ p ∈ r, ∃ i : Nat, i < N ∧ p.1 = i) → LI N (M + r.length) (r.foldl (E4 c n) s)
 | [], _, _, h, _ => h
 | p :: r, s, M, h, hr => by
  obtain ⟨i, hi, he⟩ := hr p List.mem_cons_self
  obtain ⟨p1, p2⟩ := p
  simp only at he; subst he
  have := LI.fold (c := c) (n := n) (h.step (c := c) (n := n) (k := p2) hi) fun q hq => hr q (List.mem_cons_of_mem _ hq)
  simp only [List.foldl_cons, List.length_cons]
  rw [show M + (r.length + 1) = M + 1 + r.length by omega]
  exact this
theorem q5d : ∀ (l : List Nd) (i : Nat), (∀ j ∈ Ds l i, ∃ a : Nat, i ≤ a ∧ a < i + l.length ∧ j = a ∧ (l.map Dp).getD (a - i) 0 = 0) ∧ (Ds l i).Nodup
 | [], _ => ⟨fun j h => (by cases h), List.nodup_nil⟩
 | x :: l, i => by
  obtain ⟨h1, h2⟩ := q5d l (i + 1)
  have h3 : ∀ j ∈ Ds l (i + 1), ∃ a : Nat, i ≤ a ∧ a < i + (l.length + 1) ∧ j = a ∧ ((x :: l).map Dp).getD (a - i) 0 = 0 := by
   intro j hj
   obtain ⟨a, e1, e2, e3, e4⟩ := h1 j hj
   refine ⟨a, by omega, by omega, e3, ?_⟩
   rw [show a - i = (a - (i + 1)) + 1 by omega]
   simpa using e4
  simp only [Ds, List.length_cons]
  split
  ·rename_i hz
   refine ⟨fun j hj => ?_, ?_⟩
   ·rcases List.mem_cons.1 hj with rfl | hj
    ·exact ⟨i, by omega, by omega, rfl, by simp [hz]⟩
    ·exact h3 j hj
   ·rw [List.nodup_cons]
    refine ⟨fun hm => ?_, h2⟩
    obtain ⟨a, e1, _, e3, _⟩ := h1 _ hm
    omega
  ·exact ⟨h3, h2⟩
theorem qDH (c : B5) (hi : ∀ x ∈ c.nodes.l, x.inn.l.length ≤ 16) : LI c.nodes.l.length 0 (Hy c) := by
 obtain ⟨h1, h2⟩ := q5d c.nodes.l 0
 refine ⟨by simp [Hy], by simp [Hy], fun j hj => ?_, h2, fun i => ?_, fun i => ?_⟩
 ·obtain ⟨a, _, e2, e3, e4⟩ := h1 j hj
  exact ⟨a, by omega, e3, by simp only [Nat.sub_zero] at e4; simp only [Hy]; omega⟩
 ·simp only [Hy, List.getD, List.getElem?_replicate]
  split <;> simp
 ·simp only [Hy, List.getD, List.getElem?_map]
  cases hx : c.nodes.l[i]? with
  | none => simp
  | some x =>
   have := hi x (List.mem_of_getElem? hx)
   simp only [Option.map_some, Option.getD_some, Dp]
   split <;> simp <;> omega
end Go.Lg
namespace Go.Lg
open Go Go.Proofs
variable {Γ : Tables}
theorem q6b {α : Type} {f : α → T} {l : List α} {j : Nat} {x : α} (h : j < l.length) : (Ab f (l.set j x))[j]?.getD [] = [f x] := by simp [Ab, h]
theorem qJq {r : Nc} {i : Nat} (h : i < r.length) : (An tLn r)[i]?.getD [] = tLn r[i] := by simp [An, h]
def lsH (s : LS) : List (Nat × B7) := [(23, .sl 3 1 (Av s.out)), (27, .sl 3 1 (Av s.left)), (53, .sl 3 1 (Av s.rdy))]
theorem q5e {Q : AX → St → Prop} (c : B5) (hc : CirOk c) (hn : c.nodes.l.length ≤ 16384) (n : Nat) (hnn : n < c.nodes.l.length) (d : Int) (r : Nc) (nl : Option Bool) (hr : r.length ≤ 262144) (hin : ∀ p ∈ r, ∃ i : Nat, i < c.nodes.l.length ∧ p.1 = i) (Vh : T) (S : LS)
  (h0 : Q (.exit 4) ⟨[(1, .t (.ip (tC c) 0)), (5, .ls 23 0 c.nodes.l.length none), (6, .ls 27 0 c.nodes.l.length none), (7, .ls 53 0 S.rdy.length none), (10, .t Vh), (11, .t (tI d)), (12, .t (tI n)), (76, .t (.sl (An tLn r) (some r.length) nl)), (77, .t (tI r.length)), (78, .t (tI r.length)), (79, .t (tB false))], lsH S⟩) :
  ∀ (kk k : Nat) (s : LS) (M : Nat), kk + k = r.length → LI c.nodes.l.length M s → M + kk ≤ 4611686018427387904 → (r.drop k).foldl (E4 c n) s = S →
  run Tryz.prog Γ Ip Q ⟨[(1, .t (.ip (tC c) 0)), (5, .ls 23 0 c.nodes.l.length none), (6, .ls 27 0 c.nodes.l.length none), (7, .ls 53 0 s.rdy.length none), (10, .t Vh), (11, .t (tI d)), (12, .t (tI n)), (76, .t (.sl (An tLn r) (some r.length) nl)), (77, .t (tI r.length)), (78, .t (tI k))], lsH s⟩
 | 0, k, s, M, h, hI, hM, hS => by
  refine Pz fun K hK => ?_
  have h2 : ¬ k < r.length := by omega
  have h3 : k = r.length := by omega
  simp [h2, lsH]
  subst h3
  rw [List.drop_of_length_le (Nat.le_refl _)] at hS
  simp only [List.foldl_nil] at hS
  subst hS
  exact h0
 | kk + 1, k, s, M, h, hI, hM, hS => by
  refine Pz fun K hK => ?_
  have h2 : k < r.length := by omega
  rw [List.drop_eq_getElem_cons h2] at hS
  simp only [List.foldl_cons] at hS
  obtain ⟨j, hj, hpj⟩ := hin _ (List.getElem_mem h2)
  have hstep := hI.step (c := c) (n := n) (k := r[k].2) hj
  have hpair : r[k] = ((j : Int), r[k].2) := by rw [← hpj]
  rw [hpair] at hS
  generalize r[k].2 = q at hS hstep hpair
  have e := q7d (Γ := Γ) c.nodes.l[j].k
  have hkind : Bo c j = c.nodes.l[j].k := by simp [Bo, hj]
  simp (disch := omega) [h2, lsH, A9, qJq h2, qCE, hpair, tLn, tC, A5, E3 Nd.d, Bd, Dn, B1, hj]
  refine A1 e rfl ?_
  by_cases hcb : Fj c.nodes.l[j].k = true
  case neg =>
   have hcb' : decide (1 ≤ c.nodes.l[j].k ∧ c.nodes.l[j].k ≤ 13) = false := by simpa [Fj] using hcb
   have hcb2 : Fj (Bo c j) = false := by rw [hkind]; exact hcb'
   have hst : E4 c n s ((j : Int), q) = s := by unfold E4; simp [hcb2]
   rw [hst] at hS hstep
   rw [hcb']
   simp (disch := omega) [A4]
   rw [hK]
   have := q5e c hc hn n hnn d r nl hr hin Vh S h0 kk (k + 1) s (M + 1) (by omega) hstep (by omega) hS
   simpa [lsH, tC, A5, B1] using this
  have hcb' : decide (1 ≤ c.nodes.l[j].k ∧ c.nodes.l[j].k ≤ 13) = true := by simpa [Fj] using hcb
  have hcb2 : Fj (Bo c j) = true := by rw [hkind]; exact hcb'
  rw [hcb']
  have ho := hI.lo
  have hll := hI.ll
  have b1 := hI.bo n
  have b2 := hI.bo j
  have b3 := hI.bl j
  have hrl := hI.len
  have hst : E4 c n s ((j : Int), q) = ⟨s.out.set j (max (s.out.getD j 0) (s.out.getD n 0 + 1)), s.left.set j (s.left.getD j 0 - 1), if s.left.getD j 0 - 1 = 0 then s.rdy ++ [(j : Int)] else s.rdy⟩ := by
   unfold E4; simp [hcb2]
  have hw : Ce 1 [[tI (j : Int)]] := by intro e he; simp at he; subst he; rfl
  have hmax : max (s.out.getD j 0) (s.out.getD n 0 + 1) = if s.out.getD j 0 < s.out.getD n 0 + 1 then s.out.getD n 0 + 1 else s.out.getD j 0 := by
   split <;> omega
  have ih := fun S2 (e : S2 = E4 c n s ((j : Int), q)) => q5e c hc hn n hnn d r nl hr hin Vh S h0 kk (k + 1) S2 (M + 1) (by omega) (e ▸ hstep) (by omega) (e ▸ hS)
  have ljo : j < s.out.length := by omega
  have lno : n < s.out.length := by omega
  have ljl : j < s.left.length := by omega
  simp only [List.getD, List.getElem?_eq_getElem ljo, List.getElem?_eq_getElem lno, List.getElem?_eq_getElem ljl, Option.getD_some] at b1 b2 b3 hst hmax
  have b1a := b1.1
  have b1b := b1.2
  have b2a := b2.1
  have b2b := b2.2
  have b3a := b3.1
  have b3b := b3.2
  simp (disch := omega) [A4, A0, Bv (0 : Int), A6, J2, ljo, lno, ljl, hj, hnn]
  rw [show (if s.out[j] < s.out[n] + 1 then s.out[n] + 1 else s.out[j]) = max s.out[j] (s.out[n] + 1) from hmax.symm]
  by_cases hz : s.left[j] - 1 = 0
  ·rw [if_pos hz] at hst
   have ih' := ih _ hst.symm
   simp (disch := omega) [hz, A4, A0, A6, hw, q6b]
   refine ⟨by omega, ?_⟩
   rw [hK]
   rw [Bf (f := tI) (x := (j : Int))]
   simpa [lsH, tC, A5, B1, hz] using ih'
  ·rw [if_neg hz] at hst
   have ih' := ih _ hst.symm
   simp (disch := omega) [hz, A4, q6b, A6]
   rw [hK]
   simpa [lsH, tC, A5, B1] using ih'
theorem qBQ {Q : AX → St → Prop} (c : B5) (hc : CirOk c) (hn : c.nodes.l.length ≤ 16384) (hi : ∀ x ∈ c.nodes.l, x.inn.l.length ≤ 16) (R : Nat × LS)
  (h0 : Q (.exit 2) ⟨[(1, .t (.ip (tC c) 0)), (5, .ls 23 0 c.nodes.l.length none), (6, .ls 27 0 c.nodes.l.length none), (7, .ls 53 0 R.2.rdy.length none), (10, .t (qDF (Et c))), (11, .t (tI R.1)), (60, .t (tB false))], lsH R.2⟩) :
  ∀ (f d : Nat) (s : LS) (M : Nat), f + d = c.nodes.l.length + 1 → LI c.nodes.l.length M s → M = d * 262144 → M4 c f d s = R →
  run Tryz.prog Γ Iq Q ⟨[(1, .t (.ip (tC c) 0)), (5, .ls 23 0 c.nodes.l.length none), (6, .ls 27 0 c.nodes.l.length none), (7, .ls 53 0 s.rdy.length none), (10, .t (qDF (Et c))), (11, .t (tI d))], lsH s⟩
 | 0, d, s, M, h, hI, hM, hR => by
  refine Q0 fun K hK => ?_
  have hlen := hI.len
  have h2 : ¬ d < s.rdy.length := by omega
  simp [h2, lsH]
  simp only [M4] at hR
  subst hR
  exact h0
 | f + 1, d, s, M, h, hI, hM, hR => by
  refine Q0 fun K hK => ?_
  have hlen := hI.len
  by_cases h2 : d < s.rdy.length
  case neg =>
   simp [h2, lsH]
   simp only [M4, h2, ↓reduceIte] at hR
   subst hR
   exact h0
  simp only [M4, h2, ↓reduceIte] at hR
  obtain ⟨j, hj, he, hz⟩ := hI.rd _ (List.getElem_mem h2)
  have hgd : s.rdy.getD d 0 = (j : Int) := by simp [h2, he]
  rw [hgd] at hR
  simp only [Int.toNat_natCast] at hR
  have hfr := Zk c
  have hrl : Gi c j ∈ Et c := by
   have e : Gi c j = (Et c)[j]'(by omega) := by simp [Gi, hfr, hj]
   rw [e]; exact List.getElem_mem _
  have hin := q5c c _ hrl
  have hrb := qEj c hn hi _ hrl
  have hfold := hI.fold (c := c) (n := j) hin
  have hel : (Et c)[j]? = some (Gi c j) := by
   have hlt : j < (Et c).length := by omega
   simp [Gi, hlt]
  have hrt : Y7 (Gi c j) = .sl (An tLn (Gi c j)) (some (Gi c j).length) (if Gi c j = [] then some true else none) := rfl
  have hg1 : (Ab Y7 (Et c))[j]?.getD [] = [Y7 (Gi c j)] := by simp [Ab, hel]
  have hM2 : LI c.nodes.l.length ((d + 1) * 262144) ((Gi c j).foldl (E4 c j) s) := ⟨hfold.lo, hfold.ll, hfold.rd, hfold.nd, fun i => ⟨(hfold.bo i).1, by have := (hfold.bo i).2; omega⟩, fun i => ⟨by have := (hfold.bl i).1; omega, (hfold.bl i).2⟩⟩
  have ih := qBQ c hc hn hi R h0 f (d + 1) _ _ (by omega) hM2 rfl hR
  have hrdy : (s.rdy)[d]?.getD 0 = (j : Int) := by simpa using hgd
  simp (disch := omega) [h2, lsH, A0, Bv (0 : Int), A6, A4, he, qDF, hfr, hj, hg1, hrt, A9]
  by_cases hr0 : (Gi c j).length = 0
  ·have hr0' : Gi c j = [] := List.eq_nil_of_length_eq_zero hr0
   simp [hr0', Bg]
   rw [hK]
   rw [hr0'] at ih
   simp only [List.foldl_nil, qDF, hfr, lsH] at ih
   exact_mod_cast ih
  ·have hr0' : ¬ Gi c j = [] := fun e => hr0 (by simp [e])
   simp (disch := omega) [Bg, hr0', lsH, A0, Bv (0 : Int), A6, A4, he, qDF, hfr, hj, hg1, hrt, A9]
   refine q5e c hc hn j hj ((d : Int) + 1) (Gi c j) _ (by omega) hin _ _ ?_ (Gi c j).length 0 s M (by omega) hI (by omega) rfl
   simp [lsH]
   rw [hK]
   simp only [qDF, hfr, lsH] at ih
   exact_mod_cast ih
theorem q6c (x : Nd) : ∀ (l : List Nd) (i : Nat), Ds (l ++ [x]) i = if Dp x = 0 then Ds l i ++ [((i + l.length : Nat) : Int)] else Ds l i
 | [], i => by simp [Ds]
 | y :: l, i => by
  have := q6c x l (i + 1)
  simp only [List.cons_append, Ds, this, List.length_cons]
  rw [show i + 1 + l.length = i + (l.length + 1) by omega]
  split <;> split <;> rfl
theorem q8K : ∀ (l : List Nd) (i : Nat), (Ds l i).length ≤ l.length
 | [], _ => by simp [Ds]
 | x :: l, i => by
  have := q8K l (i + 1)
  simp only [Ds]
  split <;> simp <;> omega
def Ky (c : B5) (i : Nat) : List Int := (c.nodes.l.take i).map Dp ++ List.replicate (c.nodes.l.length - i) 0
theorem q9w {c : B5} {i : Nat} (h : i ≤ c.nodes.l.length) : (Ky c i).length = c.nodes.l.length := by simp [Ky]; omega
theorem q5f {c : B5} {i : Nat} (h : i < c.nodes.l.length) : (Ky c i).set i (Dp c.nodes.l[i]) = Ky c (i + 1) := by
 unfold Ky
 have e1 : ((c.nodes.l.take i).map Dp).length = i := by simp; omega
 rw [List.set_append_right _ _ (by rw [e1]; exact Nat.le_refl i), e1, Nat.sub_self]
 rw [show c.nodes.l.length - i = (c.nodes.l.length - (i + 1)) + 1 by omega, List.replicate_succ, List.set_cons_zero]
 have e3 : (c.nodes.l.map Dp).take (i + 1) = (c.nodes.l.map Dp).take i ++ [Dp c.nodes.l[i]] := by rw [List.take_add_one]; simp [h]
 simp [e3]
theorem qDI {c : B5} {i : Nat} (h : i < c.nodes.l.length) (h0 : Dp c.nodes.l[i] = 0) : Ky c i = Ky c (i + 1) := by
 unfold Ky
 rw [show c.nodes.l.length - i = (c.nodes.l.length - (i + 1)) + 1 by omega, List.replicate_succ]
 have e3 : (c.nodes.l.map Dp).take (i + 1) = (c.nodes.l.map Dp).take i ++ [Dp c.nodes.l[i]] := by rw [List.take_add_one]; simp [h]
 simp [e3, h0]
theorem qBR {Q : AX → St → Prop} (c : B5) (hn : c.nodes.l.length ≤ 16384) (hi : ∀ x ∈ c.nodes.l, x.inn.l.length ≤ 16) (out : List Int)
  (h0 : Q (.exit 0) ⟨[(1, .t (.ip (tC c) 0)), (5, .ls 23 0 c.nodes.l.length none), (6, .ls 27 0 c.nodes.l.length none), (7, .ls 53 0 (Ds c.nodes.l 0).length none), (29, .t (A5 c.nodes)), (30, .t (tI c.nodes.l.length)), (31, .t (tI c.nodes.l.length)), (32, .t (tB false))], [(23, .sl 3 1 (Av out)), (27, .sl 3 1 (Av (c.nodes.l.map Dp))), (53, .sl 3 1 (Av (Ds c.nodes.l 0)))]⟩) :
  ∀ (kk i : Nat), kk + i = c.nodes.l.length →
  run Tryz.prog Γ Im Q ⟨[(1, .t (.ip (tC c) 0)), (5, .ls 23 0 c.nodes.l.length none), (6, .ls 27 0 c.nodes.l.length none), (7, .ls 53 0 (Ds (c.nodes.l.take i) 0).length none), (29, .t (A5 c.nodes)), (30, .t (tI c.nodes.l.length)), (31, .t (tI i))], [(23, .sl 3 1 (Av out)), (27, .sl 3 1 (Av (Ky c i))), (53, .sl 3 1 (Av (Ds (c.nodes.l.take i) 0)))]⟩
 | 0, i, h => by
  refine Py fun K hK => ?_
  have h2 : ¬ i < c.nodes.l.length := by omega
  have h3 : i = c.nodes.l.length := by omega
  simp [h2]
  subst h3
  simpa [Ky] using h0
 | kk + 1, i, h => by
  refine Py fun K hK => ?_
  have h2 : i < c.nodes.l.length := by omega
  have hx := hi _ (List.getElem_mem h2)
  have ht : c.nodes.l.take (i + 1) = c.nodes.l.take i ++ [c.nodes.l[i]] := by rw [List.take_add_one]; simp [h2]
  have htl : (c.nodes.l.take i).length = i := by simp; omega
  have hrl := q8K (c.nodes.l.take i) 0
  have hll := q9w (c := c) (i := i) (by omega)
  have hll1 := q9w (c := c) (i := i + 1) (by omega)
  have hsn := q6c c.nodes.l[i] (c.nodes.l.take i) 0
  rw [← ht, htl, Nat.zero_add] at hsn
  have e := q7d (Γ := Γ) c.nodes.l[i].k
  have ih := qBR c hn hi out h0 kk (i + 1) (by omega)
  have hw : Ce 1 [[tI (i : Int)]] := by intro e he; simp at he; subst he; rfl
  simp (disch := omega) [h2, A9, E3 Nd.d, Bd, A5, Dn, B1, -F6]
  refine A1 e rfl ?_
  have tail : ∀ (lf : List Int), lf = Ky c (i + 1) → run Tryz.prog Γ (.seq (.reg F6 [.keep [1, 5, 6, 7, 8, 29, 30, 31, 49] [23, 27, 53]]) (.cond (.tmp 49) (.reg N3 [.keep [1, 5, 6, 7, 29, 30, 31] [23, 27, 53]]) .skip))
    (N2 1 (Am (run Tryz.prog Γ (.reg N5 [.keep [1, 5, 6, 7, 29, 30, 31] [23, 27, 53]]) (Am (fun s => Am K Q .normal (ghs [.keep [1, 5, 6, 7, 29, 30, 31] [23, 27, 53]] s)) (Am K Q))) (Am (fun s => Am K Q .normal (ghs [.keep [1, 5, 6, 7, 29, 30, 31] [23, 27, 53]] s)) (Am K Q))))
    ⟨[(1, .t (.ip (tC c) 0)), (5, .ls 23 0 c.nodes.l.length none), (6, .ls 27 0 c.nodes.l.length none), (7, .ls 53 0 (Ds (c.nodes.l.take i) 0).length none), (8, .t (tI i)), (29, .t (A5 c.nodes)), (30, .t (tI c.nodes.l.length)), (31, .t (tI i))], [(23, .sl 3 1 (Av out)), (27, .sl 3 1 (Av lf)), (53, .sl 3 1 (Av (Ds (c.nodes.l.take i) 0)))]⟩ := by
   rintro lf rfl
   have hget : (Ky c (i + 1))[i]?.getD 0 = Dp c.nodes.l[i] := by
    rw [← q5f h2]
    simp [hll, h2]
   have hge := hget
   rw [List.getElem?_eq_getElem (by rw [hll1]; exact h2), Option.getD_some] at hge
   by_cases hz : Dp c.nodes.l[i] = 0
   ·rw [if_pos hz] at hsn
    simp (disch := omega) [h2, A0, Bv (0 : Int), A6, hll1, hge, hz, hw, A4]
    refine ⟨by omega, ?_⟩
    rw [hK]
    rw [hsn] at ih
    rw [Bf (f := tI) (x := (i : Int))]
    simpa using ih
   ·rw [if_neg hz] at hsn
    simp (disch := omega) [h2, A0, Bv (0 : Int), A6, hll1, hge, hz, A4]
    rw [hK]
    rw [hsn] at ih
    exact_mod_cast ih
  by_cases hcb : Fj c.nodes.l[i].k = true
  ·have hcb' : decide (1 ≤ c.nodes.l[i].k ∧ c.nodes.l[i].k ≤ 13) = true := by simpa [Fj] using hcb
   have hlo : Dp c.nodes.l[i] = c.nodes.l[i].inn.l.length := by simp [Dp, hcb]
   rw [hcb']
   have := tail ((Ky c i).set i c.nodes.l[i].inn.l.length) (by rw [← hlo]; exact q5f h2)
   simp (disch := omega) [h2, A0, A6, hll, J2, -F6]
   exact this
  ·have hcb' : decide (1 ≤ c.nodes.l[i].k ∧ c.nodes.l[i].k ≤ 13) = false := by simpa [Fj] using hcb
   have hlo : Dp c.nodes.l[i] = 0 := by simp [Dp, hcb]
   rw [hcb', qDI h2 hlo]
   rw [if_pos hlo] at hsn
   have hge : (Ky c (i + 1))[i]'(by rw [hll1]; exact h2) = 0 := by
    have hget : (Ky c (i + 1))[i]?.getD 0 = Dp c.nodes.l[i] := by
     rw [← q5f h2]
     simp [hll, h2]
    rw [List.getElem?_eq_getElem (by rw [hll1]; exact h2), Option.getD_some] at hget
    rw [hget, hlo]
   simp (disch := omega) [h2, A0, Bv (0 : Int), A6, hll1, hge, hw, A4]
   refine ⟨by omega, ?_⟩
   rw [hK]
   rw [hsn] at ih
   rw [Bf (f := tI) (x := (i : Int))]
   simpa [A5] using ih
def Gq (c : B5) : Int := if Dx c ≠ 0 then Dx c else if (Og c).1 < c.nodes.l.length then 6 else 0
theorem qLr (k : Int) : (Vh k).2 ≤ 16 := by
 unfold Vh
 split
 ·decide
 ·have : ∀ n : Nat, (q9m.getD n (0, 0)).2 ≤ 16 := by
   intro n
   by_cases h : n < 16
   ·have : n = 0 ∨ n = 1 ∨ n = 2 ∨ n = 3 ∨ n = 4 ∨ n = 5 ∨ n = 6 ∨ n = 7 ∨ n = 8 ∨ n = 9 ∨ n = 10 ∨ n = 11 ∨ n = 12 ∨ n = 13 ∨ n = 14 ∨ n = 15 := by omega
    rcases this with rfl | rfl | rfl | rfl | rfl | rfl | rfl | rfl | rfl | rfl | rfl | rfl | rfl | rfl | rfl | rfl <;> decide
   ·rw [List.getD, List.getElem?_eq_none (by simp [q9m]; omega)]; decide
  exact this _
theorem q0c {α : Type} {f : α → Int} : ∀ {l : List α}, Do (l.map f) = 0 → ∀ x ∈ l, f x = 0
 | [], _, x, h => by cases h
 | y :: l, h, x, hx => by
  simp only [List.map_cons, Do] at h
  split at h
  ·rename_i hy; exact absurd h hy
  ·rename_i hy
   rcases List.mem_cons.1 hx with rfl | hx
   ·simpa using hy
   ·exact q0c h x hx
theorem Ia {c : B5} (h : Dx c = 0) : c.nodes.l.length ≤ 16384 ∧ (∀ x ∈ c.nodes.l, x.inn.l.length ≤ 16) ∧ (∀ x ∈ c.nodes.l, Dq c x = 0) ∧ c.mems.l.length ≤ 16 := by
 unfold Dx at h
 split at h
 ·cases h
 rename_i h1
 split at h
 ·cases h
 split at h
 ·rename_i h2; exact absurd h h2
 rename_i h2
 have h3 := q0c (by simpa using h2)
 refine ⟨by omega, fun x hx => ?_, h3, by omega⟩
 have h4 := h3 x hx
 have h5 := qLr x.k
 unfold Dq at h4
 split at h4
 ·cases h4
 split at h4
 ·cases h4
 rename_i h6
 omega
theorem q8L (hΓ : GOk Γ) (c : B5) (hc : CirOk c) (ha : ∀ s ∈ c.names.l, ∀ b ∈ s, b < 128) :
  A3 Tryz.prog Γ 67 [.agg (tC c)] (.tup [if Gq c = 0 then .sl (Av (Og c).2.out) none none else .sl [] (some 0) (some true), tI (Gq c)]) := by
 refine A7 q4I rfl ?_
 have e1 := qEi hΓ c hc ha
 simp [Xu, tC, A5, A8, Ad, B1]
 refine A1 e1 rfl ?_
 by_cases h1 : Dx c = 0
 case neg =>
  have : Gq c = Dx c := by unfold Gq; rw [if_pos h1]
  simp [h1, Ir, this]
 obtain ⟨hn, hi, _⟩ := Ia h1
 have e2 := qDG (Γ := Γ) c hn hi
 have hl0 : Gq c = if (Og c).1 < c.nodes.l.length then 6 else 0 := by unfold Gq; rw [if_neg (show ¬ (Dx c ≠ 0) by simp [h1])]
 simp (disch := omega) [h1, A9, A4]
 refine ⟨by omega, ?_⟩
 have e0 : List.replicate c.nodes.l.length [T.v (Value.int .i64 0)] = Av (List.replicate c.nodes.l.length 0) := by simp [Ab]
 rw [e0]
 have hl := fun Q h0 => qBR (Γ := Γ) (Q := Q) c hn hi (List.replicate c.nodes.l.length 0) h0 c.nodes.l.length 0 (by omega)
 have el0 : Ky c 0 = List.replicate c.nodes.l.length 0 := by simp [Ky]
 simp only [el0, Ds, List.take_zero, List.length_nil] at hl
 refine hl _ ?_
 simp [tC, A5, A8, Ad, B1]
 refine Aa e2 rfl ?_
 have hI := qDH c hi
 have hm := fun Q h0 => qBQ (Γ := Γ) (Q := Q) c hc hn hi (Og c) h0 (c.nodes.l.length + 1) 0 (Hy c) 0 (by omega) hI (by omega) rfl
 simp
 refine hm _ ?_
 have hend : (Og c).1 < c.nodes.l.length ↔ ((Og c).1 : Int) < c.nodes.l.length := by omega
 have hol : (Og c).2.out.length = c.nodes.l.length := by
  have : ∀ (f d : Nat) (s : LS), s.out.length = c.nodes.l.length → (M4 c f d s).2.out.length = c.nodes.l.length := by
   intro f
   induction f with
   | zero => intro d s h; exact h
   | succ f ih =>
    intro d s h
    simp only [M4]
    split
    ·refine ih _ _ ?_
     have : ∀ (r : Nc) (n : Nat) (s : LS), s.out.length = c.nodes.l.length → (r.foldl (E4 c n) s).out.length = c.nodes.l.length := by
      intro r n
      induction r with
      | nil => intro s h; exact h
      | cons p r ih2 =>
       intro s h
       rw [List.foldl_cons]
       refine ih2 _ ?_
       unfold E4
       split
       ·simp [h]
       ·exact h
     exact this _ _ _ h
    ·exact h
  exact this _ _ _ hI.lo
 by_cases h2 : (Og c).1 < c.nodes.l.length
 ·rw [if_pos h2] at hl0
  have h2' := hend.1 h2
  simp [lsH, tC, A5, A9, h2', Ir, hl0]
 ·rw [if_neg h2] at hl0
  have h2' : ¬ ((Og c).1 : Int) < c.nodes.l.length := fun h => h2 (hend.2 h)
  have ht : (Av (Og c).2.out).take c.nodes.l.length = Av (Og c).2.out := by rw [← hol]; simp
  simp [lsH, tC, A5, A9, h2, h2', Ir, hl0, ht]
structure COk (c : B5) : Prop extends CirOk c where
 asc : ∀ s ∈ c.names.l, ∀ b ∈ s, b < 128
theorem q5g (hΓ : GOk Γ) (c : B5) (hc : COk c) : A3 Tryz.prog Γ 20 [.agg (tC c)] (tI (Gq c)) := by
 refine A7 q5W rfl ?_
 have e := q8L hΓ c hc.toCirOk hc.asc
 simp [Zd, tC, A5, A8, Ad, B1]
 refine A1 e rfl ?_
 simp
 simp [Ze]
def Aj (c : B5) : List Int := Qs [14] c.nodes.l 0
def mems (c : B5) : List Int := Qs [15] c.nodes.l 0
theorem qCF (c : B5) (hc : COk c) (k : Int) : A3 Tryz.prog Γ 66 [.agg (tC c), .sl [[tK k]] (some 1) (some false)] (.sl (Av (Qs [k] c.nodes.l 0)) (some (Qs [k] c.nodes.l 0).length) none) := by
 have := qJl (Γ := Γ) c hc.toCirOk [k] (some 1) (some false) (by simp)
 simpa [Ab] using this
theorem Fo (c : B5) (hc : COk c) : Ac Tryz.prog Γ 19 [.agg (tC c)] (.sl (Av (Aj c)) (some (Aj c).length) none) := by
 refine Ar q4H rfl ?_
 simp [Xp, tC, A5, A8, Ad, B1]
 refine A1 (qCF c hc 14) rfl ?_
 simp [Xq, Aj]
end Go.Lg
namespace Go.Lg
open Go Go.Proofs
def Sl.d : Sl Int := ⟨[], none, none⟩
def Zm (l : List Int) (a b : Nat) : List Int := (l.set a (l.getD b 0)).set b (l.getD a 0)
theorem q7h {l : List Int} {a b : Nat} : (Zm l a b).length = l.length := by simp [Zm]
theorem Cj {l : List Int} {i : Nat} (h : i < l.length) : l.getD i 0 = l[i] := by simp [List.getD_eq_getElem?_getD, h]
theorem qGo {l : List Int} {a b q : Nat} (ha : a < l.length) (hb : b < l.length) (hq : q < l.length) : (Zm l a b).getD q 0 = if q = b then l.getD a 0 else if q = a then l.getD b 0 else l.getD q 0 := by
 unfold Zm
 rw [Np (by simp; exact hb)]
 split
 ·rfl
 ·rw [Np ha]
theorem q9x {l : List Int} {a b : Nat} (ha : a < l.length) (hb : b < l.length) : (Zm l a b).Perm l := by
 unfold Zm
 rw [Cj ha, Cj hb]
 exact List.set_set_perm ha hb
theorem q6d (ks : List Int) : ∀ (l : List Nd) (i : Nat), ∀ n ∈ Qs ks l i, (i : Int) ≤ n ∧ n < i + l.length ∧ ks.contains (l.getD (n.toNat - i) Nd.d).k = true
 | [], _, n, h => by cases h
 | x :: l, i, n, h => by
  have tail : n ∈ Qs ks l (i + 1) → (i : Int) ≤ n ∧ n < i + (x :: l).length ∧ ks.contains ((x :: l).getD (n.toNat - i) Nd.d).k = true := fun h => by
   obtain ⟨h1, h2, h3⟩ := q6d ks l (i + 1) n h
   refine ⟨by omega, by simp only [List.length_cons]; omega, ?_⟩
   have e : n.toNat - i = (n.toNat - (i + 1)) + 1 := by omega
   rw [e, List.getD_cons_succ]
   exact h3
  simp only [Qs] at h
  split at h
  ·rename_i hk
   rcases List.mem_cons.1 h with rfl | h
   ·refine ⟨by omega, by simp only [List.length_cons]; omega, ?_⟩
    have e : ((i : Int).toNat - i) = 0 := by omega
    rw [e, List.getD_cons_zero]
    exact hk
   ·exact tail h
  ·exact tail h
end Go.Lg
namespace Go.Lg
open Go
section
variable {P : Program} {Γ : Tables} {Q : AX → St → Prop} {s : St}
/- (probecard/probecardlaw03.C).Of (function 9) -/
abbrev q4e : IC := .gh (.seq (.seq (.reg [om 13 4, od 14 (fa 0 1), od 15 (ld 1 14), od 16 (.bin .rem (tm 15) (ku 4)), od 17 (.conv .i64 (tm 16)), od 18 (.bin .leq (tm 13) (tm 17))] [kp [1, 2, 3, 4, 18] [2, 3, 25, 144, 168]]) (.cond (tm 18) .skip
 (.exit 0))) (.seq (.block 1 (.reg [od 21 (fa 0 3), od 22 (ld 1 21), od 23 (.build [(1, (ku 0)), (1, kN), (1, (ki 0)), (1, (ki 0))]), od 24 (.bsl true 73 4 [(tm 23)]), od 25 (.app false 73 4 (tm 22) (tm 24)), od 26 (fa 0 3), on
 (.store 1 (tm 26) (tm 25))] [kp [1, 2, 3, 4] [2, 3, 25, 144, 168]])) (.reg [om 19 4, od 20 (.bin .add (tm 19) (ki 1)), om 4 20] [kp [1, 2, 3, 4] [2, 3, 25, 144, 168]]))) [kp [1, 2, 3, 4] [2, 3, 25, 144, 168]]
def Tu : IC := .loop q4e
abbrev q4f : IC := .gh (.seq (.seq (.reg [om 34 7, om 35 6, od 36 (.bin .lss (tm 34) (tm 35))] [kp [1, 2, 3, 5, 6, 7, 36] [2, 3, 25, 144, 168]]) (.cond (tm 36) .skip (.exit 2))) (.seq (.block 3 (.reg [od 39 (fa 0 3), od 40 (ld 1 39), od 41 (.bsl true
 3 1 [(ki 0)]), od 42 (.build [(1, (ku 14)), (1, (tm 41)), (1, (ki 0)), (1, (ki 0))]), od 43 (.bsl true 73 4 [(tm 42)]), oz 44 (.app false 73 4 (tm 40) (tm 43)) 25, od 45 (fa 0 3), on (.store 1 (tm 45) (tm 44))] [kp [1, 2, 3, 5, 6,
 7] [2, 3, 25, 144, 168]])) (.reg [om 37 7, od 38 (.bin .add (tm 37) (ki 1)), om 7 38] [kp [1, 2, 3, 5, 6, 7] [2, 3, 25, 144, 168]]))) [kp [1, 2, 3, 5, 6, 7] [2, 3, 25, 144, 168]]
def Tv : IC := .loop q4f
abbrev q4g : IC := .gh (.seq (.seq (.reg [om 55 8, od 56 (fa 10 1), od 57 (ld 1 56), od 58 (le 0 57), od 59 (.bin .lss (tm 55) (tm 58)), om 60 59, oT 61 (.mv (tm 8)) 60, oT 62 (.bin .lss (tm 61) (ki 8)) 60, od 63 (.pick (tm 60) (tm 62) kF)] [kp [1,
 2, 3, 5, 6, 8, 63] [2, 3, 25, 144, 168]]) (.cond (tm 63) .skip (.exit 4))) (.seq (.block 5 (.reg [od 66 (fa 0 3), od 67 (.ldR 3 1 false (tm 66)), od 68 (.ldT 12 true (tm 1)), od 69 (fa 10 1), od 70 (.ldT 1 false (tm 69)), om 71 8,
 od 72 (ia 4 70 71), od 73 (.ldT 4 true (tm 72)), od 74 (fa 0 3), od 75 (.ldR 3 1 false (tm 74)), od 76 (.call 33 [(tm 68), (tm 73), (tm 75)]), od 77 (.bsl true 73 4 [(tm 76)]), oz 78 (.app false 73 4 (tm 67) (tm 77)) 25, od 79 (fa
 0 3), on (.stR 3 1 (tm 79) (tm 78))] [kp [1, 2, 3, 5, 6, 8] [2, 3, 25, 144, 168]])) (.reg [om 64 8, od 65 (.bin .add (tm 64) (ki 1)), om 8 65] [kp [1, 2, 3, 5, 6, 8] [2, 3, 25, 144, 168]]))) [kp [1, 2, 3, 5, 6, 8] [2, 3, 25, 144,
 168]]
def Tz : IC := .loop q4g
abbrev q4h : IC := .gh (.seq (.seq (.reg [om 83 10, om 84 6, od 85 (.bin .lss (tm 83) (tm 84))] [kp [1, 2, 3, 5, 6, 9, 10, 85] [2, 3, 25, 144, 168]]) (.cond (tm 85) .skip (.exit 6))) (.seq (.block 7 (.reg [od 88 (fa 0 3), od 89 (.ldR 3 1 false (tm
 88)), om 90 5, om 91 10, od 92 (.bin .add (tm 90) (tm 91)), om 93 10, od 94 (fa 2 1), od 95 (.iadrA 2 1 (tm 94) (tm 93)), od 96 (.ldT 1 false (tm 95)), od 97 (.conv .i64 (tm 96)), om 98 9, od 99 (.bin .rem (tm 97) (tm 98)), od 100
 (.bsl true 3 1 [(tm 99)]), od 101 (ia 4 89 92), od 102 (fa 1 101), on (.store 1 (tm 102) (tm 100))] [kp [1, 2, 3, 5, 6, 9, 10] [2, 3, 25, 144, 168]])) (.reg [om 86 10, od 87 (.bin .add (tm 86) (ki 1)), om 10 87] [kp [1, 2, 3, 5, 6,
 9, 10] [2, 3, 25, 144, 168]]))) [kp [1, 2, 3, 5, 6, 9, 10] [2, 3, 25, 144, 168]]
def U0 : IC := .loop q4h
abbrev q4i : IC := .gh (.seq (.seq (.reg [om 134 11, om 135 9, od 136 (.bin .lss (tm 134) (tm 135))] [kp [1, 2, 3, 9, 11, 136] [2, 3, 25, 144, 168]]) (.cond (tm 136) .skip (.exit 8))) (.seq (.block 9 (.reg [od 139 (fa 1 3), od 140 (.ldR 3 1 false (tm
 139)), om 141 11, od 142 (.call 34 [(tm 141)]), od 143 (.bsl true 9 1 [(tm 142)]), od 144 (.app false 9 1 (tm 140) (tm 143)), od 145 (fa 1 3), on (.stR 3 1 (tm 145) (tm 144))] [kp [1, 2, 3, 9, 11] [2, 3, 25, 144, 168]])) (.reg [om
 137 11, od 138 (.bin .add (tm 137) (ki 1)), om 11 138] [kp [1, 2, 3, 9, 11] [2, 3, 25, 144, 168]]))) [kp [1, 2, 3, 9, 11] [2, 3, 25, 144, 168]]
def U1 : IC := .loop q4i
abbrev q3B : IC := .gh (.seq (.seq (.reg [om 146 12, od 147 (fa 11 1), od 148 (ld 1 147), od 149 (le 0 148), od 150 (.bin .lss (tm 146) (tm 149)), om 151 150, oT 152 (.mv (tm 12)) 151, oT 153 (.bin .lss (tm 152) (ki 3)) 151, od 154 (.pick (tm 151)
 (tm 153) kF)] [kp [1, 2, 3, 9, 12, 154] [2, 3, 25, 144, 168]]) (.cond (tm 154) .skip (.exit 10))) (.seq (.block 11 (.reg [od 157 (fa 3 3), od 158 (.ldR 3 1 false (tm 157)), od 159 (fa 11 1), od 160 (.ldT 1 false (tm 159)), om 161
 12, od 162 (ia 1 160 161), od 163 (.ldT 1 false (tm 162)), od 164 (.conv .i64 (tm 163)), om 165 9, od 166 (.bin .rem (tm 164) (tm 165)), od 167 (.bsl true 3 1 [(tm 166)]), od 168 (.app false 3 1 (tm 158) (tm 167)), od 169 (fa 3 3),
 on (.stR 3 1 (tm 169) (tm 168))] [kp [1, 2, 3, 9, 12] [2, 3, 25, 144, 168]])) (.reg [om 155 12, od 156 (.bin .add (tm 155) (ki 1)), om 12 156] [kp [1, 2, 3, 9, 12] [2, 3, 25, 144, 168]]))) [kp [1, 2, 3, 9, 12] [2, 3, 25, 144, 168]]
def Q7 : IC := .loop q3B
abbrev q4j : IC := (.seq (.reg [od 1 (.box true (tm 0)), od 2 (.alloc false [(.slice none 0 0), (.slice none 0 0), (.slice none 0 0), (.slice none 0 0)])] [kp [1, 2] [2, 25, 144, 168]]) (.seq (.reg [od 3 (.alloc false [(.slice none 0 0), (.slice none
 0 0), (.slice none 0 0), (.slice none 0 0)])] [.nlb 3 0 25 73 4, .nlb 3 1 144 9 1, .nlb 3 3 168 3 1, kp [1, 2, 3] [2, 3, 25, 144, 168]]) (.seq (.seq (.reg [od 4 (.mv (ki 0))] [kp [1, 2, 3, 4] [2, 3, 25, 144, 168]]) (.block 0
 Tu)) (.seq (.reg [od 27 (fa 0 3), od 28 (ld 1 27), od 29 (le 0 28), om 5 29] [kp [1, 2, 3, 5] [2, 3, 25, 144, 168]]) (.seq (.reg [od 30 (fa 1 1), od 31 (ld 1 30), od 32 (.bin .rem (tm 31) (ku 3)), od 33 (.conv .i64 (tm
 32)), om 6 33] [kp [1, 2, 3, 5, 6] [2, 3, 25, 144, 168]]) (.seq (.seq (.reg [od 7 (.mv (ki 0))] [kp [1, 2, 3, 5, 6, 7] [2, 3, 25, 144, 168]]) (.block 2 Tv)) (.seq (.seq (.reg [od 46 (fa 5 1), od 47 (ld 1 46)] [kp [1, 2,
 3, 5, 6, 47] [2, 3, 25, 144, 168]]) (.cond (tm 47) (.reg [od 48 (fa 0 3), od 49 (ld 1 48), od 50 (.build [(1, (ku 15)), (1, kN), (1, (ki 0)), (1, (ki 0))]), od 51 (.build [(1, (ku 15)), (1, kN), (1, (ki 0)), (1, (ki 1))]), od 52
 (.bsl true 73 4 [(tm 50), (tm 51)]), oz 53 (.app false 73 4 (tm 49) (tm 52)) 25, od 54 (fa 0 3), on (.store 1 (tm 54) (tm 53))] [kp [1, 2, 3, 5, 6] [2, 3, 25, 144, 168]]) .skip)) (.seq (.seq (.reg [od 8 (.mv (ki 0))] [kp [1, 2, 3,
 5, 6, 8] [2, 3, 25, 144, 168]]) (.block 4 Tz)) (.seq (.reg [od 80 (fa 0 3), od 81 (ld 1 80), od 82 (le 0 81), om 9 82] [kp [1, 2, 3, 5, 6, 9] [2, 3, 25, 144, 168]]) (.seq (.seq (.reg [od 10 (.mv (ki 0))] [kp [1, 2, 3, 5,
 6, 9, 10] [2, 3, 25, 144, 168]]) (.block 6 U0)) (.seq (.seq (.reg [od 103 (fa 5 1), od 104 (ld 1 103)] [kp [1, 2, 3, 9, 104] [2, 3, 25, 144, 168]]) (.cond (tm 104) (.reg [od 105 (fa 6 1), od 106 (.iadrA 4 1 (tm 105) (ki
 0)), od 107 (.ldT 1 false (tm 106)), od 108 (.conv .i64 (tm 107)), om 109 9, od 110 (.bin .rem (tm 108) (tm 109)), od 111 (.bsl true 3 1 [(tm 110)]), od 112 (fa 6 1), od 113 (.iadrA 4 1 (tm 112) (ki 1)), od 114 (.ldT 1 false (tm
 113)), od 115 (.conv .i64 (tm 114)), om 116 9, od 117 (.bin .rem (tm 115) (tm 116)), od 118 (fa 6 1), od 119 (.iadrA 4 1 (tm 118) (ki 2)), od 120 (.ldT 1 false (tm 119)), od 121 (.conv .i64 (tm 120)), om 122 9, od 123 (.bin .rem
 (tm 121) (tm 122)), od 124 (.bsl true 3 1 [(tm 117), (tm 123)]), od 125 (fa 6 1), od 126 (.iadrA 4 1 (tm 125) (ki 3)), od 127 (.ldT 1 false (tm 126)), od 128 (.conv .i64 (tm 127)), om 129 9, od 130 (.bin .rem (tm 128) (tm 129)), od
 131 (.build [(1, (tm 111)), (1, (tm 124)), (1, (tm 130))]), od 132 (.bsl true 100 3 [(tm 131)]), od 133 (fa 2 3), on (.stR 3 1 (tm 133) (tm 132))] [kp [1, 2, 3, 9] [2, 3, 25, 144, 168]]) .skip)) (.seq (.seq (.reg [od 11 (.mv (ki
 0))] [kp [1, 2, 3, 9, 11] [2, 3, 25, 144, 168]]) (.block 8 U1)) (.seq (.seq (.reg [od 12 (.mv (ki 0))] [kp [1, 2, 3, 9, 12] [2, 3, 25, 144, 168]]) (.block 10 Q7)) (.seq (.reg [od 170 (fa 3 3), od 171 (ld 1
 170), om 172 9, od 173 (.bin .sub (tm 172) (ki 1)), od 174 (.bsl true 3 1 [(tm 173)]), oz 175 (.app false 3 1 (tm 171) (tm 174)) 168, od 176 (fa 3 3), on (.store 1 (tm 176) (tm 175))] [kp [2, 3] [2, 3, 25, 144, 168]]) (.seq (.reg
 [od 177 (lG 4 3), on (.store 4 (tm 2) (tm 177))] [kp [2] [2, 25, 144, 168]]) .ret)))))))))))))))
theorem Zn (h : ∀ K : St → Prop, K = run P Γ Tu Q → run P Γ q4e (Am K Q) s) : run P Γ Tu Q s := Ae h
theorem Zo (h : ∀ K : St → Prop, K = run P Γ Tv Q → run P Γ q4f (Am K Q) s) : run P Γ Tv Q s := Ae h
theorem Zp (h : ∀ K : St → Prop, K = run P Γ Tz Q → run P Γ q4g (Am K Q) s) : run P Γ Tz Q s := Ae h
theorem Zq (h : ∀ K : St → Prop, K = run P Γ U0 Q → run P Γ q4h (Am K Q) s) : run P Γ U0 Q s := Ae h
theorem Zr (h : ∀ K : St → Prop, K = run P Γ U1 Q → run P Γ q4i (Am K Q) s) : run P Γ U1 Q s := Ae h
theorem Y8 (h : ∀ K : St → Prop, K = run P Γ Q7 Q → run P Γ q3B (Am K Q) s) : run P Γ Q7 Q s := Ae h
def H7 : List RV := [.cell 2 4 true]
/- (probecard/probecardlaw03.C).gate (function 33) -/
abbrev q2G : IC := .gh (.seq (.seq (.reg [om 37 12, om 38 7, od 39 (.bin .lss (tm 37) (tm 38))] [kp [2, 3, 4, 6, 7, 8, 9, 10, 11, 12, 39] [6, 51, 70, 79, 86, 94, 105, 126, 142, 156]]) (.cond (tm 39) .skip (.exit 0))) (.seq (.block 1 (.seq (.reg [om
 42 2, om 43 12, od 44 (ia 4 42 43), od 45 (fa 0 44), od 46 (ld 1 45), od 47 (.bin .eql (tm 46) (ku 12))] [kp [2, 3, 4, 6, 7, 8, 9, 10, 11, 12, 47] [6, 51, 70, 79, 86, 94, 105, 126, 142, 156]]) (.cond (tm 47) (.reg [om 48 11, om 49
 12, od 50 (.bsl true 3 1 [(tm 49)]), od 51 (.app false 3 1 (tm 48) (tm 50)), om 11 51] [kp [2, 3, 4, 6, 7, 8, 9, 10, 11, 12] [6, 51, 70, 79, 86, 94, 105, 126, 142, 156]]) .skip))) (.reg [om 40 12, od 41 (.bin .add (tm 40) (ki 1)),
 om 12 41] [kp [2, 3, 4, 6, 7, 8, 9, 10, 11, 12] [6, 51, 70, 79, 86, 94, 105, 126, 142, 156]]))) [kp [2, 3, 4, 6, 7, 8, 9, 10, 11, 12] [6, 51, 70, 79, 86, 94, 105, 126, 142, 156]]
def O6 : IC := .loop q2G
abbrev q2H : IC := (.seq (.reg [od 3 (.box true (tm 0)), od 4 (.box true (tm 1)), od 6 (.alloc false [(.int .u8 0), (.slice none 0 0), (.int .i64 0), (.int .i64 0)])] [kp [2, 3, 4, 6] [6, 70, 79, 86, 94, 105, 126, 142, 156]]) (.seq (.reg [om 17 2, od
 18 (le 0 17), om 7 18] [kp [2, 3, 4, 6, 7] [6, 70, 79, 86, 94, 105, 126, 142, 156]]) (.seq (.reg [od 19 (fa 1 4), od 20 (.iadrA 3 1 (tm 19) (ki 0)), od 21 (ld 1 20), od 22 (.conv .i64 (tm 21)), om 23 7, od 24 (.bin .rem (tm 22) (tm
 23)), od 25 (fa 1 4), od 26 (.iadrA 3 1 (tm 25) (ki 1)), od 27 (ld 1 26), od 28 (.conv .i64 (tm 27)), om 29 7, od 30 (.bin .rem (tm 28) (tm 29)), od 31 (fa 1 4), od 32 (.iadrA 3 1 (tm 31) (ki 2)), od 33 (ld 1 32), od 34 (.conv .i64
 (tm 33)), om 35 7, od 36 (.bin .rem (tm 34) (tm 35)), om 8 24, om 9 30, om 10 36] [kp [2, 3, 4, 6, 7, 8, 9, 10] [6, 70, 79, 86, 94, 105, 126, 142, 156]]) (.seq (.reg [od 11 (.mv kN)] [.nl 11 51 3 1, kp [2, 3, 4, 6, 7, 8, 9, 10, 11]
 [6, 51, 70, 79, 86, 94, 105, 126, 142, 156]]) (.seq (.seq (.reg [od 12 (.mv (ki 0))] [kp [2, 3, 4, 6, 7, 8, 9, 10, 11, 12] [6, 51, 70, 79, 86, 94, 105, 126, 142, 156]]) (.block 0 O6)) (.seq (.reg [od 52 (fa 0 4), od 53
 (ld 1 52), od 54 (.bin .rem (tm 53) (ku 9)), od 55 (.conv .i64 (tm 54)), om 13 55] [kp [3, 4, 6, 8, 9, 10, 11, 13] [6, 51, 70, 79, 86, 94, 105, 126, 142, 156]]) (.seq (.seq (.reg [od 56 (fa 4 3), od 57 (ld 1 56)] [kp [4, 6, 8, 9,
 10, 11, 13, 57] [6, 51, 70, 79, 86, 94, 105, 126, 142, 156]]) (.cond (tm 57) (.reg [od 58 (fa 0 4), od 59 (ld 1 58), od 60 (.bin .rem (tm 59) (ku 13)), od 61 (.conv .i64 (tm 60)), om 13 61] [kp [4, 6, 8, 9, 10, 11, 13] [6, 51, 70,
 79, 86, 94, 105, 126, 142, 156]]) .skip)) (.seq (.block 2 (.seq (.reg [om 63 13, od 64 (.bin .lss (tm 63) (ki 6)), om 62 64] [kp [4, 6, 8, 9, 10, 11, 13, 62] [6, 51, 70, 79, 86, 94, 105, 126, 142, 156]]) (.cond (tm 62) (.seq (.reg
 [om 65 13, od 66 (.conv .u8 (tm 65)), od 67 (.bin .add (ku 5) (tm 66)), om 68 8, om 69 9, od 70 (.bsl false 3 1 [(tm 68), (tm 69)]), od 71 (.build [(1, (tm 67)), (1, (tm 70)), (1, (ki 0)), (1, (ki 0))]), od 14 (.alloc false [(.int
 .u8 0), (.slice none 0 0), (.int .i64 0), (.int .i64 0)]), on (.store 4 (tm 14) (tm 71))] [kp [4, 6, 10, 14] [6, 14, 70, 79, 86, 94, 105, 126, 142, 156]]) (.seq (.seq (.reg [od 72 (fa 0 4), od 73 (ld 1 72), od 74 (.bin .geq (tm 73)
 (ku 128))] [kp [6, 10, 14, 74] [6, 14, 70, 79, 86, 94, 105, 126, 142, 156]]) (.cond (tm 74) (.reg [od 75 (fa 1 14), od 76 (ld 1 75), om 77 10, od 78 (.bsl true 3 1 [(tm 77)]), od 79 (.app false 3 1 (tm 76) (tm 78)), od 80 (fa 1
 14), on (.store 1 (tm 80) (tm 79))] [kp [6, 14] [6, 14, 70, 79, 86, 94, 105, 126, 142, 156]]) .skip)) (.seq (.reg [od 81 (lG 4 14), on (.store 4 (tm 6) (tm 81))] [kp [6] [6, 70, 79, 86, 94, 105, 126, 142, 156]]) .ret))) (.seq (.reg
 [om 83 13, od 84 (.bin .eql (tm 83) (ki 6)), om 82 84] [kp [4, 6, 8, 9, 10, 11, 13, 82] [6, 51, 70, 79, 86, 94, 105, 126, 142, 156]]) (.cond (tm 82) (.seq (.reg [om 85 8, od 86 (.bsl false 3 1 [(tm 85)]), od 87 (.build [(1, (ku
 4)), (1, (tm 86)), (1, (ki 0)), (1, (ki 0))]), on (.store 4 (tm 6) (tm 87))] [kp [6] [6, 70, 79, 86, 94, 105, 126, 142, 156]]) .ret) (.seq (.reg [om 89 13, od 90 (.bin .eql (tm 89) (ki 7)), om 88 90] [kp [4, 6, 8, 9, 10, 11, 13,
 88] [6, 51, 70, 79, 86, 94, 105, 126, 142, 156]]) (.cond (tm 88) (.seq (.reg [om 91 8, om 92 9, om 93 10, od 94 (.bsl false 3 1 [(tm 91), (tm 92), (tm 93)]), od 95 (.build [(1, (ku 11)), (1, (tm 94)), (1, (ki 0)), (1, (ki 0))]), on
 (.store 4 (tm 6) (tm 95))] [kp [6] [6, 70, 79, 86, 94, 105, 126, 142, 156]]) .ret) (.seq (.reg [om 97 13, od 98 (.bin .eql (tm 97) (ki 9)), om 99 98, oF 100 (.mv (tm 13)) 99, oF 101 (.bin .eql (tm 100) (ki 10)) 99, od 102 (.pick
 (tm 99) kT (tm 101)), om 96 102] [kp [4, 6, 8, 9, 11, 13, 96] [6, 51, 70, 79, 86, 94, 105, 126, 142, 156]]) (.cond (tm 96) (.seq (.reg [om 103 8, om 104 9, od 105 (.bsl false 3 1 [(tm 103), (tm 104)]), od 106 (.build [(1, (ku 12)),
 (1, (tm 105)), (1, (ki 0)), (1, (ki 0))]), on (.store 4 (tm 6) (tm 106))] [kp [6] [6, 70, 79, 86, 94, 105, 126, 142, 156]]) .ret) (.seq (.reg [om 108 13, od 109 (.bin .gtr (tm 108) (ki 10)), om 110 109, oT 111 (.mv (tm 11)) 110, oT
 112 (le 0 111) 110, oT 113 (.bin .gtr (tm 112) (ki 0)) 110, od 114 (.pick (tm 110) (tm 113) kF), om 107 114] [kp [4, 6, 8, 11, 107] [6, 51, 70, 79, 86, 94, 105, 126, 142, 156]]) (.cond (tm 107) (.seq (.reg [od 115 (fa 1 4), od 116
 (.iadrA 3 1 (tm 115) (ki 0)), od 117 (ld 1 116), od 118 (.conv .i64 (tm 117)), om 119 11, od 120 (le 0 119), od 121 (.bin .rem (tm 118) (tm 120)), om 15 121] [kp [6, 11, 15] [6, 51, 70, 79, 86, 94, 105, 126, 142, 156]]) (.seq (.reg
 [om 122 11, om 123 15, od 124 (ia 1 122 123), od 125 (ld 1 124), od 126 (.bsl false 3 1 [(tm 125)]), od 127 (.build [(1, (ku 13)), (1, (tm 126)), (1, (ki 0)), (1, (ki 0))]), od 16 (.alloc false [(.int .u8 0), (.slice none 0 0),
 (.int .i64 0), (.int .i64 0)]), on (.store 4 (tm 16) (tm 127))] [kp [6, 11, 15, 16] [6, 16, 51, 70, 79, 86, 94, 105, 126, 142, 156]]) (.seq (.seq (.reg [om 128 11, od 129 (le 0 128), od 130 (.bin .gtr (tm 129) (ki 1))] [kp [6, 11,
 15, 16, 130] [6, 16, 51, 70, 79, 86, 94, 105, 126, 142, 156]]) (.cond (tm 130) (.reg [od 131 (fa 1 16), od 132 (.ldR 16 1 false (tm 131)), om 133 11, om 134 15, od 135 (.bin .add (tm 134) (ki 1)), om 136 11, od 137 (le 0 136), od
 138 (.bin .rem (tm 135) (tm 137)), od 139 (ia 1 133 138), od 140 (.ldR 51 1 false (tm 139)), od 141 (.bsl true 3 1 [(tm 140)]), od 142 (.app false 3 1 (tm 132) (tm 141)), od 143 (fa 1 16), on (.stR 16 1 (tm 143) (tm 142))] [kp [6,
 16] [6, 16, 70, 79, 86, 94, 105, 126, 142, 156]]) .skip)) (.seq (.reg [od 144 (lG 4 16), on (.store 4 (tm 6) (tm 144))] [kp [6] [6, 70, 79, 86, 94, 105, 126, 142, 156]]) .ret)))) (.seq (.reg [od 146 (fa 0 4), od 147 (ld 1 146), od
 148 (.bin .gtr (tm 147) (ku 240)), om 145 148] [kp [4, 6, 8, 145] [6, 70, 79, 86, 94, 105, 126, 142, 156]]) (.cond (tm 145) (.seq (.reg [od 149 (fa 1 4), od 150 (.iadrA 3 1 (tm 149) (ki 0)), od 151 (ld 1 150), od 152 (.bin .rem (tm
 151) (ku 2)), od 153 (.bin .add (ku 1) (tm 152)), od 154 (.build [(1, (tm 153)), (1, kN), (1, (ki 0)), (1, (ki 0))]), on (.store 4 (tm 6) (tm 154))] [kp [6] [6, 70, 79, 86, 94, 105, 126, 142, 156]]) .ret) .skip))))))))))))) (.seq
 (.reg [om 155 8, od 156 (.bsl false 3 1 [(tm 155)]), od 157 (.build [(1, (ku 3)), (1, (tm 156)), (1, (ki 0)), (1, (ki 0))]), on (.store 4 (tm 6) (tm 157))] [kp [6] [6, 70, 79, 86, 94, 105, 126, 142, 156]]) .ret)))))))))
theorem Vy (h : ∀ K : St → Prop, K = run P Γ O6 Q → run P Γ q2G (Am K Q) s) : run P Γ O6 Q s := Ae h
def Az : List RV := [.cell 6 4 true]
/- probecard/probecardlaw03.name (function 34) -/
abbrev q4k : IC := (.seq (.reg [od 2 (.mv (.const (sV [])))] [kp [0] []]) (.seq (.reg [om 3 0, od 4 (.bin .quo (tm 3) (ki 10)), od 5 (.bin .add (ki 48) (tm 4)), od 6 (.conv .u8 (tm 5)), om 7 0, od 8 (.bin .rem (tm 7) (ki 10)), od 9 (.bin .add (ki 48)
 (tm 8)), od 10 (.conv .u8 (tm 9)), od 11 (.bsl true 5 1 [(ku 110), (tm 6), (tm 10)]), od 12 (.bytesStr (tm 11)), om 2 12] [kp [2] []]) .ret))
def q4l : List RV := [.tmp 2]
end
end Go.Lg
namespace Go.Lg
open Go Go.Proofs
theorem q9y : Ap Tryz.prog 9 q4j 178 1 H7 = true := by kernel_rfl
theorem q7i : Ap Tryz.prog 33 q2H 158 3 Az = true := by kernel_rfl
theorem q9z : Ap Tryz.prog 34 q4k 13 1 q4l = true := by kernel_rfl
end Go.Lg
namespace Go.Lg
open Go Go.Proofs
variable {Γ : Tables}
structure Gd where
 k : Int
 a : Int
 b : Int
 d : Int
def tGd (g : Gd) : List T := [tK g.k, tK g.a, tK g.b, tK g.d]
structure CD where
 i : Int
 f : Int
 d0 : Int
 d1 : Int
 bus : Bool
 mem : Bool
 p0 : Int
 p1 : Int
 p2 : Int
 p3 : Int
 gates : Sl Gd
 outs : Sl Int
def Nh (x : CD) : List T := [tK x.i, tK x.f, tK x.d0, tK x.d1, tB x.bus, tB x.mem, tK x.p0, tK x.p1, tK x.p2, tK x.p3, .sl (An tGd x.gates.l) x.gates.cap x.gates.nl, .sl (Ab tK x.outs.l) x.outs.cap x.outs.nl]
def Byt (n : Int) : Prop := 0 ≤ n ∧ n ≤ 255
def qCG (g : Gd) : Prop := Byt g.k ∧ Byt g.a ∧ Byt g.b ∧ Byt g.d
def q15 (i : Nat) : List UInt8 := [110, UInt8.ofNat (48 + i / 10), UInt8.ofNat (48 + i % 10)]
theorem qGp (i : Nat) (hi : i < 100) : A3 Tryz.prog Γ 34 [tI i] (tS (q15 i)) := by
 refine A7 q9z rfl ?_
 have h1 : (i : Int).tdiv 10 = ((i / 10 : Nat) : Int) := by rw [Int.tdiv_eq_ediv_of_nonneg (by omega)]; omega
 have h2 : (i : Int).tmod 10 = ((i % 10 : Nat) : Int) := by rw [Int.tmod_eq_emod_of_nonneg (by omega)]; omega
 have h3 : i / 10 < 10 := by omega
 have h4 : i % 10 < 10 := by omega
 generalize hq : i / 10 = q at *
 generalize hr : i % 10 = r at *
 have e1 : (48 + (q : Int)).toNat = 48 + q := by omega
 have e2 : (48 + (r : Int)).toNat = 48 + r := by omega
 simp (disch := omega) [q4k, sV, h1, h2, A4, Bh, O0]
 simp [q4l, q15, hq, hr, tS, sV, e1, e2]
def q6e (nodes : List Nd) : List Int := Qs [12] nodes 0
def qDJ (bus : Bool) (g : Gd) (a b d : Int) (t : List Int) : Nd :=
 let kind := if bus then g.k.tmod 13 else g.k.tmod 9
 if kind < 6 then ⟨5 + kind, if 128 ≤ g.k then ⟨[a, b, d], none, none⟩ else ⟨[a, b], none, none⟩, 0, 0⟩
 else if kind = 6 then ⟨4, ⟨[a], none, none⟩, 0, 0⟩
 else if kind = 7 then ⟨11, ⟨[a, b, d], none, none⟩, 0, 0⟩
 else if kind = 9 ∨ kind = 10 then ⟨12, ⟨[a, b], none, none⟩, 0, 0⟩
 else if 10 < kind ∧ 0 < t.length then
  let k := g.a.tmod t.length
  ⟨13, if 1 < t.length then ⟨[t.getD k.toNat 0, t.getD ((k + 1).tmod t.length).toNat 0], none, none⟩ else ⟨[t.getD k.toNat 0], none, none⟩, 0, 0⟩
 else if 240 < g.k then ⟨1 + g.a.tmod 2, ⟨[], some 0, some true⟩, 0, 0⟩
 else ⟨3, ⟨[a], none, none⟩, 0, 0⟩
def q6f (bus : Bool) (g : Gd) (nodes : List Nd) : Nd := qDJ bus g (g.a.tmod nodes.length) (g.b.tmod nodes.length) (g.d.tmod nodes.length) (q6e nodes)
theorem qBS {Q : AX → St → Prop} (nodes : List Nd) (cap : Option Nat) (nl : Option Bool) (hl : nodes.length ≤ 100) (a3 a4 a8 a9 a10 : T) (r6 : List T)
  (h0 : Q (.exit 0) ⟨[(2, .t (.sl (An Dn nodes) cap nl)), (3, .t a3), (4, .t a4), (6, .lp 6 0 0), (7, .t (tI nodes.length)), (8, .t a8), (9, .t a9), (10, .t a10), (11, .ls 51 0 (q6e nodes).length none), (12, .t (tI nodes.length)), (39, .t (tB false))], [(6, .bx (r6.map AV.t)), (51, .sl 3 1 (Av (q6e nodes)))]⟩) : ∀ (k i : Nat), k + i = nodes.length →
  run Tryz.prog Γ O6 Q ⟨[(2, .t (.sl (An Dn nodes) cap nl)), (3, .t a3), (4, .t a4), (6, .lp 6 0 0), (7, .t (tI nodes.length)), (8, .t a8), (9, .t a9), (10, .t a10), (11, .ls 51 0 (q6e (nodes.take i)).length none), (12, .t (tI i))], [(6, .bx (r6.map AV.t)), (51, .sl 3 1 (Av (q6e (nodes.take i))))]⟩
 | 0, i, h => by
  refine Vy fun K hK => ?_
  have h2 : ¬ i < nodes.length := by omega
  have h3 : i = nodes.length := by omega
  simp [h2]
  subst h3
  simpa using h0
 | k + 1, i, h => by
  refine Vy fun K hK => ?_
  have h2 : i < nodes.length := by omega
  have ht : nodes.take (i + 1) = nodes.take i ++ [nodes[i]] := by rw [List.take_add_one]; simp [h2]
  have hlen := X3 [12] (nodes.take i) 0
  have htl : (nodes.take i).length = i := by simp; omega
  have hal : q6e (nodes.take (i + 1)) = if nodes[i].k = 12 then q6e (nodes.take i) ++ [(i : Int)] else q6e (nodes.take i) := by
   simp only [q6e]
   rw [ht, q9A, htl]
   simp only [Qs, Nat.zero_add, List.contains_cons, List.contains_nil, Bool.or_false, qJj, decide_eq_true_eq]
   split <;> simp
  have ih := qBS nodes cap nl hl a3 a4 a8 a9 a10 r6 h0 k (i + 1) (by omega)
  rw [hal] at ih
  simp only [q6e] at ih ⊢
  by_cases h5 : nodes[i].k = 12
  ·rw [if_pos h5] at ih
   have hw : Ce 1 [[tI (i : Int)]] := by intro e he; simp at he; subst he; rfl
   simp (disch := omega) [h2, A9, E3 Nd.d, Bd, Dn, B1, h5, A4, A0, A6, hw]
   rw [hK]
   simp at ih
   rw [Bf (f := tI) (x := (i : Int))]
   exact ⟨by omega, ih⟩
  ·rw [if_neg h5] at ih
   simp (disch := omega) [h2, A9, E3 Nd.d, Bd, Dn, B1, h5, A4]
   rw [hK]
   simpa using ih
theorem Cm {a : Int} {n : Nat} (h0 : 0 ≤ a) (h1 : 0 < n) : 0 ≤ a.tmod n ∧ a.tmod n < n := by
 rw [Int.tmod_eq_emod_of_nonneg h0]
 exact ⟨Int.emod_nonneg _ (by omega), Int.emod_lt_of_pos _ (by omega)⟩
theorem C9 {ty s : Nat} {es : List (List T)} : Tt (.sl ty s es) = ∀ e ∈ es, ∀ t ∈ e, As t = true := rfl
set_option maxHeartbeats 4000000 in
theorem qGq (x : CD) (g : Gd) (hg : qCG g) (nodes : List Nd) (cap : Option Nat) (nl : Option Bool) (h0 : 1 ≤ nodes.length) (h1 : nodes.length ≤ 100) :
  A3 Tryz.prog Γ 33 [.agg (Nh x), .agg (tGd g), .sl (An Dn nodes) cap nl] (.agg (Dn (q6f x.bus g nodes))) := by
 refine A7 q7i rfl ?_
 obtain ⟨⟨hk0, hk1⟩, ⟨ha0, ha1⟩, ⟨hb0, hb1⟩, ⟨hd0, hd1⟩⟩ := hg
 have hn0 : ¬ (nodes.length : Int) = 0 := by omega
 have hn1 : (nodes.length : Int) ≠ 0 := by omega
 have hne : ¬ nodes = [] := fun e => by subst e; simp at h0
 have hlp := fun Q a3 a4 a8 a9 a10 r6 h0 => qBS (Γ := Γ) (Q := Q) nodes cap nl h1 a3 a4 a8 a9 a10 r6 h0 nodes.length 0 (by omega)
 have ht := X3 [12] nodes 0
 simp only [q6e, List.take_zero, Qs, List.length_nil, D4] at hlp
 simp (disch := omega) [q2H, Nh, tGd, A9, A4, hn0]
 refine ⟨hne, hlp _ _ _ _ _ _ [_, _, _, _] ?_⟩
 clear hlp
 unfold q6f
 simp only [q6e]
 generalize Qs [12] nodes 0 = t at *
 have m13 : 0 ≤ g.k.tmod 13 ∧ g.k.tmod 13 < 13 := Cm (n := 13) hk0 (by omega)
 have m9 : 0 ≤ g.k.tmod 9 ∧ g.k.tmod 9 < 9 := Cm (n := 9) hk0 (by omega)
 have ma : 0 ≤ g.a.tmod 2 ∧ g.a.tmod 2 < 2 := Cm (n := 2) ha0 (by omega)
 generalize g.a.tmod nodes.length = a
 generalize g.b.tmod nodes.length = b
 generalize g.d.tmod nodes.length = d
 unfold qDJ
 cases x.bus
 ·generalize hkk : g.k.tmod 9 = kk at *
  by_cases k1 : kk < 6
  ·by_cases k2 : 128 ≤ g.k
   ·simp (disch := omega) [hkk, k1, k2, A4, Bh, Bg, Az, Dn, B1, Ab, Ce, Ah, C9]
   ·simp (disch := omega) [hkk, k1, k2, A4, Bh, Bg, Az, Dn, B1, Ab, Ce, Ah, C9]
  by_cases k3 : kk = 6
  ·simp (disch := omega) [hkk, k1, k3, A4, Bh, Bg, Az, Dn, B1, Ab, Ce, Ah, C9]
  by_cases k4 : kk = 7
  ·simp (disch := omega) [hkk, k1, k4, A4, Bh, Bg, Az, Dn, B1, Ab, Ce, Ah, C9]
  have k5 : kk = 8 := by omega
  by_cases k6 : 240 < g.k
  ·simp (disch := omega) [hkk, k5, k6, A4, Bh, Bg, Az, Dn, B1, Ab, Ce, Ah, C9]
  ·simp (disch := omega) [hkk, k5, k6, A4, Bh, Bg, Az, Dn, B1, Ab, Ce, Ah, C9]
 ·generalize hkk : g.k.tmod 13 = kk at *
  by_cases k1 : kk < 6
  ·by_cases k2 : 128 ≤ g.k
   ·simp (disch := omega) [hkk, k1, k2, A4, Bh, Bg, Az, Dn, B1, Ab, Ce, Ah, C9]
   ·simp (disch := omega) [hkk, k1, k2, A4, Bh, Bg, Az, Dn, B1, Ab, Ce, Ah, C9]
  by_cases k3 : kk = 6
  ·simp (disch := omega) [hkk, k1, k3, A4, Bh, Bg, Az, Dn, B1, Ab, Ce, Ah, C9]
  by_cases k4 : kk = 7
  ·simp (disch := omega) [hkk, k1, k4, A4, Bh, Bg, Az, Dn, B1, Ab, Ce, Ah, C9]
  by_cases k8 : kk = 9
  ·simp (disch := omega) [hkk, k8, A4, Bh, Bg, Az, Dn, B1, Ab, Ce, Ah, C9]
  by_cases k9 : kk = 10
  ·simp (disch := omega) [hkk, k9, A4, Bh, Bg, Az, Dn, B1, Ab, Ce, Ah, C9]
  by_cases k10 : 10 < kk ∧ 0 < t.length
  ·obtain ⟨k11, k10⟩ := k10
   have htn : ¬ (t.length : Int) = 0 := by omega
   have htne : ¬ t = [] := fun e => by subst e; simp at k10
   have htp : (0 : Int) < t.length := by omega
   have mt := Cm (n := t.length) ha0 k10
   generalize hq : g.a.tmod t.length = q at *
   have mt2 := Cm (a := q + 1) (n := t.length) (by omega) k10
   have hq0 : q.toNat < t.length := by omega
   generalize hq2 : (q + 1).tmod t.length = q2 at *
   have hq20 : q2.toNat < t.length := by omega
   have e1 := Bv (f := tI) 0 hq0
   have e2 := Bv (f := tI) 0 hq20
   by_cases k12 : 1 < t.length
   ·have k12' : (1 : Int) < t.length := by omega
    simp (disch := omega) [hkk, k1, k3, k4, k8, k9, k11, k10, htp, htn, k12, k12', hq, hq2, e1, e2, hq0, hq20, mt.1, mt.2, mt2.1, mt2.2, htne, A0, A6, A4, Bh, Bg, Dn, B1, Ah, C9, Az]
    simp [Ce, Ab]
   ·have k12' : ¬ (1 : Int) < t.length := by omega
    simp (disch := omega) [hkk, k1, k3, k4, k8, k9, k11, k10, htp, htn, k12, k12', hq, hq2, e1, e2, hq0, hq20, mt.1, mt.2, mt2.1, mt2.2, htne, A0, A6, A4, Bh, Bg, Dn, B1, Ah, C9, Az]
    simp [Ce, Ab]
  ·by_cases k11 : 10 < kk
   ·have k10' : t = [] := List.eq_nil_of_length_eq_zero (by omega)
    subst k10'
    by_cases k6 : 240 < g.k
    ·simp (disch := omega) [hkk, k1, k3, k4, k8, k9, k11, k6, A4, Bh, Bg, Az, Dn, B1, Ab, Ce, Ah, C9]
    ·simp (disch := omega) [hkk, k1, k3, k4, k8, k9, k11, k6, A4, Bh, Bg, Az, Dn, B1, Ab, Ce, Ah, C9]
   ·have k5 : kk = 8 := by omega
    by_cases k6 : 240 < g.k
    ·simp (disch := omega) [hkk, k5, k6, A4, Bh, Bg, Az, Dn, B1, Ab, Ce, Ah, C9]
    ·simp (disch := omega) [hkk, k5, k6, A4, Bh, Bg, Az, Dn, B1, Ab, Ce, Ah, C9]
def q2l : T := .sl [] (some 0) (some true)
def Su (nodes : List Nd) (names : List (List UInt8)) (m : T) (outs : List Int) : List (Nat × B7) :=
 [(2, .bx [.t q2l, .t q2l, .t q2l, .t q2l]), (3, .bx [.ls 25 0 nodes.length none, .ls 144 0 names.length none, .t m, .ls 168 0 outs.length none]), (25, .sl 73 4 (An Dn nodes)), (144, .sl 9 1 (Ab tS names)), (168, .sl 3 1 (Av outs))]
def q8o : Nd := ⟨0, ⟨[], some 0, some true⟩, 0, 0⟩
def q7j (l : Int) : Nd := ⟨14, ⟨[l], some 1, some false⟩, 0, 0⟩
def q5h (b : Int) : Nd := ⟨15, ⟨[], some 0, some true⟩, 0, b⟩
theorem qBT {Q : AX → St → Prop} (x : CD) (hx : Byt x.i) (R : List Nd)
  (h0 : Q (.exit 0) ⟨[(1, .t (.ip (Nh x) 0)), (2, .lp 2 0 0), (3, .lp 3 0 0), (4, .t (tI (x.i.tmod 4 + 1))), (18, .t (tB false))], Su R [] q2l []⟩) : ∀ (k : Nat) (i : Int) (ns : List Nd), k + i = x.i.tmod 4 + 1 → ns ++ List.replicate k q8o = R → ns.length + k ≤ 100 →
  run Tryz.prog Γ Tu Q ⟨[(1, .t (.ip (Nh x) 0)), (2, .lp 2 0 0), (3, .lp 3 0 0), (4, .t (tI i))], Su ns [] q2l []⟩
 | 0, i, ns, h, hR, hl => by
  refine Zn fun K hK => ?_
  have m4 : 0 ≤ x.i.tmod 4 ∧ x.i.tmod 4 < 4 := Cm (n := 4) hx.1 (by omega)
  have h2 : ¬ i ≤ x.i.tmod 4 := by omega
  have h3 : i = x.i.tmod 4 + 1 := by omega
  simp only [List.replicate_zero, List.append_nil] at hR
  subst hR
  simp (disch := omega) [h2, Nh, Su, A4, Bh]
  subst h3
  simpa [Nh, Su] using h0
 | k + 1, i, ns, h, hR, hl => by
  refine Zn fun K hK => ?_
  have m4 : 0 ≤ x.i.tmod 4 ∧ x.i.tmod 4 < 4 := Cm (n := 4) hx.1 (by omega)
  have h2 : i ≤ x.i.tmod 4 := by omega
  have ih := qBT x hx R h0 k (i + 1) (ns ++ [q8o]) (by omega) (by rw [← hR]; simp [List.replicate_succ]) (by simp; omega)
  have q : An Dn ns ++ [[tK 0, .sl [] (some 0) (some true), tI 0, tI 0]] = An Dn (ns ++ [q8o]) := q0y (f := Dn) (x := q8o)
  have hw4 : Ce 4 [[tK 0, .sl [] (some 0) (some true), tI 0, tI 0]] := by intro e he; simp at he; subst he; rfl
  have ht : (An Dn ns).take ns.length = An Dn ns := List.take_of_length_le (by simp [An])
  simp (disch := omega) [h2, Nh, Su, A4, Bh, A9, hw4, Bd, ht, q]
  rw [hK]
  simp [Nh, Su] at ih
  exact ⟨by omega, ih⟩
theorem qFg {Q : AX → St → Prop} (x : CD) (hx : Byt x.f) (first : Int) (R : List Nd)
  (h0 : Q (.exit 2) ⟨[(1, .t (.ip (Nh x) 0)), (2, .lp 2 0 0), (3, .lp 3 0 0), (5, .t (tI first)), (6, .t (tI (x.f.tmod 3))), (7, .t (tI (x.f.tmod 3))), (36, .t (tB false))], Su R [] q2l []⟩) : ∀ (k : Nat) (i : Int) (ns : List Nd), k + i = x.f.tmod 3 → ns ++ List.replicate k (q7j 0) = R → ns.length + k ≤ 100 →
  run Tryz.prog Γ Tv Q ⟨[(1, .t (.ip (Nh x) 0)), (2, .lp 2 0 0), (3, .lp 3 0 0), (5, .t (tI first)), (6, .t (tI (x.f.tmod 3))), (7, .t (tI i))], Su ns [] q2l []⟩
 | 0, i, ns, h, hR, hl => by
  refine Zo fun K hK => ?_
  have m3 : 0 ≤ x.f.tmod 3 ∧ x.f.tmod 3 < 3 := Cm (n := 3) hx.1 (by omega)
  have h2 : ¬ i < x.f.tmod 3 := by omega
  have h3 : i = x.f.tmod 3 := by omega
  simp only [List.replicate_zero, List.append_nil] at hR
  subst hR
  simp (disch := omega) [h2, Nh, Su, A4, Bh]
  subst h3
  simpa [Nh, Su] using h0
 | k + 1, i, ns, h, hR, hl => by
  refine Zo fun K hK => ?_
  have m3 : 0 ≤ x.f.tmod 3 ∧ x.f.tmod 3 < 3 := Cm (n := 3) hx.1 (by omega)
  have h2 : i < x.f.tmod 3 := by omega
  have ih := qFg x hx first R h0 k (i + 1) (ns ++ [q7j 0]) (by omega) (by rw [← hR]; simp [List.replicate_succ]) (by simp; omega)
  have q : An Dn ns ++ [[tK 14, .sl [[tI 0]] (some 1) (some false), tI 0, tI 0]] = An Dn (ns ++ [q7j 0]) := q0y (f := Dn) (x := q7j 0)
  have hw4 : Ce 4 [[tK 14, .sl [[tI 0]] (some 1) (some false), tI 0, tI 0]] := by intro e he; simp at he; subst he; rfl
  have ht : (An Dn ns).take ns.length = An Dn ns := List.take_of_length_le (by simp [An])
  simp (disch := omega) [h2, Nh, Su, A4, Bh, A9, hw4, Bd, ht, q]
  rw [hK]
  simp [Nh, Su] at ih
  exact ⟨by omega, ih⟩
def Sv (bus : Bool) : List Gd → List Nd → List Nd
 | [], ns => ns
 | g :: l, ns => Sv bus l (ns ++ [q6f bus g ns])
theorem qJr {l : List Gd} : Ce 4 (An tGd l) := Xn fun _ => rfl
def Gd.z : Gd := ⟨0, 0, 0, 0⟩
theorem qDK {Q : AX → St → Prop} (x : CD) (hx : ∀ g ∈ x.gates.l, qCG g) (first dffs : Int) (R : List Nd)
  (h0 : Q (.exit 4) ⟨[(1, .t (.ip (Nh x) 0)), (2, .lp 2 0 0), (3, .lp 3 0 0), (5, .t (tI first)), (6, .t (tI dffs)), (8, .t (tI (min x.gates.l.length 8 : Nat))), (63, .t (tB false))], Su R [] q2l []⟩) : ∀ (k i : Nat) (ns : List Nd), k + i = min x.gates.l.length 8 → Sv x.bus ((x.gates.l.take 8).drop i) ns = R → 1 ≤ ns.length → ns.length + k ≤ 100 →
  run Tryz.prog Γ Tz Q ⟨[(1, .t (.ip (Nh x) 0)), (2, .lp 2 0 0), (3, .lp 3 0 0), (5, .t (tI first)), (6, .t (tI dffs)), (8, .t (tI i))], Su ns [] q2l []⟩
 | 0, i, ns, h, hR, hl1, hl => by
  refine Zp fun K hK => ?_
  rw [List.drop_of_length_le (by simp; omega)] at hR
  simp only [Sv] at hR
  subst hR
  have hi : i = min x.gates.l.length 8 := by omega
  by_cases h2 : i < x.gates.l.length
  ·have h3 : ¬ (i : Int) < 8 := by omega
   have h3' : ¬ i < 8 := by omega
   simp (disch := omega) [h2, h3, h3', Nh, Su, A9]
   subst hi
   simpa [Nh, Su] using h0
  ·simp (disch := omega) [h2, Nh, Su, A9]
   subst hi
   simpa [Nh, Su] using h0
 | k + 1, i, ns, h, hR, hl1, hl => by
  refine Zp fun K hK => ?_
  have h2 : i < x.gates.l.length := by omega
  have h3 : i < 8 := by omega
  have h3' : (i : Int) < 8 := by omega
  rw [List.drop_eq_getElem_cons (by simp; omega)] at hR
  simp only [Sv, List.getElem_take] at hR
  have ih := qDK x hx first dffs R h0 k (i + 1) (ns ++ [q6f x.bus x.gates.l[i] ns]) (by omega) hR (by simp) (by simp; omega)
  have hg := qGq (Γ := Γ) x x.gates.l[i] (hx _ (List.getElem_mem h2)) ns none none hl1 (by omega)
  generalize q6f x.bus x.gates.l[i] ns = gn at *
  have q : An Dn ns ++ [Dn gn] = An Dn (ns ++ [gn]) := q0y (f := Dn) (x := gn)
  have hw4 : Ce 4 [Dn gn] := by intro e he; simp at he; subst he; rfl
  have ht : (An Dn ns).take ns.length = An Dn ns := List.take_of_length_le (by simp [An])
  have hget := E3 (f := tGd) Gd.z h2
  simp (disch := omega) [h2, h3, h3', Nh, Su, A4, A9, hget, qJr, tGd]
  refine A1 hg (by simp [Ah, Nh, ht, tGd]) ?_
  simp [Dn] at q hw4
  simp (disch := omega) [Dn, A4, A9, hw4, Bd, ht, q]
  rw [hK]
  simp [Nh, Su] at ih
  exact ⟨rfl, by omega, ih⟩
def ddN (x : CD) (i : Nat) : Int := if i = 0 then x.d0 else x.d1
def Vz (ns : List Nd) (j : Nat) (v : Int) : List Nd := ns.set j ⟨(ns.getD j Nd.d).k, ⟨[v], some 1, some false⟩, (ns.getD j Nd.d).mem, (ns.getD j Nd.d).bit⟩
def q3C (x : CD) (first : Nat) : Nat → Nat → List Nd → List Nd
 | 0, _, ns => ns
 | k + 1, i, ns => q3C x first k (i + 1) (Vz ns (first + i) ((ddN x i).tmod ns.length))
theorem P7 {ns : List Nd} {j : Nat} {v : Int} : (Vz ns j v).length = ns.length := by simp [Vz]
theorem q7k {x : CD} {f : Nat} : ∀ {k i : Nat} {ns : List Nd}, (q3C x f k i ns).length = ns.length
 | 0, _, _ => rfl
 | k + 1, i, ns => by simp only [q3C]; rw [q7k, P7]
theorem qLs {ns : List Nd} {j : Nat} {v : Int} (hj : j < ns.length) : (An Dn ns).set j (((An Dn ns)[j]?.getD []).take 1 ++ T.sl [[tI v]] (some 1) (some false) :: ((An Dn ns)[j]?.getD []).drop 2) = An Dn (Vz ns j v) := by
 rw [E3 (f := Dn) Nd.d hj]
 unfold Vz An
 rw [List.map_set]
 rfl
theorem qFh {Q : AX → St → Prop} (x : CD) (h0' : Byt x.d0) (h1' : Byt x.d1) (first dn n : Nat) (hdn : dn ≤ 2) (hn : 1 ≤ n ∧ n ≤ 100) (hf : first + dn ≤ n) (R : List Nd)
  (h0 : Q (.exit 6) ⟨[(1, .t (.ip (Nh x) 0)), (2, .lp 2 0 0), (3, .lp 3 0 0), (5, .t (tI first)), (6, .t (tI dn)), (9, .t (tI n)), (10, .t (tI dn)), (85, .t (tB false))], Su R [] q2l []⟩) : ∀ (k i : Nat) (ns : List Nd), k + i = dn → q3C x first k i ns = R → ns.length = n →
  run Tryz.prog Γ U0 Q ⟨[(1, .t (.ip (Nh x) 0)), (2, .lp 2 0 0), (3, .lp 3 0 0), (5, .t (tI first)), (6, .t (tI dn)), (9, .t (tI n)), (10, .t (tI i))], Su ns [] q2l []⟩
 | 0, i, ns, h, hR, hl => by
  refine Zq fun K hK => ?_
  simp only [q3C] at hR
  subst hR
  have h2 : ¬ i < dn := by omega
  have h3 : i = dn := by omega
  simp (disch := omega) [h2, Nh, Su]
  subst h3
  simpa [Nh, Su] using h0
 | k + 1, i, ns, h, hR, hl => by
  refine Zq fun K hK => ?_
  have h2 : i < dn := by omega
  simp only [q3C] at hR
  have ih := qFh x h0' h1' first dn n hdn hn hf R h0 k (i + 1) _ (by omega) hR (by rw [P7]; exact hl)
  have hi : i = 0 ∨ i = 1 := by omega
  have hj : first + i < ns.length := by omega
  have hn0 : ¬ (n : Int) = 0 := by omega
  have hget := E3 (f := Dn) Nd.d hj
  obtain ⟨h01, h02⟩ := h0'
  obtain ⟨h11, h12⟩ := h1'
  have hs := fun v => qLs (v := v) hj
  have hn' : ¬ n = 0 := by omega
  have hfi : first + i < n := by omega
  rcases hi with rfl | rfl
  ·have hdd : ddN x 0 = x.d0 := rfl
   have h2' : (0 : Int) < dn := by omega
   rw [hdd, hl] at ih
   simp only [Nat.add_zero] at hs hfi ih
   simp (disch := omega) [h2, h2', Nh, Su, A4, A9, Bd, hn0, hl, hs, hn', hfi]
   rw [hK]
   simp [Nh, Su, P7, hl] at ih
   exact ih
  ·have hdd : ddN x 1 = x.d1 := rfl
   have h2' : (1 : Int) < dn := by omega
   rw [hdd, hl] at ih
   have hfn : ((first : Int) + 1).toNat = first + 1 := by omega
   have hfi' : (first : Int) + 1 < n := by omega
   simp (disch := omega) [h2, h2', Nh, Su, A4, A9, Bd, hn0, hl, hs, hn', hfi, hfn, hfi']
   rw [hK]
   simp [Nh, Su, P7, hl] at ih
   exact ⟨by omega, ih⟩
theorem qDL {Q : AX → St → Prop} (x : CD) (n : Nat) (hn : n ≤ 100) (ns : List Nd) (m : T) (R : List (List UInt8))
  (h0 : Q (.exit 8) ⟨[(1, .t (.ip (Nh x) 0)), (2, .lp 2 0 0), (3, .lp 3 0 0), (9, .t (tI n)), (11, .t (tI n)), (136, .t (tB false))], Su ns R m []⟩) : ∀ (k i : Nat) (nms : List (List UInt8)), k + i = n → nms ++ (List.range' i k).map q15 = R → nms.length = i →
  run Tryz.prog Γ U1 Q ⟨[(1, .t (.ip (Nh x) 0)), (2, .lp 2 0 0), (3, .lp 3 0 0), (9, .t (tI n)), (11, .t (tI i))], Su ns nms m []⟩
 | 0, i, nms, h, hR, hl => by
  refine Zr fun K hK => ?_
  simp only [List.range'_zero, List.map_nil, List.append_nil] at hR
  subst hR
  have h2 : ¬ i < n := by omega
  have h3 : i = n := by omega
  simp (disch := omega) [h2, Nh, Su]
  subst h3
  simpa [Nh, Su] using h0
 | k + 1, i, nms, h, hR, hl => by
  refine Zr fun K hK => ?_
  have h2 : i < n := by omega
  rw [List.range'_succ, List.map_cons] at hR
  have ih := qDL x n hn ns m R h0 k (i + 1) (nms ++ [q15 i]) (by omega) (by rw [← hR]; simp) (by simp; omega)
  have e := qGp (Γ := Γ) i (by omega)
  have q : Ab tS nms ++ [[tS (q15 i)]] = Ab tS (nms ++ [q15 i]) := Bf
  have ht : (Ab tS nms).take i = Ab tS nms := List.take_of_length_le (by simp [Ab]; omega)
  generalize q15 i = nm at *
  have hw : Ce 1 [[tS nm]] := by intro e he; simp at he; subst he; rfl
  simp (disch := omega) [h2, Nh, Su, A4, hl]
  refine A1 e rfl ?_
  simp only [tS, sV] at q hw
  simp (disch := omega) [tS, sV, A4, A0, hw, A6, ht, q, hl]
  rw [hK]
  simp [Nh, Su, hl] at ih
  exact ⟨by omega, ih⟩
theorem qFi {Q : AX → St → Prop} (x : CD) (hx : ∀ b ∈ x.outs.l, Byt b) (n : Nat) (hn : 1 ≤ n ∧ n ≤ 100) (ns : List Nd) (nms : List (List UInt8)) (m : T) (R : List Int)
  (h0 : Q (.exit 10) ⟨[(1, .t (.ip (Nh x) 0)), (2, .lp 2 0 0), (3, .lp 3 0 0), (9, .t (tI n)), (12, .t (tI (min x.outs.l.length 3 : Nat))), (154, .t (tB false))], Su ns nms m R⟩) : ∀ (k i : Nat) (os : List Int), k + i = min x.outs.l.length 3 → os ++ ((x.outs.l.take 3).drop i).map (fun b => b.tmod n) = R → os.length = i →
  run Tryz.prog Γ Q7 Q ⟨[(1, .t (.ip (Nh x) 0)), (2, .lp 2 0 0), (3, .lp 3 0 0), (9, .t (tI n)), (12, .t (tI i))], Su ns nms m os⟩
 | 0, i, os, h, hR, hl => by
  refine Y8 fun K hK => ?_
  rw [List.drop_of_length_le (by simp; omega)] at hR
  simp only [List.map_nil, List.append_nil] at hR
  subst hR
  have hi : i = min x.outs.l.length 3 := by omega
  by_cases h2 : i < x.outs.l.length
  ·have h3 : ¬ (i : Int) < 3 := by omega
   have h3' : ¬ i < 3 := by omega
   simp (disch := omega) [h2, h3, h3', Nh, Su, A0]
   subst hi
   simpa [Nh, Su] using h0
  ·simp (disch := omega) [h2, Nh, Su, A0]
   subst hi
   simpa [Nh, Su] using h0
 | k + 1, i, os, h, hR, hl => by
  refine Y8 fun K hK => ?_
  have h2 : i < x.outs.l.length := by omega
  have h3 : i < 3 := by omega
  have h3' : (i : Int) < 3 := by omega
  rw [List.drop_eq_getElem_cons (by simp; omega)] at hR
  simp only [List.map_cons, List.getElem_take] at hR
  have hb := hx _ (List.getElem_mem h2)
  obtain ⟨hb0, hb1⟩ := hb
  have hget := Bv (f := tK) 0 h2
  have hg2 : x.outs.l[i]?.getD 0 = x.outs.l[i] := by simp [h2]
  rw [hg2] at hget
  generalize x.outs.l[i] = b at *
  have hn0 : ¬ (n : Int) = 0 := by omega
  have hn0' : ¬ n = 0 := by omega
  have ih := qFi x hx n hn ns nms m R h0 k (i + 1) (os ++ [b.tmod n]) (by omega) (by rw [← hR]; simp) (by simp; omega)
  have q : Ab tI os ++ [[tI (b.tmod n)]] = Ab tI (os ++ [b.tmod n]) := Bf
  have ht : (Ab tI os).take i = Ab tI os := List.take_of_length_le (by simp [Ab]; omega)
  have hw : Ce 1 [[tI (b.tmod n)]] := by intro e he; simp at he; subst he; rfl
  simp (disch := omega) [h2, h3, h3', Nh, Su, A4, A0, A6, hget, hn0, hn0', hw, ht, q, hl]
  rw [hK]
  simp [Nh, Su, hl] at ih
  exact ⟨by omega, ih⟩
def Iy (x : CD) : List Nd := List.replicate (x.i.tmod 4 + 1).toNat q8o
def G3 (x : CD) : List Nd := Iy x ++ List.replicate (x.f.tmod 3).toNat (q7j 0)
def Ez (x : CD) : List Nd := if x.mem then G3 x ++ [q5h 0, q5h 1] else G3 x
def C5 (x : CD) : List Nd := Sv x.bus (x.gates.l.take 8) (Ez x)
def H8 (x : CD) : List Nd := q3C x (Iy x).length (x.f.tmod 3).toNat 0 (C5 x)
def qAq (x : CD) (n : Int) : List Mm := if x.mem then [⟨⟨[x.p0.tmod n], some 1, some false⟩, ⟨[x.p1.tmod n, x.p2.tmod n], some 2, some false⟩, x.p3.tmod n⟩] else []
def ofC (x : CD) : B5 :=
 ⟨⟨H8 x, none, none⟩, ⟨(List.range' 0 (C5 x).length).map q15, none, none⟩, ⟨qAq x (C5 x).length, some (if x.mem then 1 else 0), some (!x.mem)⟩, ⟨(x.outs.l.take 3).map (fun b => b.tmod (C5 x).length) ++ [((C5 x).length : Int) - 1], none, none⟩⟩
structure q7l (x : CD) : Prop where
 i : Byt x.i
 f : Byt x.f
 d0 : Byt x.d0
 d1 : Byt x.d1
 p0 : Byt x.p0
 p1 : Byt x.p1
 p2 : Byt x.p2
 p3 : Byt x.p3
 gates : ∀ g ∈ x.gates.l, qCG g
 outs : ∀ b ∈ x.outs.l, Byt b
theorem q1t {bus : Bool} : ∀ {l : List Gd} {ns : List Nd}, (Sv bus l ns).length = ns.length + l.length
 | [], ns => rfl
 | g :: l, ns => by simp only [Sv]; rw [q1t]; simp; omega
set_option maxHeartbeats 4000000 in
theorem qJs (x : CD) (hx : q7l x) : Ac Tryz.prog Γ 9 [.agg (Nh x)] (.agg (tC (ofC x))) := by
 refine Ar q9y rfl ?_
 have m4 : 0 ≤ x.i.tmod 4 ∧ x.i.tmod 4 < 4 := Cm (n := 4) hx.i.1 (by omega)
 have m3 : 0 ≤ x.f.tmod 3 ∧ x.f.tmod 3 < 3 := Cm (n := 3) hx.f.1 (by omega)
 have l1 : (Iy x).length = (x.i.tmod 4 + 1).toNat := by simp [Iy]
 have l2 : (G3 x).length = (x.i.tmod 4 + 1).toNat + (x.f.tmod 3).toNat := by simp [G3, Iy]
 have l3 : (G3 x).length ≤ (Ez x).length ∧ (Ez x).length ≤ 8 := by unfold Ez; split <;> simp <;> omega
 have l4 : (C5 x).length = (Ez x).length + min 8 x.gates.l.length := by unfold C5; rw [q1t]; simp
 have l5 : (H8 x).length = (C5 x).length := q7k
 have e1 := fun Q h0 => qBT (Γ := Γ) (Q := Q) x hx.i (Iy x) h0 (x.i.tmod 4 + 1).toNat 0 [] (by omega) rfl (by simp; omega)
 have e2 := fun Q h0 => qFg (Γ := Γ) (Q := Q) x hx.f (Iy x).length (G3 x) h0 (x.f.tmod 3).toNat 0 (Iy x) (by omega) rfl (by omega)
 have e3 := fun Q h0 => qDK (Γ := Γ) (Q := Q) x hx.gates (Iy x).length (x.f.tmod 3) (C5 x) h0 (min x.gates.l.length 8) 0 (Ez x) (by omega) rfl (by omega) (by omega)
 have e4 := fun Q h0 => qFh (Γ := Γ) (Q := Q) x hx.d0 hx.d1 (Iy x).length (x.f.tmod 3).toNat (C5 x).length (by omega) (by omega) (by omega) (H8 x) h0 (x.f.tmod 3).toNat 0 (C5 x) (by omega) rfl rfl
 have e5 := fun Q m h0 => qDL (Γ := Γ) (Q := Q) x (C5 x).length (by omega) (H8 x) m _ h0 (C5 x).length 0 [] (by omega) rfl rfl
 have e6 := fun Q nms m h0 => qFi (Γ := Γ) (Q := Q) x hx.outs (C5 x).length (by omega) (H8 x) nms m _ h0 (min x.outs.l.length 3) 0 [] (by omega) rfl rfl
 have hc : ((x.f.tmod 3).toNat : Int) = x.f.tmod 3 := by omega
 rw [hc] at e4
 have hk1 := fun {s : Nat} {e : List (List T)} {n : Nat} (h : e.length ≤ n) => List.take_of_length_le h
 have a33 : ∀ {os : List Int}, Ab tI os ++ [[tI (((C5 x).length : Int) - 1)]] = Ab tI (os ++ [((C5 x).length : Int) - 1]) := Bf
 have hw1 : Ce 1 [[tI (((C5 x).length : Int) - 1)]] := by intro e he; simp at he; subst he; rfl
 have hol : ((x.outs.l.take 3).map (fun b => b.tmod ((C5 x).length : Int))).length = min 3 x.outs.l.length := by simp
 have hnl : ((List.range' 0 (C5 x).length).map q15).length = (C5 x).length := by simp
 simp only [List.nil_append, List.drop_zero] at e5 e6
 generalize hN : C5 x = N4 at *
 generalize hO : (x.outs.l.take 3).map (fun b => b.tmod (N4.length : Int)) = O at *
 generalize hNm : (List.range' 0 N4.length).map q15 = Nm at *
 simp (config := { maxSteps := 2000000 }) [q4j, Nh]
 refine e1 _ ?_
 simp (config := { maxSteps := 2000000 }) (disch := omega) [Nh, Su, A4, Bh, A9]
 refine e2 _ ?_
 cases hm : x.mem
 ·have h3 : Ez x = G3 x := by simp [Ez, hm]
  rw [h3] at e3 l3 l4
  simp only [Nh, Su, hm] at e3 e4 e5 e6
  simp (config := { maxSteps := 2000000 }) (disch := omega) [Nh, Su, A4, Bh, A9, A0, q0x, Bd, A6, hm]
  refine e3 _ ?_
  simp (config := { maxSteps := 2000000 }) (disch := omega) [Nh, Su, A4, Bh, A9, A0, q0x, Bd, A6, hm]
  refine e4 _ ?_
  simp (config := { maxSteps := 2000000 }) (disch := omega) [Nh, Su, A4, Bh, A9, A0, q0x, Bd, A6, hm]
  refine e5 _ _ ?_
  simp (config := { maxSteps := 2000000 }) (disch := omega) [Nh, Su, A4, Bh, A9, A0, q0x, Bd, A6, hm]
  refine e6 _ _ _ ?_
  have ht : (Ab tI O).take O.length = Ab tI O := List.take_of_length_le (by simp [Ab])
  simp (config := { maxSteps := 2000000 }) (disch := omega) [Nh, Su, A4, Bh, A9, A0, q0x, Bd, A6, hm, ht, hw1, a33, H7, Ah, q2l]
  have ht2 : (Ab tI (O ++ [(N4.length : Int) - 1])).take (O.length + 1) = Ab tI (O ++ [(N4.length : Int) - 1]) := List.take_of_length_le (by simp [Ab])
  refine ⟨by omega, ?_⟩
  rw [ht2]
  simp [tC, ofC, qAq, hm, A5, A8, Ad, B1, hN, hO, hNm, An]
 ·have h3 : Ez x = G3 x ++ [q5h 0, q5h 1] := by simp [Ez, hm]
  have l3' : (Ez x).length = (G3 x).length + 2 := by rw [h3]; simp
  have q : An Dn (G3 x) ++ [[tK 15, .sl [] (some 0) (some true), tI 0, tI 0], [tK 15, .sl [] (some 0) (some true), tI 0, tI 1]] = An Dn (Ez x) := by rw [h3]; simp [An, q5h, Dn, B1, Ab]
  have hw4 : Ce 4 [[tK 15, .sl [] (some 0) (some true), tI 0, tI 0], [tK 15, .sl [] (some 0) (some true), tI 0, tI 1]] := by intro e he; simp at he; rcases he with rfl | rfl <;> rfl
  have ht0 : (An Dn (G3 x)).take (G3 x).length = An Dn (G3 x) := List.take_of_length_le (by simp [An])
  have ht : (Ab tI O).take O.length = Ab tI O := List.take_of_length_le (by simp [Ab])
  have hn0 : ¬ (N4.length : Int) = 0 := by omega
  have hn0' : ¬ N4 = [] := fun e => by rw [e] at l4; simp at l4; omega
  obtain ⟨b00, b01⟩ := hx.p0
  obtain ⟨b10, b11⟩ := hx.p1
  obtain ⟨b20, b21⟩ := hx.p2
  obtain ⟨b30, b31⟩ := hx.p3
  simp only [Nh, Su, hm] at e3 e4 e5 e6
  simp (config := { maxSteps := 2000000 }) (disch := omega) [Nh, Su, A4, Bh, A9, A0, Bd, A6, hm, ht, ht0, hw1, hw4, q, hn0, hn0', a33, H7, Ah, q2l]
  refine ⟨by omega, ?_⟩
  rw [← l3']
  refine e3 _ ?_
  simp (config := { maxSteps := 2000000 }) (disch := omega) [Nh, Su, A4, Bh, A9, A0, Bd, A6, hm, ht, ht0, hw1, hw4, q, hn0, hn0', a33, H7, Ah, q2l]
  refine e4 _ ?_
  simp (config := { maxSteps := 2000000 }) (disch := omega) [Nh, Su, A4, Bh, A9, A0, Bd, A6, hm, ht, ht0, hw1, hw4, q, hn0, hn0', a33, H7, Ah, q2l]
  refine e5 _ _ ?_
  simp (config := { maxSteps := 2000000 }) (disch := omega) [Nh, Su, A4, Bh, A9, A0, Bd, A6, hm, ht, ht0, hw1, hw4, q, hn0, hn0', a33, H7, Ah, q2l]
  refine e6 _ _ _ ?_
  simp (config := { maxSteps := 2000000 }) (disch := omega) [Nh, Su, A4, Bh, A9, A0, Bd, A6, hm, ht, ht0, hw1, hw4, q, hn0, hn0', a33, H7, Ah, q2l]
  have ht2 : (Ab tI (O ++ [(N4.length : Int) - 1])).take (O.length + 1) = Ab tI (O ++ [(N4.length : Int) - 1]) := List.take_of_length_le (by simp [Ab])
  refine ⟨by omega, ?_⟩
  rw [ht2]
  simp [tC, ofC, qAq, hm, A5, A8, Ad, B1, hN, hO, hNm, An, tMm, Ab]
def q5i (x : Nd) : Prop := (0 ≤ x.k ∧ x.k ≤ 255) ∧ x.inn.l.length ≤ 1000000000
theorem qI6 {bus : Bool} {g : Gd} {a b d : Int} {t : List Int} (hg : qCG g) : q5i (qDJ bus g a b d t) := by
 have m13 : 0 ≤ g.k.tmod 13 ∧ g.k.tmod 13 < 13 := Cm (n := 13) hg.1.1 (by omega)
 have m9 : 0 ≤ g.k.tmod 9 ∧ g.k.tmod 9 < 9 := Cm (n := 9) hg.1.1 (by omega)
 have ma : 0 ≤ g.a.tmod 2 ∧ g.a.tmod 2 < 2 := Cm (n := 2) hg.2.1.1 (by omega)
 have hk : 0 ≤ (if bus then g.k.tmod 13 else g.k.tmod 9) ∧ (if bus then g.k.tmod 13 else g.k.tmod 9) < 13 := by cases bus <;> simp <;> omega
 unfold qDJ
 simp only
 generalize (if bus = true then g.k.tmod 13 else g.k.tmod 9) = kk at *
 unfold q5i
 split
 ·refine ⟨⟨by simp; omega, by simp; omega⟩, ?_⟩
  simp only; split <;> simp
 split
 ·simp
 split
 ·simp
 split
 ·simp
 split
 ·simp only; split <;> simp
 split
 ·simp; omega
 ·simp
theorem qBU {bus : Bool} : ∀ {l : List Gd} {ns : List Nd}, (∀ g ∈ l, qCG g) → (∀ x ∈ ns, q5i x) → ∀ x ∈ Sv bus l ns, q5i x
 | [], ns, _, h => h
 | g :: l, ns, hg, h => by
  simp only [Sv]
  refine qBU (fun y hy => hg y (List.mem_cons_of_mem _ hy)) fun y hy => ?_
  rcases List.mem_append.1 hy with hy | hy
  ·exact h y hy
  ·simp at hy; subst hy; exact qI6 (hg g List.mem_cons_self)
theorem qI7 {ns : List Nd} {j : Nat} {v : Int} (h : ∀ x ∈ ns, q5i x) : ∀ x ∈ Vz ns j v, q5i x := by
 intro x hx
 unfold Vz at hx
 rcases List.mem_or_eq_of_mem_set hx with hx | rfl
 ·exact h x hx
 ·refine ⟨?_, by simp⟩
  simp only [List.getD_eq_getElem?_getD]
  by_cases hj : j < ns.length
  ·simp only [List.getElem?_eq_getElem hj, Option.getD_some]
   exact (h _ (List.getElem_mem hj)).1
  ·simp [List.getElem?_eq_none (Nat.le_of_not_lt hj), Nd.d]
theorem qDM {c : CD} {f : Nat} : ∀ {k i : Nat} {ns : List Nd}, (∀ x ∈ ns, q5i x) → ∀ x ∈ q3C c f k i ns, q5i x
 | 0, _, _, h => h
 | k + 1, i, ns, h => by simp only [q3C]; exact qDM (qI7 h)
theorem qGr {x : CD} (hx : q7l x) : ∀ n ∈ H8 x, q5i n := by
 have h1 : ∀ n ∈ Iy x, q5i n := fun n hn => by rw [(List.mem_replicate.1 hn).2]; simp [q5i, q8o]
 have h2 : ∀ n ∈ G3 x, q5i n := fun n hn => by
  rcases List.mem_append.1 hn with hn | hn
  ·exact h1 n hn
  ·rw [(List.mem_replicate.1 hn).2]; simp [q5i, q7j]
 have h3 : ∀ n ∈ Ez x, q5i n := by
  unfold Ez
  split
  ·intro n hn
   rcases List.mem_append.1 hn with hn | hn
   ·exact h2 n hn
   ·simp at hn; rcases hn with rfl | rfl <;> simp [q5i, q5h]
  ·exact h2
 exact qDM (qBU (fun g hg => hx.gates g (List.mem_of_mem_take hg)) h3)
theorem q5j {x : CD} (hx : q7l x) : 1 ≤ (C5 x).length ∧ (C5 x).length ≤ 16 := by
 have m4 : 0 ≤ x.i.tmod 4 ∧ x.i.tmod 4 < 4 := Cm (n := 4) hx.i.1 (by omega)
 have m3 : 0 ≤ x.f.tmod 3 ∧ x.f.tmod 3 < 3 := Cm (n := 3) hx.f.1 (by omega)
 have l2 : (G3 x).length = (x.i.tmod 4 + 1).toNat + (x.f.tmod 3).toNat := by simp [G3, Iy]
 have l3 : (G3 x).length ≤ (Ez x).length ∧ (Ez x).length ≤ 8 := by unfold Ez; split <;> simp <;> omega
 have l4 : (C5 x).length = (Ez x).length + min 8 x.gates.l.length := by unfold C5; rw [q1t]; simp
 omega
theorem q5k {x : CD} (hx : q7l x) : (H8 x).length = (C5 x).length := q7k
theorem qI8 {x : CD} (hx : q7l x) : COk (ofC x) := by
 have l := q5j hx
 have l5 := q5k hx
 have hn := qGr hx
 refine ⟨⟨?_, ?_, ?_, ?_, fun n h => (hn n h).1, fun n h => (hn n h).2, ?_⟩, ?_⟩
 ·simp only [ofC]; omega
 ·simp [ofC]; omega
 ·simp only [ofC, qAq]; split <;> simp
 ·simp [ofC]; omega
 ·intro m hm
  simp only [ofC, qAq] at hm
  split at hm
  ·simp at hm; subst hm; simp
  ·cases hm
 ·intro s hs b hb
  simp only [ofC] at hs
  obtain ⟨i, hi, rfl⟩ := List.mem_map.1 hs
  have := (List.mem_range'_1.1 hi).2
  have h1 : i / 10 < 10 := by omega
  have h2 : i % 10 < 10 := by omega
  have key : ∀ q : Nat, q < 10 → UInt8.ofNat (48 + q) < 128 := by decide
  simp only [q15, List.mem_cons, List.not_mem_nil, or_false] at hb
  rcases hb with rfl | rfl | rfl
  ·decide
  ·exact key _ h1
  ·exact key _ h2
end Go.Lg
namespace Go.Lg
open Go Go.Proofs Go.Proofs.YtjcogpofldkniaaGreatDoor
def G0 (g : Nat) : Option (List T) := if g = 0 then some qGg else none
theorem qOs : GOk G0 := rfl
theorem qNl : Tryz.prog.globalNamed "probecard/logic.fanins" = some 0 := by kernel_rfl
theorem qLt : (Tryz.prog.globals[0]?).map (·.type) = some 179 := by kernel_rfl
theorem qLu : Tryz.prog.cellsOf 3 = 1 := by kernel_rfl
theorem qI9 : Tryz.prog.cellsOf 4 = 1 := by kernel_rfl
theorem q3D : Tryz.prog.cellsOf 5 = 1 := by kernel_rfl
theorem qFj : Tryz.prog.cellsOf 22 = 2 := by kernel_rfl
theorem qFk : Tryz.prog.cellsOf 23 = 4 := by kernel_rfl
theorem qJt : Tryz.prog.cellsOf 24 = 1 := by kernel_rfl
theorem q9B : Tryz.prog.cellsOf 25 = 1 := by kernel_rfl
theorem qJu : Tryz.prog.cellsOf 27 = 12 := by kernel_rfl
theorem qFl : Tryz.prog.cellsOf 96 = 3 := by kernel_rfl
theorem qFm : Tryz.prog.cellsOf 98 = 4 := by kernel_rfl
theorem qIA : Tryz.prog.cellsOf 178 = 2 := by kernel_rfl
theorem qIB : Tryz.prog.cellsOf 179 = 32 := by kernel_rfl
theorem qGs {W : World} (h : laidMet Tryz.prog [("probecard/logic.fanins", Rows.laid_probecard_logic_fanins)] W) : ∀ j, j < 32 → W.cell? ⟨0, j, none⟩ = (q9m.flatMap fun x => [Value.int .i64 x.1, Value.int .i64 x.2])[j]? := by
 obtain ⟨ps, ⟨g', t', cs, fuel, p, q, hg', ht', hvar, hd, _, _⟩, _⟩ := h
 obtain rfl := Option.some.inj (qNl.symm.trans hg')
 obtain rfl := Option.some.inj (qLt.symm.trans ht')
 have hc := qEb (l := q9m) Tryz.underlying179 Tryz.underlying178 Tryz.underlying3 qLu qIA qIB hd
 intro j hj
 have := World.var?_cell qNl hvar j
 rw [this, ← hc]
 simp
theorem qLv {W : World} (h : laidMet Tryz.prog [("probecard/logic.fanins", Rows.laid_probecard_logic_fanins)] W) : Gl G0 W (Old W) := by
 have hc := qGs h
 intro g cs hg
 unfold G0 at hg
 split at hg
 case isFalse => cases hg
 rename_i h0; subst h0
 simp only [Option.some.injEq] at hg
 subst hg
 have hlen : (q9m.flatMap fun x => [Value.int .i64 x.1, Value.int .i64 x.2]).length = 32 := rfl
 have hfc : qGg = (q9m.flatMap fun x => [Value.int .i64 x.1, Value.int .i64 x.2]).map T.v := rfl
 have hfl : qGg.length = 32 := rfl
 refine .ip qGg 0 0 0 (fun j => (q9m.flatMap fun x => [Value.int .i64 x.1, Value.int .i64 x.2])[j]?.getD .nilFunc) ?_ ?_ ?_ ?_
 ·intro j hj
  rw [Nat.zero_add, hc j (by omega)]
  rw [List.getElem?_eq_getElem (by omega)]; rfl
 ·intro j t ht
  rw [hfc, List.getElem?_map, Option.map_eq_some_iff] at ht
  obtain ⟨v, hv, rfl⟩ := ht
  simp only [hv, Option.getD_some]
  exact .v v
 ·intro j t ht
  rw [hfc, List.getElem?_map, Option.map_eq_some_iff] at ht
  obtain ⟨v, hv, rfl⟩ := ht
  have hm := List.mem_of_getElem? hv
  obtain ⟨x, _, hx⟩ := List.mem_flatMap.1 hm
  simp at hx
  rcases hx with rfl | rfl <;> rfl
 ·have := hc 0 (by omega)
  rw [List.getElem?_eq_getElem (by omega)] at this
  exact qFc this
theorem qLw {n : Int} (h : (Lit.int .u8 n).wf = true) : Byt n := by
 simp [Lit.wf, IntKind.min, IntKind.max, IntKind.signed, IntKind.bits] at h
 exact ⟨h.1, by omega⟩
theorem qDN : Rd Tryz.prog 5 fun ts => ∃ n, ts = [tK n] ∧ Byt n := (qLn Tryz.underlying5).mono fun ts ⟨n, h, hw⟩ => ⟨n, h, qLw hw⟩
theorem q6g {α : Type} {f : α → List T} {Q : α → Prop} : ∀ {es : List (List T)}, (∀ x ∈ es, ∃ a, x = f a ∧ Q a) → ∃ l : List α, es = l.map f ∧ ∀ a ∈ l, Q a
 | [], _ => ⟨[], rfl, by simp⟩
 | e :: es, h => by
  obtain ⟨a, ha, hq⟩ := h e List.mem_cons_self
  obtain ⟨l, hl, hql⟩ := q6g fun x hx => h x (List.mem_cons_of_mem _ hx)
  exact ⟨a :: l, by rw [ha, hl]; rfl, fun b hb => by rcases List.mem_cons.1 hb with rfl | hb; exact hq; exact hql b hb⟩
theorem qOg : Rd Tryz.prog 98 fun ts => ∃ g, ts = tGd g ∧ qCG g := by
 refine (q0w (l := [(1, fun ts => ∃ n, ts = [tK n] ∧ Byt n), (3, q8F (List.replicate 3 (1, fun ts => ∃ n, ts = [tK n] ∧ Byt n)))]) Tryz.underlying98 qFm (.cons rfl q3D qDN (.cons rfl qFl (q9l Tryz.underlying96 q3D qFl qDN) (.nil _)))).mono fun ts h => ?_
 obtain ⟨_, _, rfl, ⟨k, rfl, hk⟩, _, _, rfl, ⟨_, _, rfl, ⟨a, rfl, ha⟩, _, _, rfl, ⟨b, rfl, hb⟩, _, _, rfl, ⟨d, rfl, hd⟩, rfl⟩, rfl⟩ := h
 exact ⟨⟨k, a, b, d⟩, rfl, hk, ha, hb, hd⟩
theorem qOh : Rd Tryz.prog 27 fun ts => ∃ x, ts = Nh x ∧ q7l x := by
 refine (q0w (l := [(1, fun ts => ∃ n, ts = [tK n] ∧ Byt n), (1, fun ts => ∃ n, ts = [tK n] ∧ Byt n), (2, q8F (List.replicate 2 (1, fun ts => ∃ n, ts = [tK n] ∧ Byt n))), (1, fun ts => ∃ b, ts = [tB b]), (1, fun ts => ∃ b, ts = [tB b]), (4, q8F (List.replicate 4 (1, fun ts => ∃ n, ts = [tK n] ∧ Byt n))), (1, _), (1, _)]) Tryz.underlying27 qJu
  (.cons rfl q3D qDN (.cons rfl q3D qDN (.cons rfl qFj (q9l Tryz.underlying22 q3D qFj qDN) (.cons rfl qI9 (qFd Tryz.underlying4) (.cons rfl qI9 (qFd Tryz.underlying4) (.cons rfl qFk (q9l Tryz.underlying23 q3D qFk qDN)
   (.cons rfl qJt (q6S Tryz.underlying24 qFm (by decide) qOg) (.cons rfl q9B (q6S Tryz.underlying25 q3D (by decide) qDN) (.nil _)))))))))).mono fun ts h => ?_
 obtain ⟨_, _, rfl, ⟨i, rfl, hi⟩, _, _, rfl, ⟨f, rfl, hf⟩, _, _, rfl, ⟨_, _, rfl, ⟨d0, rfl, hd0⟩, _, _, rfl, ⟨d1, rfl, hd1⟩, rfl⟩, _, _, rfl, ⟨bus, rfl⟩, _, _, rfl, ⟨mem, rfl⟩, _, _, rfl,
  ⟨_, _, rfl, ⟨p0, rfl, h0⟩, _, _, rfl, ⟨p1, rfl, h1⟩, _, _, rfl, ⟨p2, rfl, h2⟩, _, _, rfl, ⟨p3, rfl, h3⟩, rfl⟩, _, _, rfl, ⟨es, cap, nl, rfl, _, hes⟩, _, _, rfl, ⟨os, cap2, nl2, rfl, _, hos⟩, rfl⟩ := h
 obtain ⟨gs, rfl, hgs⟩ := q6g (f := tGd) (Q := qCG) fun x hx => (hes x hx).1
 obtain ⟨ol, rfl, hol⟩ := q6g (f := fun n => [tK n]) (Q := Byt) fun x hx => (hos x hx).1
 exact ⟨⟨i, f, d0, d1, bus, mem, p0, p1, p2, p3, ⟨gs, cap, nl⟩, ⟨ol, cap2, nl2⟩⟩, rfl, ⟨hi, hf, hd0, hd1, h0, h1, h2, h3, hgs, hol⟩⟩
end Go.Lg
namespace Go.Proofs.YtjcogpofldkniaaGreatDoor
open Go Go.Lg Go.ChangeShapes Go.WideShapes Go.ChangeAt Go.RowKit
theorem own : ownKnob Tryz.prog.godebug = none := by kernel_rfl
theorem qOV : laidOutB Tryz.prog = true := by kernel_rfl
theorem qOW {H : Type} {enc : TypeId × Value → H} {W : World} {base : Nat} {v : Value} {d : DataW H} {p : List MemPlace} (hval : Value.okWide Tryz.prog W .any base 27 v) (h : DataW.Trod enc Tryz.prog W 0 (fun _ => true) true 27 v d p) : ∃ x, q7l x ∧ TR W (Old W) (.agg (Nh x)) v := by
 simp only [Value.okWide, Tryz.underlying27] at hval
 obtain ⟨cs, rfl, _, _⟩ := hval
 obtain ⟨fuel, hf⟩ := h
 obtain ⟨ts, ⟨x, rfl, hx⟩, htr, ho⟩ := qOh H enc W true fuel _ _ hf
 exact ⟨x, hx, qHz htr ho⟩
noncomputable def qBV (os : Os) : World :=
 { World.holding Tryz.prog os ⟨#[], #[], []⟩ with heap := (World.holding Tryz.prog os ⟨#[], #[], []⟩).heap.modify 0 fun
   | .cells _ t frozen => .cells (q9m.flatMap fun x => [Value.int .i64 x.1, Value.int .i64 x.2]).toArray t frozen
   | o => o }
def c0 : Value := .agg #[.int .u8 0, .int .u8 0, .int .u8 0, .int .u8 0, .bool false, .bool false, .int .u8 0, .int .u8 0, .int .u8 0, .int .u8 0, .slice none 0 0, .slice none 0 0]
def d0 {H : Type} : DataW H := .agg [.lit (.int .u8 0), .lit (.int .u8 0), .agg [.lit (.int .u8 0), .lit (.int .u8 0)], .lit (.bool false), .lit (.bool false), .agg [.lit (.int .u8 0), .lit (.int .u8 0), .lit (.int .u8 0), .lit (.int .u8 0)], .nil, .nil]
theorem q1u {P : Program} {x : String × DataW Unit} {l : List (String × DataW Unit)} {w : World} (h : laidMet P (x :: l) w) : laidMet P l w := by
 obtain ⟨ps, hv, hn, hm⟩ := h
 obtain ⟨n, d⟩ := x
 obtain ⟨g, t, cs, fuel, p, q, h1, h2, h3, h4, h5, rfl⟩ := hv
 exact ⟨q, h5, (List.nodup_append.1 hn).2.1, fun b off hq => hm b off (List.mem_append_right _ hq)⟩
theorem qOi {W : World} (h : laidMetH Tryz.prog [("math/bits.deBruijn32tab", Rows.laid_math_bits_deBruijn32tab), ("math/bits.deBruijn64tab", Rows.laid_math_bits_deBruijn64tab), ("internal/strconv.uint64pow10", Rows.laid_internal_strconv_uint64pow10), ("probecard/logic.fanins", Rows.laid_probecard_logic_fanins)] W) : Gl G0 W (Old W) := by
 rw [MakeChecks.laidMetH_plain _ _ _ (by kernel_rfl)] at h
 exact qLv (q1u (q1u (q1u h)))
noncomputable def qLx (os : Os) : World :=
 { qBV os with heap := (((qBV os).heap.modify 1 fun
   | .cells _ t frozen => .cells ([.int .u64 1, .int .u64 10, .int .u64 100, .int .u64 1000, .int .u64 10000, .int .u64 100000, .int .u64 1000000, .int .u64 10000000, .int .u64 100000000, .int .u64 1000000000, .int .u64 10000000000, .int .u64 100000000000, .int .u64 1000000000000, .int .u64 10000000000000, .int .u64 100000000000000, .int .u64 1000000000000000, .int .u64 10000000000000000, .int .u64 100000000000000000, .int .u64 1000000000000000000, .int .u64 10000000000000000000] : List Value).toArray t frozen
   | o => o).modify 3 fun
   | .cells _ t frozen => .cells ([.int .u8 0, .int .u8 1, .int .u8 28, .int .u8 2, .int .u8 29, .int .u8 14, .int .u8 24, .int .u8 3, .int .u8 30, .int .u8 22, .int .u8 20, .int .u8 15, .int .u8 25, .int .u8 17, .int .u8 4, .int .u8 8, .int .u8 31, .int .u8 27, .int .u8 13, .int .u8 23, .int .u8 21, .int .u8 19, .int .u8 16, .int .u8 7, .int .u8 26, .int .u8 12, .int .u8 18, .int .u8 6, .int .u8 11, .int .u8 5, .int .u8 10, .int .u8 9] : List Value).toArray t frozen
   | o => o).modify 4 fun
   | .cells _ t frozen => .cells ([.int .u8 0, .int .u8 1, .int .u8 56, .int .u8 2, .int .u8 57, .int .u8 49, .int .u8 28, .int .u8 3, .int .u8 61, .int .u8 58, .int .u8 42, .int .u8 50, .int .u8 38, .int .u8 29, .int .u8 17, .int .u8 4, .int .u8 62, .int .u8 47, .int .u8 59, .int .u8 36, .int .u8 45, .int .u8 43, .int .u8 51, .int .u8 22, .int .u8 53, .int .u8 39, .int .u8 33, .int .u8 30, .int .u8 24, .int .u8 18, .int .u8 12, .int .u8 5, .int .u8 63, .int .u8 55, .int .u8 48, .int .u8 27, .int .u8 60, .int .u8 41, .int .u8 37, .int .u8 16, .int .u8 46, .int .u8 35, .int .u8 44, .int .u8 21, .int .u8 52, .int .u8 32, .int .u8 23, .int .u8 11, .int .u8 54, .int .u8 26, .int .u8 40, .int .u8 15, .int .u8 34, .int .u8 20, .int .u8 31, .int .u8 10, .int .u8 25, .int .u8 14, .int .u8 19, .int .u8 9, .int .u8 13, .int .u8 8, .int .u8 7, .int .u8 6] : List Value).toArray t frozen
   | o => o }
end Go.Proofs.YtjcogpofldkniaaGreatDoor
namespace Go.Lg
open Go Go.Proofs
def P8 (v : Int) : Int := if v < 2 then v else 2
def F2 (v : Int) : Int := if 3 < v then 2 else v
def N7 (v : Int) : Bool := decide (v ≤ 1)
def qIC (a b : Int) : Bool := decide (F2 a = F2 b ∨ F2 a = 2)
def q0d (v : Int) : Int := if v ≤ 1 then 1 - v else 2
def Nq (low high : Int) : Int → List Int → Int
 | out, [] => out
 | out, v :: l => if v = low then low else if v ≠ high then Nq low high 2 l else Nq low high out l
def qID (a b : Int) : Int := if a = b then 0 else 1
def q3E : Int → List Int → Int
 | out, [] => out
 | out, v :: l => if v ≤ 1 then q3E (qID out v) l else 2
def qAr (s a b : Int) : Int := if s = 0 then P8 a else if s = 1 then P8 b else if a = b then P8 a else 2
def qCH (e d : Int) : Int := if e = 0 then 3 else if e = 1 then P8 d else 2
def q7m (l : List Int) : Bool := l.contains 0 && l.contains 1
def qGt (v : Int) : Bool := decide (F2 v = 2)
def qIE (v : Int) : Bool := decide (v ≠ 3)
def qA0 (l : List Int) : Int := match l.findIdx? qIE with
 | none => 3
 | some i => if q7m l = true ∨ l.any qGt = true then 2 else l.getD i 0
def Fp (k : Int) (l : List Int) : Int :=
 if k = 1 then 0 else if k = 2 then 1 else if k = 3 then P8 (l.getD 0 0) else if k = 4 then q0d (l.getD 0 0) else
 if k = 5 then Nq 0 1 1 l else if k = 6 then q0d (Nq 0 1 1 l) else if k = 7 then Nq 1 0 0 l else if k = 8 then q0d (Nq 1 0 0 l) else
 if k = 9 then q3E 0 l else if k = 10 then q0d (q3E 0 l) else if k = 11 then qAr (l.getD 0 0) (l.getD 1 0) (l.getD 2 0) else
 if k = 12 then qCH (l.getD 0 0) (l.getD 1 0) else if k = 13 then qA0 l else 2
def qA1 (k : Int) (n : Nat) : Bool := decide ((n : Int) < (Vh k).1 ∨ (Vh k).2 < (n : Int))
def q6h (k : Int) (l : List Int) : Int := if qA1 k l.length = true then 2 else Fp k l
theorem qGu (R : Int → Int → Prop) {k : Int} {l m : List Int} (h1 : k = 1 → R (0) (0)) (h2 : k = 2 → R (1) (1)) (h3 : k = 3 → R (P8 (l.getD 0 0)) (P8 (m.getD 0 0))) (h4 : k = 4 → R (q0d (l.getD 0 0)) (q0d (m.getD 0 0))) (h5 : k = 5 → R (Nq 0 1 1 l) (Nq 0 1 1 m)) (h6 : k = 6 → R (q0d (Nq 0 1 1 l)) (q0d (Nq 0 1 1 m))) (h7 : k = 7 → R (Nq 1 0 0 l) (Nq 1 0 0 m)) (h8 : k = 8 → R (q0d (Nq 1 0 0 l)) (q0d (Nq 1 0 0 m))) (h9 : k = 9 → R (q3E 0 l) (q3E 0 m)) (h10 : k = 10 → R (q0d (q3E 0 l)) (q0d (q3E 0 m))) (h11 : k = 11 → R (qAr (l.getD 0 0) (l.getD 1 0) (l.getD 2 0)) (qAr (m.getD 0 0) (m.getD 1 0) (m.getD 2 0))) (h12 : k = 12 → R (qCH (l.getD 0 0) (l.getD 1 0)) (qCH (m.getD 0 0) (m.getD 1 0))) (h13 : k = 13 → R (qA0 l) (qA0 m)) (h0 : k < 1 ∨ 13 < k → R 2 2) : R (Fp k l) (Fp k m) := by
 by_cases e1 : k = 1
 ·subst e1; exact h1 rfl
 by_cases e2 : k = 2
 ·subst e2; exact h2 rfl
 by_cases e3 : k = 3
 ·subst e3; exact h3 rfl
 by_cases e4 : k = 4
 ·subst e4; exact h4 rfl
 by_cases e5 : k = 5
 ·subst e5; exact h5 rfl
 by_cases e6 : k = 6
 ·subst e6; exact h6 rfl
 by_cases e7 : k = 7
 ·subst e7; exact h7 rfl
 by_cases e8 : k = 8
 ·subst e8; exact h8 rfl
 by_cases e9 : k = 9
 ·subst e9; exact h9 rfl
 by_cases e10 : k = 10
 ·subst e10; exact h10 rfl
 by_cases e11 : k = 11
 ·subst e11; exact h11 rfl
 by_cases e12 : k = 12
 ·subst e12; exact h12 rfl
 by_cases e13 : k = 13
 ·subst e13; exact h13 rfl
 unfold Fp
 rw [if_neg e1, if_neg e2, if_neg e3, if_neg e4, if_neg e5, if_neg e6, if_neg e7, if_neg e8, if_neg e9, if_neg e10, if_neg e11, if_neg e12, if_neg e13]
 rw [if_neg e1, if_neg e2, if_neg e3, if_neg e4, if_neg e5, if_neg e6, if_neg e7, if_neg e8, if_neg e9, if_neg e10, if_neg e11, if_neg e12, if_neg e13]
 exact h0 (by omega)
def V4 (v : Int) : Prop := 0 ≤ v ∧ v ≤ 3
theorem q6i {v : Int} (h : V4 v) : V4 (P8 v) := by unfold P8 V4 at *; split <;> omega
theorem qCI {v : Int} (h : V4 v) : V4 (q0d v) := by unfold q0d V4 at *; split <;> omega
theorem q16 {low high : Int} : ∀ {l : List Int} {out : Int}, out = 2 ∨ out = high → Nq low high out l = if low ∈ l then low else if out = high ∧ ∀ v ∈ l, v = high then high else 2
 | [], out, h => by
  simp only [Nq, List.not_mem_nil, if_false]
  by_cases ho : out = high
  ·simp [ho]
  ·simp [ho]; omega
 | v :: l, out, h => by
  simp only [Nq]
  by_cases h1 : v = low
  ·subst h1; simp
  have h1' : ¬ low = v := fun e => h1 e.symm
  by_cases h2 : v = high
  ·subst h2
   rw [if_neg h1, if_neg (by simp), q16 h]
   simp [h1']
  ·rw [if_neg h1, if_pos h2, q16 (.inl rfl)]
   by_cases hl : low ∈ l
   ·simp [hl]
   ·have : ¬ (out = high ∧ ∀ u ∈ v :: l, u = high) := fun ⟨_, h⟩ => h2 (h v List.mem_cons_self)
    have hlv : ¬ low ∈ v :: l := by simp [h1', hl]
    rw [if_neg hl, if_neg hlv, if_neg this]
    split
    ·rename_i h3; exact h3.1.symm
    ·rfl
theorem qEk : ∀ {l : List Int} {out : Int}, V4 out → (∀ v ∈ l, V4 v) → V4 (q3E out l)
 | [], out, h, _ => h
 | v :: l, out, h, hl => by
  simp only [q3E]
  split
  ·exact qEk (by unfold qID; split <;> simp [V4]) fun u hu => hl u (List.mem_cons_of_mem _ hu)
  ·simp [V4]
theorem q1v {l : List Int} (h : ∀ v ∈ l, V4 v) (i : Nat) : V4 (l.getD i 0) := by
 rw [List.getD_eq_getElem?_getD]
 by_cases hi : i < l.length
 ·rw [List.getElem?_eq_getElem hi]; exact h _ (List.getElem_mem hi)
 ·rw [List.getElem?_eq_none (Nat.le_of_not_lt hi)]; simp [V4]
theorem qJv {k : Int} {l : List Int} (h : ∀ v ∈ l, V4 v) : V4 (q6h k l) := by
 have g := q1v h
 have d1 : V4 (Nq 0 1 1 l) := by rw [q16 (.inr rfl)]; split; simp [V4]; split <;> simp [V4]
 have d2 : V4 (Nq 1 0 0 l) := by rw [q16 (.inr rfl)]; split; simp [V4]; split <;> simp [V4]
 have x := qEk (out := 0) (by simp [V4]) h
 unfold q6h
 by_cases hw : qA1 k l.length = true
 ·rw [if_pos hw]; simp [V4]
 rw [if_neg hw]
 refine qGu (fun a _ => V4 a) (l := l) (m := l) (fun _ => by simp [V4]) (fun _ => by simp [V4]) (fun _ => q6i (g 0)) (fun _ => qCI (g 0)) (fun _ => d1) (fun _ => qCI d1) (fun _ => d2) (fun _ => qCI d2) (fun _ => x) (fun _ => qCI x) (fun _ => ?_) (fun _ => ?_) (fun _ => ?_) (fun _ => by simp [V4])
 ·unfold qAr; split
  ·exact q6i (g 1)
  split
  ·exact q6i (g 2)
  split
  ·exact q6i (g 1)
  ·simp [V4]
 ·unfold qCH; split
  ·simp [V4]
  split
  ·exact q6i (g 1)
  ·simp [V4]
 ·unfold qA0; split
  ·simp [V4]
  split
  ·simp [V4]
  ·exact g _
def Blw (a b : Int) : Prop := a = b ∨ a = 2
def qEl (l m : List Int) : Prop := l.length = m.length ∧ ∀ i, Blw (l.getD i 0) (m.getD i 0)
theorem Blw.refl (a : Int) : Blw a a := .inl rfl
theorem qEl.cons {a b : Int} {l m : List Int} (h : qEl (a :: l) (b :: m)) : Blw a b ∧ qEl l m :=
 ⟨by simpa using h.2 0, by simpa using h.1, fun i => by simpa using h.2 (i + 1)⟩
def Sz (i : Nat) (r : Nc) : Nat := r.countP fun p => decide (p.1 = (i : Int))
theorem qIF {i : Nat} {r q : Nc} : Sz i (r ++ q) = Sz i r + Sz i q := by simp [Sz]
theorem qEm {rows : List Nc} {n m i : Nat} {p : Int × Int} (hn : n < rows.length) : Sz i ((Hw rows n p).getD m []) = Sz i (rows.getD m []) + if m = n ∧ p.1 = (i : Int) then 1 else 0 := by
 unfold Hw
 simp only [List.getD_eq_getElem?_getD, List.getElem?_set]
 by_cases h : n = m
 ·subst h
  simp only [hn, if_true, Option.getD_some, qIF, true_and]
  congr 1
  by_cases h2 : p.1 = (i : Int) <;> simp [Sz, h2]
 ·have h' : ¬ m = n := fun e => h e.symm
  simp [h, h']
theorem q8M (c : B5) (j i m : Nat) : ∀ (l : List Int) (k : Nat) (rows : List Nc), rows.length = c.nodes.l.length → (∀ p ∈ l, 0 ≤ p ∧ p < c.nodes.l.length) → (Jl c j l k rows).length = c.nodes.l.length ∧ Sz i ((Jl c j l k rows).getD m []) = Sz i (rows.getD m []) + if j = i then l.count (m : Int) else 0
 | [], k, rows, hl, _ => ⟨hl, by simp [Jl]⟩
 | n :: l, k, rows, hl, hp => by
  have hn := hp n List.mem_cons_self
  have ho : Q6 c n = false := by simp [Q6]; omega
  simp only [Jl, ho, Bool.false_eq_true, if_false]
  obtain ⟨h1, h2⟩ := q8M c j i m l (k + 1) (Hw rows n.toNat (j, k)) (by rw [q5a]; exact hl) (fun p h => hp p (List.mem_cons_of_mem _ h))
  refine ⟨h1, ?_⟩
  rw [h2, qEm (by omega)]
  by_cases hji : j = i
  ·subst hji
   simp only [and_true, if_true, List.count_cons]
   by_cases hm : (m : Int) = n
   ·have h5 : m = n.toNat := by omega
    have h6 : (n == (m : Int)) = true := by rw [hm]; simp
    rw [if_pos h5, h6]
    simp only [if_true]; omega
   ·have h5 : ¬ m = n.toNat := by omega
    have h6 : (n == (m : Int)) = false := by simp; omega
    rw [if_neg h5, h6]
    simp only [Bool.false_eq_true, if_false]; omega
  ·have : ¬ ((j : Int) = i) := by omega
   simp [hji, this]
theorem q6j (c : B5) (i m : Nat) : ∀ (l : List Nd) (s : Nat) (rows : List Nc), rows.length = c.nodes.l.length → (∀ x ∈ l, ∀ p ∈ x.inn.l, 0 ≤ p ∧ p < c.nodes.l.length) →
  Sz i ((H2 c l s rows).getD m []) = Sz i (rows.getD m []) + if s ≤ i then ((l.map fun x => x.inn.l.count (m : Int)).getD (i - s) 0) else 0
 | [], s, rows, hl, _ => by simp [H2]
 | x :: l, s, rows, hl, hp => by
  obtain ⟨h1, h2⟩ := q8M c s i m x.inn.l 0 rows hl (hp x List.mem_cons_self)
  simp only [H2]
  rw [q6j c i m l (s + 1) _ h1 (fun y hy => hp y (List.mem_cons_of_mem _ hy)), h2]
  by_cases hsi : s = i
  ·subst hsi
   have : ¬ s + 1 ≤ s := by omega
   simp [this]
  ·by_cases hlt : s ≤ i
   ·have e : i - s = (i - (s + 1)) + 1 := by omega
    have h3 : s + 1 ≤ i := by omega
    simp [hsi, hlt, h3, e]
   ·have h3 : ¬ s + 1 ≤ i := by omega
    simp [hsi, hlt, h3]
def Jm (c : B5) (i : Nat) : List Int := (c.nodes.l.getD i Nd.d).inn.l
theorem q7n (c : B5) (hp : ∀ x ∈ c.nodes.l, ∀ p ∈ x.inn.l, 0 ≤ p ∧ p < c.nodes.l.length) (i m : Nat) (hi : i < c.nodes.l.length) : Sz i (Gi c m) = (Jm c i).count (m : Int) := by
 unfold Gi Et
 rw [q6j c i m c.nodes.l 0 _ (by simp) hp]
 have h0 : Sz i ((List.replicate c.nodes.l.length ([] : Nc)).getD m []) = 0 := by
  simp only [List.getD_eq_getElem?_getD, List.getElem?_replicate]
  split <;> rfl
 rw [h0]
 simp [Jm, hi]
theorem qFn (c : B5) {i : Nat} (hi : i < c.nodes.l.length) : (c.nodes.l.map Dp).getD i 0 = if Fj (Bo c i) then ((Jm c i).length : Int) else 0 := by
 simp [Bo, Jm, Dp, hi]
theorem q7o {N M : Nat} {c : B5} {n : Nat} : ∀ {r : Nc} {s : LS}, s.left.length = N → (∀ p ∈ r, ∃ i : Nat, i < N ∧ p.1 = i) → (∀ i : Nat, i < N → s.left.getD i 0 ≤ 0 → (i : Int) ∈ s.rdy) →
  (∃ e, (r.foldl (E4 c n) s).rdy = s.rdy ++ e) ∧ (r.foldl (E4 c n) s).left.length = N ∧ (∀ i : Nat, i < N → (r.foldl (E4 c n) s).left.getD i 0 = s.left.getD i 0 - if Fj (Bo c i) then (Sz i r : Int) else 0) ∧ (∀ i : Nat, i < N → (r.foldl (E4 c n) s).left.getD i 0 ≤ 0 → (i : Int) ∈ (r.foldl (E4 c n) s).rdy)
 | [], s, hl, _, hb => ⟨⟨[], by simp⟩, hl, fun i hi => by simp [Sz], hb⟩
 | (p1, p2) :: r, s, hl, hr, hb => by
  obtain ⟨j, hj, he⟩ := hr (p1, p2) List.mem_cons_self
  simp only at he; subst he
  have key : (∃ e, (E4 c n s (j, p2)).rdy = s.rdy ++ e) ∧ (E4 c n s (j, p2)).left.length = N ∧ (∀ i : Nat, i < N → (E4 c n s (j, p2)).left.getD i 0 = s.left.getD i 0 - if Fj (Bo c i) then (if j = i then 1 else 0 : Int) else 0) ∧ (∀ i : Nat, i < N → (E4 c n s (j, p2)).left.getD i 0 ≤ 0 → (i : Int) ∈ (E4 c n s (j, p2)).rdy) := by
   unfold E4
   simp only [Int.toNat_natCast]
   by_cases hc : Fj (Bo c j) = true
   ·simp only [hc, if_true]
    refine ⟨?_, by simp [hl], fun i hi => ?_, fun i hi h0 => ?_⟩
    ·split
     ·exact ⟨_, rfl⟩
     ·exact ⟨[], by simp⟩
    ·rw [Np (by omega)]
     by_cases hij : i = j
     ·subst hij; simp [hc]
     ·have : ¬ j = i := fun e => hij e.symm
      simp [hij, this]
    ·rw [Np (by omega)] at h0
     by_cases hij : i = j
     ·subst hij
      simp only [if_true] at h0
      by_cases h1 : s.left.getD i 0 - 1 = 0
      ·rw [if_pos h1]; simp
      ·rw [if_neg h1]
       exact hb i hi (by omega)
     ·simp only [hij, if_false] at h0
      have := hb i hi h0
      split
      ·exact List.mem_append_left _ this
      ·exact this
   ·simp only [hc]
    refine ⟨⟨[], by simp⟩, hl, fun i hi => ?_, hb⟩
    by_cases hij : j = i
    ·subst hij; simp [hc]
    ·simp [hij]
  obtain ⟨⟨e1, h1⟩, h2, h3, h4⟩ := key
  obtain ⟨⟨e2, g1⟩, g2, g3, g4⟩ := q7o (M := M) (n := n) (r := r) h2 (fun q hq => hr q (List.mem_cons_of_mem _ hq)) h4
  simp only [List.foldl_cons]
  refine ⟨⟨e1 ++ e2, by rw [g1, h1, List.append_assoc]⟩, g2, fun i hi => ?_, g4⟩
  rw [g3 i hi, h3 i hi]
  by_cases hc : Fj (Bo c i) = true
  ·simp only [hc, if_true]
   have : Sz i ((↑j, p2) :: r) = Sz i r + if j = i then 1 else 0 := by
    by_cases hij : j = i
    ·subst hij; simp [Sz]
    ·have : ¬ ((j : Int) = i) := by omega
     simp [Sz, hij, this]
   rw [this]
   split <;> omega
  ·simp [hc]
structure JI (c : B5) (d : Nat) (s : LS) : Prop where
 li : ∃ M, LI c.nodes.l.length M s
 le : d ≤ s.rdy.length
 a : ∀ i : Nat, i < c.nodes.l.length → s.left.getD i 0 = (c.nodes.l.map Dp).getD i 0 - if Fj (Bo c i) then (((s.rdy.take d).map fun x => (Jm c i).count x).sum : Int) else 0
 b : ∀ i : Nat, i < c.nodes.l.length → s.left.getD i 0 ≤ 0 → (i : Int) ∈ s.rdy
theorem JI.next {c : B5} (hp : ∀ x ∈ c.nodes.l, ∀ p ∈ x.inn.l, 0 ≤ p ∧ p < c.nodes.l.length) {d : Nat} {s : LS} (h : JI c d s) (hd : d < s.rdy.length) : JI c (d + 1) ((Gi c (s.rdy.getD d 0).toNat).foldl (E4 c (s.rdy.getD d 0).toNat) s) := by
 obtain ⟨M, hli⟩ := h.li
 have hg : s.rdy.getD d 0 = s.rdy[d] := by simp [hd]
 rw [hg]
 obtain ⟨n, hn, he, _⟩ := hli.rd _ (List.getElem_mem hd)
 rw [he]
 simp only [Int.toNat_natCast]
 have hr : ∀ p ∈ Gi c n, ∃ i : Nat, i < c.nodes.l.length ∧ p.1 = i := by
  intro p hpp
  have hl := Zk c
  have e : Gi c n = (Et c)[n]'(by omega) := by simp [Gi, List.getD, List.getElem?_eq_getElem (show n < (Et c).length by omega)]
  rw [e] at hpp
  exact q5c c _ (List.getElem_mem _) p hpp
 obtain ⟨⟨e, h1⟩, h2, h3, h4⟩ := q7o (M := M) (c := c) (n := n) (r := Gi c n) hli.ll hr h.b
 refine ⟨⟨_, hli.fold hr⟩, by rw [h1]; simp; omega, fun i hi => ?_, h4⟩
 rw [h3 i hi, h.a i hi, h1]
 by_cases hc : Fj (Bo c i) = true
 ·simp only [hc, if_true]
  have ht : (s.rdy ++ e).take (d + 1) = s.rdy.take d ++ [(n : Int)] := by
   rw [List.take_append_of_le_length (by omega), List.take_add_one, List.getElem?_eq_getElem hd, he]
   rfl
  rw [ht, q7n c hp i n hi]
  simp
  omega
 ·simp [hc]
theorem qA2 {c : B5} (hp : ∀ x ∈ c.nodes.l, ∀ p ∈ x.inn.l, 0 ≤ p ∧ p < c.nodes.l.length) : ∀ (f d : Nat) (s : LS), JI c d s → c.nodes.l.length < f + d → JI c (M4 c f d s).1 (M4 c f d s).2 ∧ (M4 c f d s).2.rdy.length ≤ (M4 c f d s).1
 | 0, d, s, h, hf => by
  obtain ⟨M, hli⟩ := h.li
  have := hli.len
  exact ⟨h, by simp only [M4]; omega⟩
 | f + 1, d, s, h, hf => by
  simp only [M4]
  split
  ·rename_i hd
   exact qA2 hp f (d + 1) _ (h.next hp hd) (by omega)
  ·exact ⟨h, by simp only; omega⟩
theorem qBW : ∀ (L R : List Int), (∀ p ∈ L, p ∈ R) → L.length ≤ (R.map fun x => L.count x).sum
 | [], R, _ => by simp
 | p :: L, R, h => by
  have ih := qBW L R fun q hq => h q (List.mem_cons_of_mem _ hq)
  have hpR := h p List.mem_cons_self
  have key : ∀ R : List Int, (R.map fun x => (p :: L).count x).sum = (R.map fun x => L.count x).sum + R.count p := by
   intro R
   induction R with
   | nil => rfl
   | cons a R ihR =>
    simp only [List.map_cons, List.sum_cons]
    rw [ihR, List.count_cons, List.count_cons]
    by_cases hpa : p = a
    ·subst hpa; simp only [BEq.rfl, if_true]; omega
    ·have h1 : (p == a) = false := by simpa using hpa
     have h2 : (a == p) = false := by simpa using fun e => hpa e.symm
     rw [h1, h2]; simp only [Bool.false_eq_true, if_false]; omega
  rw [key]
  have := List.count_pos_iff.2 hpR
  simp only [List.length_cons]; omega
theorem q3F : ∀ (l : List Nd) (s i : Nat), s ≤ i → i < s + l.length → (l.map Dp).getD (i - s) 0 ≤ 0 → (i : Int) ∈ Ds l s
 | [], s, i, h1, h2, _ => by simp at h2; omega
 | x :: l, s, i, h1, h2, h3 => by
  simp only [List.length_cons] at h2
  by_cases hsi : i = s
  ·subst hsi
   simp only [Nat.sub_self, List.map_cons, List.getD_cons_zero] at h3
   have h4 : 0 ≤ Dp x := by unfold Dp; split <;> omega
   have h5 : Dp x = 0 := by omega
   simp [Ds, h5]
  ·have e : i - s = (i - (s + 1)) + 1 := by omega
   rw [e, List.map_cons, List.getD_cons_succ] at h3
   have := q3F l (s + 1) i (by omega) (by omega) h3
   simp only [Ds]
   split
   ·exact List.mem_cons_of_mem _ this
   ·exact this
theorem qDO (c : B5) (h16 : ∀ x ∈ c.nodes.l, x.inn.l.length ≤ 16) (hp : ∀ x ∈ c.nodes.l, ∀ p ∈ x.inn.l, 0 ≤ p ∧ p < c.nodes.l.length) (ht : ∀ i : Nat, i < c.nodes.l.length → Fj (Bo c i) = true → ∀ p ∈ Jm c i, p < i) : ¬ (Og c).1 < c.nodes.l.length := by
 have h0 : JI c 0 (Hy c) := by
  refine ⟨⟨0, ?_⟩, by simp, fun i hi => ?_, fun i hi h => ?_⟩
  ·obtain ⟨r1, r2⟩ := q5d c.nodes.l 0
   refine ⟨by simp [Hy], by simp [Hy], ?_, r2, fun i => ?_, fun i => ?_⟩
   ·intro j hj
    obtain ⟨a, _, h2, h3, h4⟩ := r1 j hj
    exact ⟨a, by omega, h3, by simp only [Hy]; simp only [Nat.sub_zero] at h4; omega⟩
   ·simp only [Hy, List.getD_eq_getElem?_getD, List.getElem?_replicate]
    split <;> simp
   ·simp only [Hy]
    by_cases hi : i < c.nodes.l.length
    ·have := h16 _ (List.getElem_mem hi)
     simp [hi, Dp]
     split <;> omega
    ·simp [hi]
  ·simp [Hy]
  ·simp only [Hy] at h
   exact q3F c.nodes.l 0 i (by omega) (by omega) (by simpa using h)
 obtain ⟨hJ, hle⟩ := qA2 hp (c.nodes.l.length + 1) 0 (Hy c) h0 (by omega)
 show ¬ (M4 c (c.nodes.l.length + 1) 0 (Hy c)).1 < c.nodes.l.length
 generalize (M4 c (c.nodes.l.length + 1) 0 (Hy c)).1 = d at *
 generalize (M4 c (c.nodes.l.length + 1) 0 (Hy c)).2 = s at *
 have all : ∀ i : Nat, i < c.nodes.l.length → (i : Int) ∈ s.rdy := by
  intro i
  induction i using Nat.strongRecOn with
  | ind i ih =>
   intro hi
   refine hJ.b i hi ?_
   rw [hJ.a i hi, qFn c hi]
   by_cases hc : Fj (Bo c i) = true
   ·simp only [hc, if_true]
    rw [List.take_of_length_le hle]
    have hm : Jm c i ∈ c.nodes.l.map fun x => x.inn.l := by
     simp only [Jm, List.getD_eq_getElem?_getD, List.getElem?_eq_getElem hi, Option.getD_some]
     exact List.mem_map_of_mem (List.getElem_mem hi)
    obtain ⟨y, hy, hye⟩ := List.mem_map.1 hm
    have := qBW (Jm c i) s.rdy fun p hpp => by
     have h1 := ht i hi hc p hpp
     have h2 := (hp y hy p (by rw [hye]; exact hpp)).1
     obtain ⟨j, rfl⟩ : ∃ j : Nat, p = j := ⟨p.toNat, by omega⟩
     exact ih j (by omega) (by omega)
    omega
   ·simp [hc]
 have hnd : ((List.range c.nodes.l.length).map fun i : Nat => (i : Int)).Nodup := by
  rw [List.nodup_iff_pairwise_ne, List.pairwise_map]
  exact (List.nodup_iff_pairwise_ne.1 List.nodup_range).imp fun h e => h (by omega)
 have hsub : ((List.range c.nodes.l.length).map fun i : Nat => (i : Int)) ⊆ s.rdy := by
  intro x hx
  obtain ⟨i, hi, rfl⟩ := List.mem_map.1 hx
  exact all i (List.mem_range.1 hi)
 have := List.Nodup.length_le_of_subset hnd hsub
 simp at this
 omega
theorem q3G (p : Int) (L : List Int) : ∀ R : List Int, (R.map fun x => (p :: L).count x).sum = (R.map fun x => L.count x).sum + R.count p
 | [] => rfl
 | a :: R => by
  simp only [List.map_cons, List.sum_cons]
  rw [q3G p L R, List.count_cons, List.count_cons]
  by_cases hpa : p = a
  ·subst hpa; simp only [BEq.rfl, if_true]; omega
  ·have h1 : (p == a) = false := by simpa using hpa
   have h2 : (a == p) = false := by simpa using fun e => hpa e.symm
   rw [h1, h2]; simp only [Bool.false_eq_true, if_false]; omega
theorem q6k : ∀ (L R : List Int), R.Nodup → (R.map fun x => L.count x).sum ≤ L.length
 | [], R, _ => by
  have : ∀ R : List Int, (R.map fun x => ([] : List Int).count x).sum = 0 := by
   intro R
   induction R with
   | nil => rfl
   | cons a R ih => rw [List.map_cons, List.sum_cons, ih, List.count_nil]
  rw [this]; omega
 | p :: L, R, h => by
  have ih := q6k L R h
  have h1 := List.nodup_iff_count.1 h p
  rw [q3G]
  simp only [List.length_cons]; omega
theorem qIG {N n : Nat} {c : B5} : ∀ {r : Nc} {s : LS}, s.out.length = N → s.left.length = N → (∀ p ∈ r, ∃ i : Nat, i < N ∧ p.1 = i) → (∀ i : Nat, i < N → Fj (Bo c i) = true → (Sz i r : Int) ≤ s.left.getD i 0) → s.left.getD n 0 ≤ 0 →
  (∀ i : Nat, i < N → s.left.getD i 0 ≤ 0 → (r.foldl (E4 c n) s).out.getD i 0 = s.out.getD i 0) ∧ (∀ i : Nat, i < N → s.out.getD i 0 ≤ (r.foldl (E4 c n) s).out.getD i 0) ∧ (∀ i : Nat, i < N → Fj (Bo c i) = true → 0 < Sz i r → s.out.getD n 0 + 1 ≤ (r.foldl (E4 c n) s).out.getD i 0)
 | [], s, ho, hl, _, _, _ => ⟨fun _ _ _ => rfl, fun _ _ => Int.le_refl _, fun i _ _ h => by simp [Sz] at h⟩
 | (p1, p2) :: r, s, ho, hl, hr, hc, hn => by
  obtain ⟨j, hj, he⟩ := hr (p1, p2) List.mem_cons_self
  simp only at he; subst he
  have cnt : ∀ i : Nat, Sz i ((↑j, p2) :: r) = Sz i r + if j = i then 1 else 0 := fun i => by
   by_cases hij : j = i
   ·subst hij; simp [Sz]
   ·have : ¬ ((j : Int) = i) := by omega
    simp [Sz, hij, this]
  simp only [List.foldl_cons]
  by_cases hcj : Fj (Bo c j) = true
  case neg =>
   have hs : E4 c n s (↑j, p2) = s := by unfold E4; simp [hcj]
   rw [hs]
   obtain ⟨a1, a2, a3⟩ := qIG (n := n) (c := c) (r := r) ho hl (fun p hp => hr p (List.mem_cons_of_mem _ hp)) (fun i hi hci => by have := hc i hi hci; rw [cnt] at this; omega) hn
   refine ⟨a1, a2, fun i hi hci h => a3 i hi hci ?_⟩
   rw [cnt] at h
   have : ¬ j = i := fun e => hcj (e ▸ hci)
   simpa [this] using h
  have hj1 := hc j hj hcj
  rw [cnt, if_pos rfl] at hj1
  have hnj : ¬ n = j := fun e => by subst e; omega
  have so : ∀ i : Nat, (E4 c n s (↑j, p2)).out.getD i 0 = if i = j then max (s.out.getD j 0) (s.out.getD n 0 + 1) else s.out.getD i 0 := fun i => by
   unfold E4
   simp only [Int.toNat_natCast, hcj, if_true]
   rw [Np (by omega)]
  have sl : ∀ i : Nat, (E4 c n s (↑j, p2)).left.getD i 0 = if i = j then s.left.getD j 0 - 1 else s.left.getD i 0 := fun i => by
   unfold E4
   simp only [Int.toNat_natCast, hcj, if_true]
   rw [Np (by omega)]
  have lo : (E4 c n s (↑j, p2)).out.length = N := by unfold E4; simp [hcj, ho]
  have ll : (E4 c n s (↑j, p2)).left.length = N := by unfold E4; simp [hcj, hl]
  obtain ⟨a1, a2, a3⟩ := qIG (n := n) (c := c) (r := r) lo ll (fun p hp => hr p (List.mem_cons_of_mem _ hp)) (fun i hi hci => by
   have := hc i hi hci
   rw [cnt] at this
   rw [sl]
   by_cases hij : i = j
   ·subst hij; simp only [if_true] at this ⊢; omega
   ·have h' : ¬ j = i := fun e => hij e.symm
    simp only [hij, h', if_false] at this ⊢; omega) (by rw [sl, if_neg hnj]; exact hn)
  refine ⟨fun i hi h0 => ?_, fun i hi => ?_, fun i hi hci h => ?_⟩
  ·have hij : ¬ i = j := fun e => by subst e; omega
   rw [a1 i hi (by rw [sl, if_neg hij]; exact h0), so, if_neg hij]
  ·have := a2 i hi
   rw [so] at this
   split at this
   ·rename_i e; subst e; omega
   ·exact this
  ·by_cases hij : i = j
   ·subst hij
    have := a2 i hi
    rw [so, if_pos rfl] at this
    omega
   ·have h' : ¬ j = i := fun e => hij e.symm
    rw [cnt, if_neg h'] at h
    have := a3 i hi hci (by omega)
    rw [so, if_neg hnj] at this
    exact this
def KI (c : B5) (d : Nat) (s : LS) : Prop := ∀ i : Nat, i < c.nodes.l.length → Fj (Bo c i) = true → ∀ q : Nat, (q : Int) ∈ Jm c i → (q : Int) ∈ s.rdy.take d → s.out.getD q 0 + 1 ≤ s.out.getD i 0
theorem KI.next {c : B5} (hp : ∀ x ∈ c.nodes.l, ∀ p ∈ x.inn.l, 0 ≤ p ∧ p < c.nodes.l.length) {d : Nat} {s : LS} (h : JI c d s) (hk : KI c d s) (hd : d < s.rdy.length) : KI c (d + 1) ((Gi c (s.rdy.getD d 0).toNat).foldl (E4 c (s.rdy.getD d 0).toNat) s) := by
 obtain ⟨M, hli⟩ := h.li
 have hg : s.rdy.getD d 0 = s.rdy[d] := by simp [hd]
 rw [hg]
 obtain ⟨n, hn, he, hn0⟩ := hli.rd _ (List.getElem_mem hd)
 rw [he]
 simp only [Int.toNat_natCast]
 have hr : ∀ p ∈ Gi c n, ∃ i : Nat, i < c.nodes.l.length ∧ p.1 = i := by
  intro p hpp
  have hl := Zk c
  have e : Gi c n = (Et c)[n]'(by omega) := by simp [Gi, List.getD, List.getElem?_eq_getElem (show n < (Et c).length by omega)]
  rw [e] at hpp
  exact q5c c _ (List.getElem_mem _) p hpp
 have htk : s.rdy.take (d + 1) = s.rdy.take d ++ [(n : Int)] := by
  rw [List.take_add_one, List.getElem?_eq_getElem hd, he]; rfl
 have hnd : (s.rdy.take (d + 1)).Nodup := hli.nd.sublist (List.take_sublist _ _)
 have hcnt : ∀ i : Nat, i < c.nodes.l.length → Fj (Bo c i) = true → (Sz i (Gi c n) : Int) ≤ s.left.getD i 0 := by
  intro i hi hci
  have := q6k (Jm c i) _ hnd
  rw [htk] at this
  simp only [List.map_append, List.sum_append, List.map_cons, List.map_nil, List.sum_cons, List.sum_nil] at this
  rw [h.a i hi, qFn c hi, q7n c hp i n hi]
  simp only [hci, if_true]
  omega
 obtain ⟨⟨e, h1⟩, _, _, _⟩ := q7o (M := M) (c := c) (n := n) (r := Gi c n) hli.ll hr h.b
 obtain ⟨a1, a2, a3⟩ := qIG (n := n) (c := c) hli.lo hli.ll hr hcnt hn0
 intro i hi hci q hq hqt
 rw [h1, List.take_append_of_le_length (by omega), htk] at hqt
 rcases List.mem_append.1 hqt with hqt | hqt
 ·obtain ⟨q', hq1, hq2, hq3⟩ := hli.rd _ (List.mem_of_mem_take hqt)
  have : q = q' := by omega
  subst this
  rw [a1 q hq1 hq3]
  have h4 := hk i hi hci q hq hqt
  have h5 := a2 i hi
  omega
 ·have : q = n := by simp at hqt; omega
  subst this
  rw [a1 q hn hn0]
  refine a3 i hi hci ?_
  rw [q7n c hp i q hi]
  exact List.count_pos_iff.2 hq
theorem qFo {c : B5} (hp : ∀ x ∈ c.nodes.l, ∀ p ∈ x.inn.l, 0 ≤ p ∧ p < c.nodes.l.length) : ∀ (f d : Nat) (s : LS), JI c d s → KI c d s → KI c (M4 c f d s).1 (M4 c f d s).2
 | 0, d, s, _, hk => hk
 | f + 1, d, s, h, hk => by
  simp only [M4]
  split
  ·rename_i hd
   exact qFo hp f (d + 1) _ (h.next hp hd) (hk.next hp h hd)
  ·exact hk
theorem qJw (c : B5) (h16 : ∀ x ∈ c.nodes.l, x.inn.l.length ≤ 16) : JI c 0 (Hy c) := by
 refine ⟨⟨0, qDH c h16⟩, by simp, fun i hi => ?_, fun i hi h => ?_⟩
 ·simp [Hy]
 ·simp only [Hy] at h
  exact q3F c.nodes.l 0 i (by omega) (by omega) (by simpa using h)
theorem qDP {c : B5} (h : Dx c = 0) : ∀ x ∈ c.nodes.l, ∀ p ∈ x.inn.l, 0 ≤ p ∧ p < c.nodes.l.length := by
 intro x hx
 have h4 := (Ia h).2.2.1 x hx
 unfold Dq at h4
 split at h4
 ·cases h4
 split at h4
 ·cases h4
 split at h4
 ·cases h4
 rename_i h6
 exact q48 (by simpa using h6)
def Rj (c : B5) (i : Nat) : Int := (Og c).2.out.getD i 0
theorem P9 {c : B5} (h : Gq c = 0) : Dx c = 0 ∧ ¬ (Og c).1 < c.nodes.l.length := by
 unfold Gq at h
 split at h
 ·rename_i h1; exact absurd h h1
 split at h
 ·cases h
 ·rename_i h1 h2; exact ⟨by simpa using h1, h2⟩
theorem qLy {c : B5} (h : Gq c = 0) : (Og c).2.out.length = c.nodes.l.length ∧ (∀ i, 0 ≤ Rj c i) ∧ ∀ i : Nat, i < c.nodes.l.length → Fj (Bo c i) = true → ∀ p ∈ Jm c i, (0 ≤ p ∧ p < c.nodes.l.length) ∧ Rj c p.toNat < Rj c i := by
 obtain ⟨hs, hd⟩ := P9 h
 have hp := qDP hs
 have h16 := (Ia hs).2.1
 have h0 := qJw c h16
 obtain ⟨hJ, hle⟩ := qA2 hp (c.nodes.l.length + 1) 0 (Hy c) h0 (by omega)
 have hK := qFo hp (c.nodes.l.length + 1) 0 (Hy c) h0 (fun i _ _ q _ hq => by simp at hq)
 obtain ⟨M, hli⟩ := hJ.li
 refine ⟨hli.lo, fun i => (hli.bo i).1, fun i hi hc p hpi => ?_⟩
 have hin : 0 ≤ p ∧ p < c.nodes.l.length := by
  simp only [Jm, List.getD_eq_getElem?_getD, List.getElem?_eq_getElem hi, Option.getD_some] at hpi
  exact hp _ (List.getElem_mem hi) p hpi
 refine ⟨hin, ?_⟩
 have hpe : p = (p.toNat : Int) := by omega
 have hall : p ∈ (Og c).2.rdy.take (Og c).1 := by
  have hle' : (Og c).2.rdy.length ≤ (Og c).1 := hle
  rw [List.take_of_length_le hle']
  by_cases hm : p ∈ (Og c).2.rdy
  ·exact hm
  exfalso
  have := qBP (N := c.nodes.l.length) (List.nodup_cons.2 ⟨hm, hli.nd⟩) fun j hj => by
   rcases List.mem_cons.1 hj with rfl | hj
   ·exact ⟨j.toNat, by omega, by omega⟩
   ·obtain ⟨i, h1, h2, _⟩ := hli.rd j hj; exact ⟨i, h1, h2⟩
  have h3 := hJ.le
  simp only [List.length_cons] at this
  have : (Og c).1 ≤ (Og c).2.rdy.length := h3
  have : (M4 c (c.nodes.l.length + 1) 0 (Hy c)).2 = (Og c).2 := rfl
  simp only [this] at *
  omega
 have := hK i hi hc p.toNat (by rw [← hpe]; exact hpi) (by rw [← hpe]; exact hall)
 show (Og c).2.out.getD p.toNat 0 < (Og c).2.out.getD i 0
 have e : (M4 c (c.nodes.l.length + 1) 0 (Hy c)).2 = (Og c).2 := rfl
 rw [e] at this
 omega
def qA3 (lt : Int → Int → Bool) : Nat → List Int → List Int
 | 0, l => l
 | j + 1, l => if lt (l.getD (j + 1) 0) (l.getD j 0) then qA3 lt j (Zm l (j + 1) j) else l
def q3H (lt : Int → Int → Bool) : Nat → Nat → List Int → List Int
 | 0, _, l => l
 | f + 1, i, l => q3H lt f (i + 1) (qA3 lt i l)
theorem q4A {lt : Int → Int → Bool} : ∀ {j : Nat} {l : List Int}, j < l.length → (qA3 lt j l).Perm l
 | 0, l, _ => List.Perm.refl l
 | j + 1, l, h => by
  simp only [qA3]
  split
  ·exact (q4A (by rw [q7h]; omega)).trans (q9x h (by omega))
  ·exact List.Perm.refl l
def q6l (key : Int → Int) (l : List Int) (n : Nat) : Prop := ∀ a b, a < b → b < n → key (l.getD a 0) ≤ key (l.getD b 0)
theorem q8N (key : Int → Int) (i : Nat) : ∀ (j : Nat) (l : List Int), j ≤ i → i < l.length → (∀ a b, a < b → b ≤ i → a ≠ j → b ≠ j → key (l.getD a 0) ≤ key (l.getD b 0)) → (∀ b, j < b → b ≤ i → key (l.getD j 0) ≤ key (l.getD b 0)) →
  q6l key (qA3 (fun a b => decide (key a < key b)) j l) (i + 1)
 | 0, l, hj, hi, h1, h2 => by
  intro a b hab hb
  simp only [qA3]
  by_cases ha : a = 0
  ·subst ha; exact h2 b hab (by omega)
  ·exact h1 a b hab (by omega) ha (by omega)
 | j + 1, l, hj, hi, h1, h2 => by
  simp only [qA3]
  split
  ·rename_i hlt
   have hlt' : key (l.getD (j + 1) 0) < key (l.getD j 0) := by simpa using hlt
   have g : ∀ q, q < l.length → (Zm l (j + 1) j).getD q 0 = if q = j then l.getD (j + 1) 0 else if q = j + 1 then l.getD j 0 else l.getD q 0 := fun q hq => qGo (by omega) (by omega) hq
   refine q8N key i j _ (by omega) (by rw [q7h]; exact hi) (fun a b hab hb ha hb' => ?_) (fun b hb hbi => ?_)
   ·rw [g a (by omega), g b (by omega), if_neg ha, if_neg hb']
    by_cases ha1 : a = j + 1
    ·rw [if_pos ha1, if_neg (by omega)]
     exact h1 j b (by omega) hb (by omega) (by omega)
    ·rw [if_neg ha1]
     by_cases hb1 : b = j + 1
     ·rw [if_pos hb1]
      exact h1 a j (by omega) (by omega) ha1 (by omega)
     ·rw [if_neg hb1]
      exact h1 a b hab hb ha1 hb1
   ·rw [g j (by omega), g b (by omega), if_pos rfl, if_neg (by omega)]
    by_cases hb1 : b = j + 1
    ·rw [if_pos hb1]; omega
    ·rw [if_neg hb1]
     exact h2 b (by omega) hbi
  ·rename_i hlt
   have hlt' : key (l.getD j 0) ≤ key (l.getD (j + 1) 0) := by simpa using hlt
   intro a b hab hb
   by_cases ha1 : a = j + 1
   ·subst ha1; exact h2 b hab (by omega)
   ·by_cases hb1 : b = j + 1
    ·subst hb1
     by_cases haj : a = j
     ·subst haj; exact hlt'
     ·have := h1 a j (by omega) (by omega) ha1 (by omega)
      omega
    ·exact h1 a b hab (by omega) ha1 hb1
theorem qFp (key : Int → Int) : ∀ (f i : Nat) (l : List Int), i + f = l.length → q6l key l i → (q3H (fun a b => decide (key a < key b)) f i l).Perm l ∧ q6l key (q3H (fun a b => decide (key a < key b)) f i l) l.length
 | 0, i, l, h, hs => ⟨List.Perm.refl l, by have : i = l.length := (by omega); subst this; exact hs⟩
 | f + 1, i, l, h, hs => by
  simp only [q3H]
  have hp := q4A (lt := fun a b => decide (key a < key b)) (show i < l.length by omega)
  have hss := q8N key i i l (Nat.le_refl _) (by omega) (fun a b hab hb ha hb' => hs a b hab (by omega)) (fun b h1 h2 => by omega)
  obtain ⟨a1, a2⟩ := qFp key f (i + 1) _ (by rw [hp.length_eq]; omega) hss
  rw [hp.length_eq] at a2
  exact ⟨a1.trans hp, a2⟩
def rng (n : Nat) : List Int := (List.range n).map fun i : Nat => (i : Int)
theorem X6 {n : Nat} : (rng n).length = n := by simp [rng]
theorem qCJ {n : Nat} {x : Int} : x ∈ rng n ↔ 0 ≤ x ∧ x < n := by
 simp only [rng, List.mem_map, List.mem_range]
 constructor
 ·rintro ⟨i, hi, rfl⟩; omega
 ·intro h; exact ⟨x.toNat, by omega, by omega⟩
def qFq (c : B5) (a b : Int) : Bool := decide (Rj c a.toNat < Rj c b.toNat)
def Vj (c : B5) : List Int := q3H (qFq c) (c.nodes.l.length - 1) 1 (rng c.nodes.l.length)
theorem q7p (c : B5) : (Vj c).Perm (rng c.nodes.l.length) ∧ q6l (fun a => Rj c a.toNat) (Vj c) c.nodes.l.length := by
 by_cases h : c.nodes.l.length = 0
 ·unfold Vj
  rw [h]
  exact ⟨List.Perm.refl _, fun a b hab hb => by omega⟩
 ·have := qFp (fun a => Rj c a.toNat) (c.nodes.l.length - 1) 1 (rng c.nodes.l.length) (by rw [X6]; omega) (fun a b hab hb => by omega)
  rw [X6] at this
  exact this
def q5l (c : B5) (nets : List Int) (i : Nat) : List Int := (Jm c i).map fun k => nets.getD k.toNat 0
def q4m (c : B5) (nets : List Int) (n : Int) : List Int := if Fj (Bo c n.toNat) then nets.set n.toNat (q6h (Bo c n.toNat) (q5l c nets n.toNat)) else nets
def qGv (c : B5) (order init : List Int) : List Int := order.foldl (q4m c) init
theorem qBX {c : B5} {nets : List Int} {n : Int} : (q4m c nets n).length = nets.length := by unfold q4m; split <;> simp
theorem qDQ {c : B5} : ∀ {o nets : List Int}, (qGv c o nets).length = nets.length
 | [], nets => rfl
 | n :: o, nets => by
  show (qGv c o (q4m c nets n)).length = _
  rw [qDQ, qBX]
def Hz : List Int → List Int → List Int → List Int
 | n :: ns, v :: vs, nets => Hz ns vs (nets.set n.toNat v)
 | _, _, nets => nets
theorem T0 : ∀ {ns vs nets : List Int}, (Hz ns vs nets).length = nets.length
 | [], vs, nets => by cases vs <;> rfl
 | _ :: _, [], nets => rfl
 | n :: ns, v :: vs, nets => by simp only [Hz]; rw [T0]; simp
def Bz (c : B5) : List Int := Qs [0] c.nodes.l 0
def qFr (c : B5) (pin pst : List Int) : List Int := Hz (Aj c) pst (Hz (Bz c) pin (List.replicate c.nodes.l.length 0))
theorem qGw {c : B5} {pin pst : List Int} : (qFr c pin pst).length = c.nodes.l.length := by unfold qFr; rw [T0, T0]; simp
theorem q1w {k : Int} {c : B5} : ∀ n ∈ Qs [k] c.nodes.l 0, 0 ≤ n ∧ n < c.nodes.l.length ∧ Bo c n.toNat = k := by
 intro n hn
 obtain ⟨a, b, h⟩ := q6d [k] c.nodes.l 0 n hn
 refine ⟨by omega, by omega, ?_⟩
 simpa [Bo] using h
end Go.Lg
namespace Go.Lg
open Go
section
variable {P : Program} {Γ : Tables} {Q : AX → St → Prop} {s : St}
/- probecard/logic.Clean (function 109) -/
abbrev q3I : IC := (.seq (.reg [od 2 (.mv (ku 0))] [kp [0] []]) (.seq (.seq (.reg [om 3 0, od 4 (.bin .gtr (tm 3) (ku 3))] [kp [0, 4] []]) (.cond (tm 4) (.seq (.reg [od 2 (.mv (ku 2))] [kp [2] []]) .ret) .skip)) (.seq (.reg [om 5 0, om 2 5] [kp [2]
 []]) .ret)))
def q3J : List RV := [.tmp 2]
/- probecard/logic.Read (function 94) -/
abbrev q4n : IC := (.seq (.reg [od 2 (.mv (ku 0))] [kp [0] []]) (.seq (.reg [om 3 0, od 4 (.mmx false [(tm 3), (ku 2)]), om 2 4] [kp [2] []]) .ret))
def q4o : List RV := [.tmp 2]
/- probecard/logic.Known (function 16) -/
abbrev q3K : IC := (.seq (.reg [od 2 (.mv kF)] [kp [0] []]) (.seq (.reg [om 3 0, od 4 (.bin .leq (tm 3) (ku 1)), om 2 4] [kp [2] []]) .ret))
def q3L : List RV := [.tmp 2]
/- probecard/logic.Not (function 95) -/
abbrev q6m : IC := (.seq (.reg [od 2 (.mv (ku 0))] [kp [0] []]) (.seq (.seq (.reg [om 3 0, od 4 (.call 16 [(tm 3)])] [kp [0, 4] []]) (.cond (tm 4) (.seq (.reg [om 5 0, od 6 (.bin .sub (ku 1) (tm 5)), om 2 6] [kp [2] []]) .ret) .skip)) (.seq (.reg [od
 2 (.mv (ku 2))] [kp [2] []]) .ret)))
def q1x : List RV := [.tmp 2]
/- probecard/logic.decided (function 128) -/
abbrev q17 : IC := .gh (.seq (.reg [od 14 (.bin .lss (tm 13) (tm 12))] [kp [1, 2, 7, 11, 12, 13, 14] []]) (.seq (.cond (tm 14) .skip (.exit 0)) (.seq (.block 1 (.seq (.reg [od 15 (ia 1 11 13), od 16 (ld 1 15), om 9 16] [kp [1, 2, 7, 9, 11, 12, 13]
 []]) (.block 2 (.seq (.reg [om 18 9, om 19 1, od 20 (.bin .eql (tm 18) (tm 19)), om 17 20] [kp [1, 2, 7, 9, 11, 12, 13, 17] []]) (.cond (tm 17) (.seq (.reg [om 21 1, om 6 21] [kp [6] []]) .ret) (.seq (.reg [om 23 9, om 24 2, od 25
 (.bin .neq (tm 23) (tm 24)), om 22 25] [kp [1, 2, 7, 11, 12, 13, 22] []]) (.cond (tm 22) (.reg [od 7 (.mv (ku 2))] [kp [1, 2, 7, 11, 12, 13] []]) .skip))))))) (.reg [od 26 (.bin .add (tm 13) (ki 1)), om 13 26] [kp [1, 2, 7, 11, 12,
 13] []])))) [kp [1, 2, 7, 11, 12, 13] []]
def Le : IC := .loop q17
abbrev q18 : IC := (.seq (.reg [od 6 (.mv (ku 0))] [kp [0, 1, 2] []]) (.seq (.reg [om 10 2, om 7 10] [kp [0, 1, 2, 7] []]) (.seq (.seq (.reg [om 11 0, od 12 (le 0 11), od 13 (.mv (ki 0))] [kp [1, 2, 7, 11, 12, 13] []]) (.block 0 Le))
 (.seq (.reg [om 27 7, om 6 27] [kp [6] []]) .ret))))
theorem Un (h : ∀ K : St → Prop, K = run P Γ Le Q → run P Γ q17 (Am K Q) s) : run P Γ Le Q s := Ae h
def T8 : List RV := [.tmp 6]
/- probecard/logic.And (function 96) -/
abbrev q6n : IC := (.seq (.reg [od 2 (.mv (ku 0))] [kp [0] []]) (.seq (.reg [om 3 0, od 4 (.call 128 [(tm 3), (ku 0), (ku 1)]), om 2 4] [kp [2] []]) .ret))
def q6o : List RV := [.tmp 2]
/- probecard/logic.Or (function 97) -/
abbrev q8O : IC := (.seq (.reg [od 2 (.mv (ku 0))] [kp [0] []]) (.seq (.reg [om 3 0, od 4 (.call 128 [(tm 3), (ku 1), (ku 0)]), om 2 4] [kp [2] []]) .ret))
def q8P : List RV := [.tmp 2]
/- probecard/logic.Xor (function 98) -/
abbrev q6p : IC := .gh (.seq (.reg [od 9 (.bin .lss (tm 8) (tm 7))] [kp [3, 6, 7, 8, 9] []]) (.seq (.cond (tm 9) .skip (.exit 0)) (.seq (.block 1 (.seq (.reg [od 10 (ia 1 6 8), od 11 (ld 1 10), om 5 11] [kp [3, 5, 6, 7, 8] []]) (.seq (.seq (.reg [om
 12 5, od 13 (.call 16 [(tm 12)]), od 14 (.un .not (tm 13))] [kp [3, 5, 6, 7, 8, 14] []]) (.cond (tm 14) (.seq (.reg [od 2 (.mv (ku 2))] [kp [2] []]) .ret) .skip)) (.reg [om 15 3, om 16 5, od 17 (.bin .xor (tm 15) (tm 16)), om 3 17]
 [kp [3, 6, 7, 8] []])))) (.reg [od 18 (.bin .add (tm 8) (ki 1)), om 8 18] [kp [3, 6, 7, 8] []])))) [kp [3, 6, 7, 8] []]
def X7 : IC := .loop q6p
abbrev q6q : IC := (.seq (.reg [od 2 (.mv (ku 0))] [kp [0] []]) (.seq (.reg [od 3 (.mv (ku 0))] [kp [0, 3] []]) (.seq (.seq (.reg [om 6 0, od 7 (le 0 6), od 8 (.mv (ki 0))] [kp [3, 6, 7, 8] []]) (.block 0 X7)) (.seq (.reg [om 19 3, om 2 19]
 [kp [2] []]) .ret))))
theorem q19 (h : ∀ K : St → Prop, K = run P Γ X7 Q → run P Γ q6p (Am K Q) s) : run P Γ X7 Q s := Ae h
def q1y : List RV := [.tmp 2]
/- probecard/logic.Mux (function 99) -/
abbrev Q8 : IC := (.seq (.reg [od 6 (.mv (ku 0))] [kp [0, 1, 2] []]) (.seq (.block 0 (.seq (.reg [om 8 0, od 9 (.bin .eql (tm 8) (ku 0)), om 7 9] [kp [0, 1, 2, 7] []]) (.cond (tm 7) (.seq (.reg [om 10 1, od 11 (.call 94 [(tm 10)]), om 6 11] [kp [6]
 []]) .ret) (.seq (.reg [om 13 0, od 14 (.bin .eql (tm 13) (ku 1)), om 12 14] [kp [1, 2, 12] []]) (.cond (tm 12) (.seq (.reg [om 15 2, od 16 (.call 94 [(tm 15)]), om 6 16] [kp [6] []]) .ret) (.seq (.reg [om 18 1, om 19 2, od 20
 (.bin .eql (tm 18) (tm 19)), om 17 20] [kp [1, 17] []]) (.cond (tm 17) (.seq (.reg [om 21 1, od 22 (.call 94 [(tm 21)]), om 6 22] [kp [6] []]) .ret) .skip))))))) (.seq (.reg [od 6 (.mv (ku 2))] [kp [6] []]) .ret)))
def Q9 : List RV := [.tmp 6]
/- probecard/logic.Tri (function 100) -/
abbrev X8 : IC := (.seq (.reg [od 4 (.mv (ku 0))] [kp [0, 1] []]) (.seq (.seq (.reg [om 5 0] [kp [1, 5] []]) (.block 0 (.seq (.reg [od 7 (.bin .eql (tm 5) (ku 0)), om 6 7] [kp [1, 5, 6] []]) (.cond (tm 6) (.seq (.reg [od 4 (.mv (ku 3))] [kp [4] []])
 .ret) (.seq (.reg [od 9 (.bin .eql (tm 5) (ku 1)), om 8 9] [kp [1, 8] []]) (.cond (tm 8) (.seq (.reg [om 10 1, od 11 (.call 94 [(tm 10)]), om 4 11] [kp [4] []]) .ret) .skip)))))) (.seq (.reg [od 4 (.mv (ku 2))] [kp [4] []]) .ret)))
def X9 : List RV := [.tmp 4]
/- probecard/logic.Bus (function 101) -/
abbrev q6r : IC := (.seq (.reg [od 2 (.mv (ku 0))] [kp [0] []]) (.seq (.reg [od 3 (.mv (.func 129))] [kp [0, 3] []]) (.seq (.reg [od 4 (.mv (.func 130))] [kp [0, 3, 4] []]) (.seq (.reg [om 6 0, om 7 4, od 8 (.call 123 [(tm 6), (tm 7)]), om 5 8] [kp
 [0, 3, 5] []]) (.seq (.block 0 (.seq (.reg [om 10 5, od 11 (.bin .lss (tm 10) (ki 0)), om 9 11] [kp [0, 3, 5, 9] []]) (.cond (tm 9) (.seq (.reg [od 2 (.mv (ku 3))] [kp [2] []]) .ret) (.seq (.reg [om 13 0, od 14 (.call 131 [(tm
 13)]), om 15 14, oF 16 (.mv (tm 0)) 15, oF 17 (.mv (tm 3)) 15, oF 18 (.call 80 [(tm 16), (tm 17)]) 15, od 19 (.pick (tm 15) kT (tm 18)), om 12 19] [kp [0, 5, 12] []]) (.cond (tm 12) (.seq (.reg [od 2 (.mv (ku 2))] [kp [2] []])
 .ret) .skip))))) (.seq (.reg [om 20 0, om 21 5, od 22 (ia 1 20 21), od 23 (ld 1 22), om 2 23] [kp [2] []]) .ret))))))
def Qa : List RV := [.tmp 2]
/- probecard/logic.Bus$1 (function 129) -/
abbrev q3M : IC := (.seq (.reg [od 2 (.mv kF)] [kp [0] []]) (.seq (.reg [om 3 0, od 4 (.call 109 [(tm 3)]), od 5 (.bin .eql (tm 4) (ku 2)), om 2 5] [kp [2] []]) .ret))
def q3N : List RV := [.tmp 2]
/- probecard/logic.Bus$2 (function 130) -/
abbrev q3O : IC := (.seq (.reg [od 2 (.mv kF)] [kp [0] []]) (.seq (.reg [om 3 0, od 4 (.bin .neq (tm 3) (ku 3)), om 2 4] [kp [2] []]) .ret))
def q3P : List RV := [.tmp 2]
/- probecard/logic.Conflict (function 131) -/
abbrev Zs : IC := (.seq (.reg [od 2 (.mv kF)] [kp [0] []]) (.seq (.reg [om 3 0, od 4 (.call 147 [(tm 3), (ku 0)]), om 5 4, oT 6 (.mv (tm 0)) 5, oT 7 (.call 147 [(tm 6), (ku 1)]) 5, od 8 (.pick (tm 5) (tm 7) kF), om 2 8] [kp [2] []]) .ret))
def Qb : List RV := [.tmp 2]
/- slices.Contains[[]probecard/api.Value,probecard/api.Value] (function 147) -/
abbrev J5 : IC := (.seq (.reg [od 4 (.mv kF)] [kp [0, 1] []]) (.seq (.reg [om 5 0, om 6 1, od 7 (.call 163 [(tm 5), (tm 6)]), od 8 (.bin .geq (tm 7) (ki 0)), om 4 8] [kp [4] []]) .ret))
def J6 : List RV := [.tmp 4]
/- slices.Index[[]probecard/api.Value,probecard/api.Value] (function 163) -/
abbrev M5 : IC := .gh (.seq (.reg [od 9 (.bin .lss (tm 8) (tm 7))] [kp [0, 1, 7, 8, 9] []]) (.seq (.cond (tm 9) .skip (.exit 0)) (.seq (.block 1 (.seq (.reg [om 10 8, om 5 10] [kp [0, 1, 5, 7, 8] []]) (.seq (.reg [om 11 1, om 12 0, om 13 5, od 14
 (ia 1 12 13), od 15 (ld 1 14), od 16 (.bin .eql (tm 11) (tm 15))] [kp [0, 1, 5, 7, 8, 16] []]) (.cond (tm 16) (.seq (.reg [om 17 5, om 4 17] [kp [4] []]) .ret) .skip)))) (.reg [od 18 (.bin .add (tm 8) (ki 1)), om 8 18] [kp [0, 1,
 7, 8] []])))) [kp [0, 1, 7, 8] []]
def E8 : IC := .loop M5
def Gs : List RO := [od 4 (.mv (.const (.int .i64 (-1))))]
abbrev M6 : IC := (.seq (.reg [od 4 (.mv (ki 0))] [kp [0, 1] []]) (.seq (.seq (.reg [om 6 0, od 7 (le 0 6), od 8 (.mv (ki 0))] [kp [0, 1, 7, 8] []]) (.block 0 E8)) (.seq (.reg Gs [kp [4] []]) .ret)))
theorem Ib (h : ∀ K : St → Prop, K = run P Γ E8 Q → run P Γ M5 (Am K Q) s) : run P Γ E8 Q s := Ae h
attribute [simp] Gs
def Db : List RV := [.tmp 4]
/- slices.ContainsFunc[[]probecard/api.Value,probecard/api.Value] (function 80) -/
abbrev H3 : IC := (.seq (.reg [od 4 (.mv kF)] [kp [0, 1] []]) (.seq (.reg [om 5 0, om 6 1, od 7 (.call 123 [(tm 5), (tm 6)]), od 8 (.bin .geq (tm 7) (ki 0)), om 4 8] [kp [4] []]) .ret))
def H4 : List RV := [.tmp 4]
/- slices.IndexFunc[[]probecard/api.Value,probecard/api.Value] (function 123) -/
abbrev Ic : IC := .gh (.seq (.reg [od 9 (.bin .lss (tm 8) (tm 7))] [kp [0, 1, 7, 8, 9] []]) (.seq (.cond (tm 9) .skip (.exit 0)) (.seq (.block 1 (.seq (.reg [om 10 8, om 5 10] [kp [0, 1, 5, 7, 8] []]) (.seq (.reg [om 11 1, om 12 0, om 13 5, od 14
 (ia 1 12 13), od 15 (ld 1 14), od 16 (.callv (tm 11) [(tm 15)])] [kp [0, 1, 5, 7, 8, 16] []]) (.cond (tm 16) (.seq (.reg [om 17 5, om 4 17] [kp [4] []]) .ret) .skip)))) (.reg [od 18 (.bin .add (tm 8) (ki 1)), om 8 18] [kp [0, 1, 7,
 8] []])))) [kp [0, 1, 7, 8] []]
def Dh : IC := .loop Ic
abbrev Ie : IC := (.seq (.reg [od 4 (.mv (ki 0))] [kp [0, 1] []]) (.seq (.seq (.reg [om 6 0, od 7 (le 0 6), od 8 (.mv (ki 0))] [kp [0, 1, 7, 8] []]) (.block 0 Dh)) (.seq (.reg [od 4 (.mv (.const (.int .i64 (-1))))] [kp [4]
 []]) .ret)))
theorem Gj (h : ∀ K : St → Prop, K = run P Γ Dh Q → run P Γ Ic (Am K Q) s) : run P Γ Dh Q s := Ae h
def Ek : List RV := [.tmp 4]
/- probecard/logic.Eval (function 40) -/
abbrev Bl : IC := (.seq (.reg [od 4 (.mv (ku 0))] [kp [0, 1] []]) (.seq (.seq (.reg [om 8 0, od 9 (.call 93 [(tm 8)]), om 7 9, od 10 (ex 7 0), od 11 (ex 7 1), om 5 10, om 6 11] [kp [0, 1, 5, 6] []]) (.seq (.reg [om 12 1, od 13 (le 0 12), om 14 5, od
 15 (.bin .lss (tm 13) (tm 14)), om 16 15, oF 17 (.mv (tm 1)) 16, oF 18 (le 0 17) 16, oF 19 (.mv (tm 6)) 16, oF 20 (.bin .gtr (tm 18) (tm 19)) 16, od 21 (.pick (tm 16) kT (tm 20))] [kp [0, 1, 21] []]) (.cond (tm 21) (.seq (.reg [od
 4 (.mv (ku 2))] [kp [4] []]) .ret) .skip))) (.seq (.seq (.reg [om 22 0] [kp [1, 22] []]) (.block 0 (.seq (.reg [od 24 (.bin .eql (tm 22) (ku 1)), om 23 24] [kp [1, 22, 23] []]) (.cond (tm 23) (.seq (.reg [od 4 (.mv (ku 0))] [kp [4]
 []]) .ret) (.seq (.reg [od 26 (.bin .eql (tm 22) (ku 2)), om 25 26] [kp [1, 22, 25] []]) (.cond (tm 25) (.seq (.reg [od 4 (.mv (ku 1))] [kp [4] []]) .ret) (.seq (.reg [od 28 (.bin .eql (tm 22) (ku 3)), om 27 28] [kp [1, 22, 27]
 []]) (.cond (tm 27) (.seq (.reg [om 29 1, od 30 (.iadr 1 (tm 29) (ki 0)), od 31 (ld 1 30), od 32 (.call 94 [(tm 31)]), om 4 32] [kp [4] []]) .ret) (.seq (.reg [od 34 (.bin .eql (tm 22) (ku 4)), om 33 34] [kp [1, 22, 33] []]) (.cond
 (tm 33) (.seq (.reg [om 35 1, od 36 (.iadr 1 (tm 35) (ki 0)), od 37 (ld 1 36), od 38 (.call 95 [(tm 37)]), om 4 38] [kp [4] []]) .ret) (.seq (.reg [od 40 (.bin .eql (tm 22) (ku 5)), om 39 40] [kp [1, 22, 39] []]) (.cond (tm 39)
 (.seq (.reg [om 41 1, od 42 (.call 96 [(tm 41)]), om 4 42] [kp [4] []]) .ret) (.seq (.reg [od 44 (.bin .eql (tm 22) (ku 6)), om 43 44] [kp [1, 22, 43] []]) (.cond (tm 43) (.seq (.reg [om 45 1, od 46 (.call 96 [(tm 45)]), od 47
 (.call 95 [(tm 46)]), om 4 47] [kp [4] []]) .ret) (.seq (.reg [od 49 (.bin .eql (tm 22) (ku 7)), om 48 49] [kp [1, 22, 48] []]) (.cond (tm 48) (.seq (.reg [om 50 1, od 51 (.call 97 [(tm 50)]), om 4 51] [kp [4] []]) .ret) (.seq
 (.reg [od 53 (.bin .eql (tm 22) (ku 8)), om 52 53] [kp [1, 22, 52] []]) (.cond (tm 52) (.seq (.reg [om 54 1, od 55 (.call 97 [(tm 54)]), od 56 (.call 95 [(tm 55)]), om 4 56] [kp [4] []]) .ret) (.seq (.reg [od 58 (.bin .eql (tm 22)
 (ku 9)), om 57 58] [kp [1, 22, 57] []]) (.cond (tm 57) (.seq (.reg [om 59 1, od 60 (.call 98 [(tm 59)]), om 4 60] [kp [4] []]) .ret) (.seq (.reg [od 62 (.bin .eql (tm 22) (ku 10)), om 61 62] [kp [1, 22, 61] []]) (.cond (tm 61)
 (.seq (.reg [om 63 1, od 64 (.call 98 [(tm 63)]), od 65 (.call 95 [(tm 64)]), om 4 65] [kp [4] []]) .ret) (.seq (.reg [od 67 (.bin .eql (tm 22) (ku 11)), om 66 67] [kp [1, 22, 66] []]) (.cond (tm 66) (.seq (.reg [om 68 1, od 69
 (.iadr 1 (tm 68) (ki 0)), od 70 (ld 1 69), om 71 1, od 72 (.iadr 1 (tm 71) (ki 1)), od 73 (ld 1 72), om 74 1, od 75 (.iadr 1 (tm 74) (ki 2)), od 76 (ld 1 75), od 77 (.call 99 [(tm 70), (tm 73), (tm 76)]), om 4 77] [kp [4] []])
 .ret) (.seq (.reg [od 79 (.bin .eql (tm 22) (ku 12)), om 78 79] [kp [1, 22, 78] []]) (.cond (tm 78) (.seq (.reg [om 80 1, od 81 (.iadr 1 (tm 80) (ki 0)), od 82 (ld 1 81), om 83 1, od 84 (.iadr 1 (tm 83) (ki 1)), od 85 (ld 1 84), od
 86 (.call 100 [(tm 82), (tm 85)]), om 4 86] [kp [4] []]) .ret) (.seq (.reg [od 88 (.bin .eql (tm 22) (ku 13)), om 87 88] [kp [1, 87] []]) (.cond (tm 87) (.seq (.reg [om 89 1, od 90 (.call 101 [(tm 89)]), om 4 90] [kp [4] []]) .ret)
 .skip)))))))))))))))))))))))))))) (.seq (.reg [od 4 (.mv (ku 2))] [kp [4] []]) .ret))))
def Be : List RV := [.tmp 4]
end
end Go.Lg
