/- Plain data as trees, and how calls are taken. Conditions: none. -/
import Derived.Test.YtjcogpofldkniaaGreatDoorPkC
import Derived.Test.YtjcogpofldkniaaGreatDoorProg
import Derived.KernelRfl
import Derived.Lib.Bytealg
import Derived.Test.YtjcogpofldkniaaGreatDoorRows
import Derived.Test.YtjcogpofldkniaaGreatDoorCards
import Derived.Test.YtjcogpofldkniaaGreatDoorTie
import Derived.ProofKit
import Derived.Deep.DeepHandedRow
import Derived.SevenTiedAt
set_option linter.unusedSimpArgs false
set_option linter.unusedVariables false
namespace Go.Lg
open Go
attribute [simp] C9 Cd T.one AV.one Value.oneCell' D7 F9 F8 Am Yb ret qCK
@[simp] theorem qEs (a b : Int) : (a == b) = decide (a = b) := rfl
@[simp] theorem qJF (a b : Int) : (a != b) = !decide (a = b) := rfl
@[simp] theorem qJG (s : List UInt8) : (ByteArray.mk s.toArray).size = s.length := by simp [ByteArray.size]
def Af {α : Type} (f : α → T) (l : List α) : List (List T) := l.map fun n => [f n]
theorem A1 {α : Type} {f : α → T} {l : List α} : (Af f l).length = l.length := by simp [Af]
theorem C2 {α : Type} {f : α → T} {l : List α} {i : Nat} (d : α) (h : i < l.length) : (Af f l)[i]?.getD [] = [f (l[i]?.getD d)] := by simp [Af, h]
theorem A5 {α : Type} {f : α → T} {l : List α} : E4 1 (Af f l) := by
 intro e he; obtain ⟨x, _, rfl⟩ := List.mem_map.1 he; rfl
theorem qDQ {α : Type} {f : α → T} {l m : List α} : Af f l ++ Af f m = Af f (l ++ m) := by simp [Af]
theorem q7a {α : Type} {f : α → T} {l : List α} {n : Nat} : (Af f l).take n = Af f (l.take n) := by simp [Af, List.map_take]
theorem Ep {α : Type} {f : α → T} {l : List α} {n : Nat} {x : α} : (Af f l).set n [f x] = Af f (l.set n x) := by simp [Af, List.map_set]
theorem I8 {α : Type} {f : α → T} : Af f [] = [] := rfl
@[simp] theorem qEt {s : Nat} : E4 s [] := fun e h => by cases h
def Bc {α : Type} (f : α → List T) (l : List α) : List (List T) := l.map f
theorem Aa {α : Type} {f : α → List T} {l : List α} : (Bc f l).length = l.length := by simp [Bc]
theorem Dy {α : Type} {f : α → List T} {l : List α} {i : Nat} (d : α) (h : i < l.length) : (Bc f l)[i]?.getD [] = f (l[i]?.getD d) := by simp [Bc, h]
theorem q3R {α : Type} {f : α → List T} {l : List α} {s : Nat} (h : ∀ x, (f x).length = s) : E4 s (Bc f l) := by
 intro e he; obtain ⟨x, _, rfl⟩ := List.mem_map.1 he; exact h x
theorem q0c {α : Type} {f : α → List T} {l m : List α} : Bc f l ++ Bc f m = Bc f (l ++ m) := by simp [Bc]
@[simp] theorem Bh {α : Type} {f : α → T} {l : List α} : (Af f l).take l.length = Af f l := by rw [List.take_of_length_le (by simp [Af])]
theorem E0 {α : Type} {f : α → T} {l : List α} {x : α} : Af f l ++ [[f x]] = Af f (l ++ [x]) := by simp [Af]
@[simp] theorem qEU {α : Type} {f : α → List T} {l : List α} : (Bc f l).take l.length = Bc f l := by rw [List.take_of_length_le (by simp [Bc])]
theorem q1a {α : Type} {f : α → List T} {l : List α} {x : α} : Bc f l ++ [f x] = Bc f (l ++ [x]) := by simp [Bc]
structure Sl (α : Type) where
 l : List α
 cap : Option Nat
 nl : Option Bool
abbrev tI (n : Int) : T := .v (.int .i64 n)
abbrev tK (n : Int) : T := .v (.int .u8 n)
abbrev tB (b : Bool) : T := .v (.bool b)
abbrev Bo (l : List Int) : List (List T) := Af tI l
def Bl (s : Sl Int) : T := .sl (Bo s.l) s.cap s.nl
@[simp] theorem qGm {cs : List AV} : Qs (.bx cs) = ∀ c ∈ cs, F8 c := rfl
@[simp] theorem qGn {s : ByteArray} {p : Nat} : Qs (.it s p) = True := rfl
@[simp] theorem qFh {ty s : Nat} : Qs (.sl ty s []) = True := by simp [Qs]
theorem Zi {α : Type} {f : α → T} {l : List α} {ty s : Nat} (h : ∀ x, Am (f x) = true) : Qs (.sl ty s (Af f l)) := by
 intro e he t ht
 obtain ⟨x, _, rfl⟩ := List.mem_map.1 he
 simp only [List.mem_singleton] at ht; subst ht; exact h x
@[simp] theorem qHn {l : List Int} {ty s : Nat} : Qs (.sl ty s (Af tI l)) = True := eq_true (Zi fun _ => rfl)
@[simp] theorem qHo {l : List Int} {ty s : Nat} : Qs (.sl ty s (Af tK l)) = True := eq_true (Zi fun _ => rfl)
@[simp] theorem qHp {l : List Bool} {ty s : Nat} : Qs (.sl ty s (Af tB l)) = True := eq_true (Zi fun _ => rfl)
section
variable {P : Program} {Γ : Tables} {hp : List (Nat × B0)} {f : FuncId} {avs : List AV} {K : T → Prop} {ts : List T} {res : T}
theorem A9 (h : Ae P Γ f ts res) (ht : Ak (avs.map toT) = some ts) (hk : K res) : q3Q P Γ hp f avs K ⟨⟩ := ⟨res, .inl ⟨ts, ht, h⟩, hk⟩
theorem A0 (h : A3 P Γ f ts res) (ht : Ak (avs.map (Ag hp 4)) = some ts) (hk : K res) : q3Q P Γ hp f avs K ⟨⟩ := ⟨res, .inr ⟨ts, ht, h⟩, hk⟩
theorem B5 {ic : IC} {N n : Nat} {rvs : List RV} {args : List T} (hc : As P f ic N n rvs = true) (hn : args.length = n) (h : run P Γ ic (ret false rvs fun r => r = res) ⟨params 0 args, []⟩) : Ae P Γ f args res := by
 obtain ⟨r, h1, rfl⟩ := run_pure hc hn h; exact h1
theorem A7 {ic : IC} {N n : Nat} {rvs : List RV} {args : List T} (hc : As P f ic N n rvs = true) (hn : args.length = n) (h : run P Γ ic (ret true rvs fun r => r = res) ⟨params 0 args, []⟩) : A3 P Γ f args res := by
 obtain ⟨r, h1, rfl⟩ := q7X hc hn h; exact h1
theorem Ik {ic : IC} {N n : Nat} {rvs : List RV} {args : List AV} {r0 : AV} {hp' : List (Nat × B0)} (hc : As P f ic N n rvs = true) (hn : args.length = n) (h : run P Γ ic (qCK rvs fun r h => r = r0 ∧ h = hp') ⟨q8F 0 args, hp⟩) : Ge P Γ f hp args r0 hp' := by
 obtain ⟨r, h', h1, rfl, rfl⟩ := qDM hc hn h; exact h1
end
end Go.Lg
namespace Go.Lg
open Go
section
variable {P : Program} {Γ : Tables} {Q : AX → St → Prop} {s : St}
/- probecard/netlists.Check (function 20) -/
abbrev Wb : IC := (.seq (.reg [od 1 (.box true (tm 0)), od 2 (.mv (ki 0))] [kp [1] []]) (.seq (.reg [od 6 (lG 4 1), od 7 (.call 67 [(tm 6)]), om 5 7, od 8 (ex 5 0), od 9 (ex 5 1), om 3 8, om 4 9] [kp [4] []]) (.seq (.reg [om 10 4, om 2 10] [kp [2]
 []]) .ret)))
def Wc : List RV := [.tmp 2]
/- probecard/netlists.Of (function 66) -/
abbrev q0d : IC := .gh (.seq (.reg [od 12 (.bin .lss (tm 11) (tm 10))] [kp [1, 5, 9, 10, 11, 12] [23]]) (.seq (.cond (tm 12) .skip (.exit 0)) (.seq (.block 1 (.seq (.reg [om 13 11, od 14 (ia 4 9 11), od 15 (lG 4 14), od 7 (.alloc false [(.int .u8 0),
 (.slice none 0 0), (.int .i64 0), (.int .i64 0)]), om 6 13, on (.store 4 (tm 7) (tm 15))] [kp [1, 5, 6, 7, 9, 10, 11] [7, 23]]) (.seq (.reg [om 16 1, od 17 (fa 0 7), od 18 (ld 1 17), od 19 (.call 111 [(tm 16), (tm 18)])] [kp [1, 5,
 6, 9, 10, 11, 19] [23]]) (.cond (tm 19) (.reg [om 20 5, om 21 6, od 22 (.bsl true 3 1 [(tm 21)]), od 23 (.app false 3 1 (tm 20) (tm 22)), om 5 23] [kp [1, 5, 9, 10, 11] [23]]) .skip)))) (.reg [od 24 (.bin .add (tm 11) (ki 1)), om
 11 24] [kp [1, 5, 9, 10, 11] [23]])))) [kp [1, 5, 9, 10, 11] [23]]
def O2 : IC := .loop q0d
abbrev q0e : IC := (.seq (.reg [od 2 (.box true (tm 0)), od 4 (.mv kN)] [kp [1, 2] []]) (.seq (.reg [od 5 (.mv kN)] [.nl 5 23 3 1, kp [1, 2, 5] [23]]) (.seq (.seq (.reg [od 8 (fa 0 2), od 9 (ld 1 8), od 10 (le 0 9), od 11 (.mv (ki 0))] [kp [1, 5, 9,
 10, 11] [23]]) (.block 0 O2)) (.seq (.reg [om 25 5, od 26 (.hcall 62 [(tm 25)] [23] 26000), om 4 26] [kp [4] [23]]) .ret))))
theorem Us (h : ∀ K : St → Prop, K = run P Γ O2 Q → run P Γ q0d (Aq K Q) s) : run P Γ O2 Q s := Ac h
def q0f : List RV := [.tmp 4]
/- probecard/netlists.States (function 19) -/
abbrev Ut : IC := (.seq (.reg [od 1 (.box true (tm 0)), od 2 (.mv kN)] [kp [1] []]) (.seq (.reg [od 3 (lG 4 1), od 4 (.bsl true 71 1 [(ku 14)]), od 5 (.call 66 [(tm 3), (tm 4)]), om 2 5] [kp [2] []]) .ret))
def Uu : List RV := [.tmp 2]
/- probecard/netlists.Comb (function 39) -/
abbrev Yd : IC := (.seq (.reg [od 2 (.mv kF)] [kp [0] []]) (.seq (.reg [om 3 0, od 4 (.bin .geq (tm 3) (ku 1)), om 5 4, oT 6 (.mv (tm 0)) 5, oT 7 (.bin .leq (tm 6) (ku 13)) 5, od 8 (.pick (tm 5) (tm 7) kF), om 2 8] [kp [2] []]) .ret))
def Ye : List RV := [.tmp 2]
/- slices.Clip[[]int,int] (function 62) -/
abbrev Uw : IC := (.seq (.reg [od 2 (.mv kN)] [kp [0] [1000000]]) (.seq (.reg [om 3 0, om 4 0, od 5 (le 0 4), om 6 0, od 7 (le 0 6), od 8 (.slice 1 (tm 3) none (some (tm 5)) (some (tm 7))), om 2 8] [kp [2] [1000000]]) .ret))
def Ux : List RV := [.tmp 2]
/- probecard/netlists.Levels (function 67) -/
def Es : List RO := [om 45 6, om 46 8, od 47 (ia 1 45 46), od 48 (ld 1 47), od 49 (.bin .eql (tm 48) (ki 0))]
def Kw : List RO := [om 50 7, om 51 8, od 52 (.bsl true 3 1 [(tm 51)]), od 53 (.app false 3 1 (tm 50) (tm 52)), om 7 53]
def Kx : List RO := [od 54 (.bin .add (tm 31) (ki 1)), om 31 54]
abbrev Uy : IC := .gh (.seq (.reg [od 32 (.bin .lss (tm 31) (tm 30))] [kp [1, 5, 6, 7, 29, 30, 31, 32] [23, 27, 53]]) (.seq (.cond (tm 32) .skip (.exit 0)) (.seq (.block 1 (.seq (.reg [om 33 31, od 34 (ia 4 29 31), od 35 (lG 4 34), od 9 (.alloc
 false [(.int .u8 0), (.slice none 0 0), (.int .i64 0), (.int .i64 0)]), om 8 33, on (.store 4 (tm 9) (tm 35))] [kp [1, 5, 6, 7, 8, 9, 29, 30, 31] [9, 23, 27, 53]]) (.seq (.seq (.reg [od 36 (fa 0 9), od 37 (ld 1 36), od 38 (.call 39
 [(tm 37)])] [kp [1, 5, 6, 7, 8, 9, 29, 30, 31, 38] [9, 23, 27, 53]]) (.cond (tm 38) (.reg [om 39 6, om 40 8, od 41 (fa 1 9), od 42 (ld 1 41), od 43 (le 0 42), od 44 (ia 1 39 40), on (.store 1 (tm 44) (tm 43))] [kp [1, 5, 6, 7, 8,
 29, 30, 31] [23, 27, 53]]) .skip)) (.seq (.reg Es [kp [1, 5, 6, 7, 8, 29, 30, 31, 49] [23, 27, 53]]) (.cond (tm 49) (.reg Kw [kp [1, 5, 6, 7, 29, 30, 31] [23, 27, 53]]) .skip))))) (.reg
 Kx [kp [1, 5, 6, 7, 29, 30, 31] [23, 27, 53]])))) [kp [1, 5, 6, 7, 29, 30, 31] [23, 27, 53]]
def Hv : IC := .loop Uy
abbrev Uz : IC := .gh (.seq (.reg [od 79 (.bin .lss (tm 78) (tm 77))] [kp [1, 5, 6, 7, 10, 11, 12, 76, 77, 78, 79] [23, 27, 53]]) (.seq (.cond (tm 79) .skip (.exit 4)) (.seq (.block 5 (.seq (.reg [od 80 (ia 2 76 78), od 81 (lG 2 80), od 14 (.alloc
 false [(.int .i64 0), (.int .i64 0)]), on (.store 2 (tm 14) (tm 81))] [kp [1, 5, 6, 7, 10, 11, 12, 14, 76, 77, 78] [14, 23, 27, 53]]) (.seq (.seq (.reg [od 82 (fa 0 1), od 83 (ld 1 82), od 84 (fa 0 14), od 85 (ld 1 84), od 86 (ia 4
 83 85), od 87 (fa 0 86), od 88 (ld 1 87), od 89 (.call 39 [(tm 88)]), od 90 (.un .not (tm 89))] [kp [1, 5, 6, 7, 10, 11, 12, 14, 76, 77, 78, 90] [14, 23, 27, 53]]) (.cond (tm 90) (.exit 5) .skip)) (.seq (.reg [om 91 5, od 92 (fa 0
 14), od 93 (.ldR 14 1 false (tm 92)), om 94 5, od 95 (fa 0 14), od 96 (.ldR 14 1 false (tm 95)), od 97 (ia 1 94 96), od 98 (.ldR 23 1 false (tm 97)), om 99 5, om 100 12, od 101 (ia 1 99 100), od 102 (.ldR 23 1 false (tm 101)), od
 103 (.bin .add (tm 102) (ki 1)), od 104 (.mmx true [(tm 98), (tm 103)]), od 105 (ia 1 91 93), on (.stR 23 1 (tm 105) (tm 104))] [kp [1, 5, 6, 7, 10, 11, 12, 14, 76, 77, 78] [14, 23, 27, 53]]) (.seq (.reg [om 106 6, od 107 (fa 0
 14), od 108 (ld 1 107), od 109 (ia 1 106 108), od 110 (ld 1 109), od 111 (.bin .sub (tm 110) (ki 1)), od 112 (ia 1 106 108), on (.store 1 (tm 112) (tm 111))] [kp [1, 5, 6, 7, 10, 11, 12, 14, 76, 77, 78] [14, 23, 27, 53]]) (.seq
 (.reg [om 113 6, od 114 (fa 0 14), od 115 (ld 1 114), od 116 (ia 1 113 115), od 117 (ld 1 116), od 118 (.bin .eql (tm 117) (ki 0))] [kp [1, 5, 6, 7, 10, 11, 12, 14, 76, 77, 78, 118] [14, 23, 27, 53]]) (.cond (tm 118) (.reg [om 119
 7, od 120 (fa 0 14), od 121 (ld 1 120), od 122 (.bsl true 3 1 [(tm 121)]), oz 123 (.app false 3 1 (tm 119) (tm 122)) 53, om 7 123] [kp [1, 5, 6, 7, 10, 11, 12, 76, 77, 78] [23, 27, 53]]) .skip))))))) (.reg [od 124 (.bin .add (tm
 78) (ki 1)), om 78 124] [kp [1, 5, 6, 7, 10, 11, 12, 76, 77, 78] [23, 27, 53]])))) [kp [1, 5, 6, 7, 10, 11, 12, 76, 77, 78] [23, 27, 53]]
def Hw : IC := .loop Uz
abbrev V0 : IC := .gh (.seq (.seq (.reg [om 57 11, om 58 7, od 59 (le 0 58), od 60 (.bin .lss (tm 57) (tm 59))] [kp [1, 5, 6, 7, 10, 11, 60] [23, 27, 53]]) (.cond (tm 60) .skip (.exit 2))) (.block 3 (.seq (.reg [om 61 7, om 62 11, od 63 (ia 1 61
 62), od 64 (ld 1 63), om 12 64] [kp [1, 5, 6, 7, 10, 11, 12] [23, 27, 53]]) (.seq (.reg [om 65 11, od 66 (.bin .add (tm 65) (ki 1)), om 11 66] [kp [1, 5, 6, 7, 10, 11, 12] [23, 27, 53]]) (.seq (.seq (.reg [om 67 10, om 68 12, od 69
 (ia 1 67 68), od 70 (ld 1 69), od 71 (le 0 70), od 72 (.bin .eql (tm 71) (ki 0))] [kp [1, 5, 6, 7, 10, 11, 12, 72] [23, 27, 53]]) (.cond (tm 72) (.exit 3) .skip)) (.seq (.reg [om 73 10, om 74 12, od 75 (ia 1 73 74), od 76 (ld 1
 75), od 77 (le 0 76), od 78 (.mv (ki 0))] [kp [1, 5, 6, 7, 10, 11, 12, 76, 77, 78] [23, 27, 53]]) (.block 4 Hw))))))) [kp [1, 5, 6, 7, 10, 11] [23, 27, 53]]
def Hy : IC := .loop V0
abbrev V1 : IC := (.seq (.reg [od 1 (.box true (tm 0)), od 2 (.mv kN), od 3 (.mv (ki 0))] [kp [1] []]) (.scope (.seq (.seq (.reg [od 15 (lG 4 1), od 16 (.call 112 [(tm 15)]), om 4 16] [kp [1, 4] []]) (.seq (.reg [om 17 4, od 18 (.bin .neq (tm 17)
 (ki 0))] [kp [1, 4, 18] []]) (.cond (tm 18) (.seq (.reg [om 19 4, od 2 (.mv kN), om 3 19] [kp [2, 3] [23]]) .ret) .skip))) (.seq (.reg [od 20 (fa 0 1), od 21 (ld 1 20), od 22 (le 0 21), od 23 (.mk 3 1 [(.int .i64 0)] (tm 22) (tm
 22)), om 5 23] [kp [1, 5] [23]]) (.seq (.reg [od 24 (fa 0 1), od 25 (ld 1 24), od 26 (le 0 25), od 27 (.mk 3 1 [(.int .i64 0)] (tm 26) (tm 26)), om 6 27] [kp [1, 5, 6] [23, 27]]) (.seq (.reg [od 7 (.mv kN)] [.nl 7 53 3 1, kp [1, 5,
 6, 7] [23, 27, 53]]) (.seq (.seq (.reg [od 28 (fa 0 1), od 29 (ld 1 28), od 30 (le 0 29), od 31 (.mv (ki 0))] [kp [1, 5, 6, 7, 29, 30, 31] [23, 27, 53]]) (.block 0 Hv)) (.seq (.reg [od 55 (lG 4 1), od 56 (.call 113
 [(tm 55)]), om 10 56] [kp [1, 5, 6, 7, 10] [23, 27, 53]]) (.seq (.reg [od 11 (.mv (ki 0))] [kp [1, 5, 6, 7, 10, 11] [23, 27, 53]]) (.seq .skip (.seq (.block 2 Hy) (.seq (.seq (.reg [om 125 11, od 126 (fa 0 1), od
 127 (ld 1 126), od 128 (le 0 127), od 129 (.bin .lss (tm 125) (tm 128))] [kp [5, 129] [23]]) (.cond (tm 129) (.seq (.reg [od 2 (.mv kN), od 3 (.mv (ki 6))] [kp [2, 3] [23]]) .ret) .skip)) (.seq (.reg [om 130 5, om 2 130, od 3 (.mv
 (ki 0))] [kp [2, 3] [23]]) .ret)))))))))))))
theorem O3 (h : ∀ K : St → Prop, K = run P Γ Hv Q → run P Γ Uy (Aq K Q) s) : run P Γ Hv Q s := Ac h
theorem O4 (h : ∀ K : St → Prop, K = run P Γ Hw Q → run P Γ Uz (Aq K Q) s) : run P Γ Hw Q s := Ac h
theorem O5 (h : ∀ K : St → Prop, K = run P Γ Hy Q → run P Γ V0 (Aq K Q) s) : run P Γ Hy Q s := Ac h
attribute [simp] Es Kw Kx
def Hz : List RV := [.tmp 2, .tmp 3]
/- slices.Contains[[]probecard/api.Kind,probecard/api.Kind] (function 111) -/
abbrev Ir : IC := (.seq (.reg [od 4 (.mv kF)] [kp [0, 1] []]) (.seq (.reg [om 5 0, om 6 1, od 7 (.call 133 [(tm 5), (tm 6)]), od 8 (.bin .geq (tm 7) (ki 0)), om 4 8] [kp [4] []]) .ret))
def Is : List RV := [.tmp 4]
/- probecard/netlists.shape (function 112) -/
abbrev We : IC := .gh (.seq (.reg [od 39 (.bin .lss (tm 38) (tm 37))] [kp [1, 36, 37, 38, 39] []]) (.seq (.cond (tm 39) .skip (.exit 1)) (.seq (.block 2 (.seq (.reg [od 40 (ia 4 36 38), od 41 (lG 4 40), od 4 (.alloc false [(.int .u8 0), (.slice none
 0 0), (.int .i64 0), (.int .i64 0)]), on (.store 4 (tm 4) (tm 41))] [kp [1, 4, 36, 37, 38] [4]]) (.seq (.reg [od 42 (lG 4 1), od 43 (lG 4 4), od 44 (.call 134 [(tm 42), (tm 43)]), om 5 44] [kp [1, 5, 36, 37, 38] []]) (.seq (.reg
 [om 45 5, od 46 (.bin .neq (tm 45) (ki 0))] [kp [1, 5, 36, 37, 38, 46] []]) (.cond (tm 46) (.seq (.reg [om 47 5, om 2 47] [kp [2] []]) .ret) .skip))))) (.reg [od 48 (.bin .add (tm 38) (ki 1)), om 38 48] [kp [1, 36, 37, 38] []]))))
 [kp [1, 36, 37, 38] []]
def It : IC := .loop We
abbrev Wg : IC := .gh (.seq (.reg [od 58 (.bin .lss (tm 57) (tm 56))] [kp [1, 55, 56, 57, 58] []]) (.seq (.cond (tm 58) .skip (.exit 3)) (.seq (.block 4 (.seq (.reg [od 59 (ia 3 55 57), od 60 (lG 3 59), od 8 (.alloc false [(.slice none 0 0), (.slice
 none 0 0), (.int .i64 0)]), on (.store 3 (tm 8) (tm 60))] [kp [1, 8, 55, 56, 57] [8]]) (.seq (.reg [od 61 (lG 4 1), od 62 (lG 3 8), od 63 (.call 136 [(tm 61), (tm 62)]), om 9 63] [kp [1, 9, 55, 56, 57] []]) (.seq (.reg [om 64 9, od
 65 (.bin .neq (tm 64) (ki 0))] [kp [1, 9, 55, 56, 57, 65] []]) (.cond (tm 65) (.seq (.reg [om 66 9, om 2 66] [kp [2] []]) .ret) .skip))))) (.reg [od 67 (.bin .add (tm 57) (ki 1)), om 57 67] [kp [1, 55, 56, 57] []])))) [kp [1, 55,
 56, 57] []]
def Iu : IC := .loop Wg
abbrev Ej : IC := (.seq (.reg [od 1 (.box true (tm 0)), od 2 (.mv (ki 0))] [kp [1] []]) (.seq (.block 0 (.seq (.reg [od 11 (fa 0 1), od 12 (ld 1 11), od 13 (le 0 12), od 14 (.bin .gtr (tm 13) (ki 16384)), om 15 14, oF 16 (fa 2 1) 15, oF 17 (ld 1 16)
 15, oF 18 (le 0 17) 15, oF 19 (.bin .gtr (tm 18) (ki 16)) 15, od 20 (.pick (tm 15) kT (tm 19)), om 21 20, oF 22 (fa 3 1) 21, oF 23 (ld 1 22) 21, oF 24 (le 0 23) 21, oF 25 (.bin .gtr (tm 24) (ki 16384)) 21, od 26 (.pick (tm 21) kT
 (tm 25)), om 10 26] [kp [1, 10] []]) (.cond (tm 10) (.seq (.reg [od 2 (.mv (ki 3))] [kp [2] []]) .ret) (.seq (.reg [od 28 (fa 1 1), od 29 (ld 1 28), od 30 (le 0 29), od 31 (fa 0 1), od 32 (ld 1 31), od 33 (le 0 32), od 34 (.bin
 .neq (tm 30) (tm 33)), om 27 34] [kp [1, 27] []]) (.cond (tm 27) (.seq (.reg [od 2 (.mv (ki 8))] [kp [2] []]) .ret) .skip))))) (.seq (.seq (.reg [od 35 (fa 0 1), od 36 (ld 1 35), od 37 (le 0 36), od 38 (.mv (ki 0))] [kp [1, 36, 37,
 38] []]) (.block 1 It)) (.seq (.seq (.reg [od 49 (lG 4 1), od 50 (.call 135 [(tm 49)]), om 6 50] [kp [1, 6] []]) (.seq (.reg [om 51 6, od 52 (.bin .neq (tm 51) (ki 0))] [kp [1, 6, 52] []]) (.cond (tm 52) (.seq (.reg
 [om 53 6, om 2 53] [kp [2] []]) .ret) .skip))) (.seq (.seq (.reg [od 54 (fa 2 1), od 55 (ld 1 54), od 56 (le 0 55), od 57 (.mv (ki 0))] [kp [1, 55, 56, 57] []]) (.block 3 Iu)) (.seq (.seq (.reg [od 68 (fa 3 1), od 69
 (ld 1 68), od 70 (lG 4 1), od 71 (.call 138 [(tm 70)]), od 72 (.call 137 [(tm 69), (tm 71)])] [kp [72] []]) (.cond (tm 72) (.seq (.reg [od 2 (.mv (ki 1))] [kp [2] []]) .ret) .skip)) (.seq (.reg [od 2 (.mv (ki 0))] [kp [2] []])
 .ret)))))))
theorem Ph (h : ∀ K : St → Prop, K = run P Γ It Q → run P Γ We (Aq K Q) s) : run P Γ It Q s := Ac h
theorem Pi (h : ∀ K : St → Prop, K = run P Γ Iu Q → run P Γ Wg (Aq K Q) s) : run P Γ Iu Q s := Ac h
def C5 : List RV := [.tmp 2]
/- probecard/netlists.Fanout (function 113) -/
def Ds : List RO := [om 37 3, om 38 8, om 39 3, om 40 8, od 41 (ia 1 39 40), od 42 (ld 1 41), om 43 5, om 44 7, od 45 (.build [(1, (tm 43)), (1, (tm 44))]), od 46 (.bsl true 165 2 [(tm 45)]), od 47 (.app false 165 2 (tm 42) (tm 46)), od 48 (ia 1 37
 38), on (.store 1 (tm 48) (tm 47))]
def Ky : List RO := [od 49 (.bin .add (tm 28) (ki 1)), om 28 49]
abbrev V5 : IC := .gh (.seq (.reg [od 29 (.bin .lss (tm 28) (tm 27))] [.keepB [3, 4, 5, 18, 19, 20, 26, 27, 28, 29] [14] 100000 16384]) (.seq (.cond (tm 29) .skip (.exit 2)) (.seq (.block 3 (.seq (.reg [om 30 28, od 31 (ia 1 26 28), od 32 (ld 1 31),
 om 7 30, om 8 32] [.keepB [3, 4, 5, 7, 8, 18, 19, 20, 26, 27, 28] [14] 100000 16384]) (.seq (.reg [om 33 4, om 34 8, od 35 (.callv (tm 33) [(tm 34)]), od 36 (.un .not (tm 35))] [.keepB [3, 4, 5, 7, 8, 18, 19, 20, 26, 27, 28, 36]
 [14] 100000 16384]) (.cond (tm 36) (.reg Ds [.renS 47 100000 8, .keepB [3, 4, 5, 18, 19, 20, 26, 27, 28] [14] 100000 16384]) .skip)))) (.reg Ky [.keepB [3, 4, 5, 18, 19, 20, 26, 27, 28] [14] 100000
 16384])))) [.keepB [3, 4, 5, 18, 19, 20, 26, 27, 28] [14] 100000 16384]
def I0 : IC := .loop V5
abbrev V6 : IC := .gh (.seq (.reg [od 21 (.bin .lss (tm 20) (tm 19))] [.keepB [3, 4, 18, 19, 20, 21] [14] 100000 16384]) (.seq (.cond (tm 21) .skip (.exit 0)) (.seq (.block 1 (.seq (.reg [om 22 20, od 23 (ia 4 18 20), od 24 (lG 4 23), od 6 (.alloc
 false [(.int .u8 0), (.slice none 0 0), (.int .i64 0), (.int .i64 0)]), om 5 22, on (.store 4 (tm 6) (tm 24))] [.keepB [3, 4, 5, 6, 18, 19, 20] [6, 14] 100000 16384]) (.seq (.reg [od 25 (fa 1 6), od 26 (ld 1 25), od 27 (le 0 26),
 od 28 (.mv (ki 0))] [.keepB [3, 4, 5, 18, 19, 20, 26, 27, 28] [14] 100000 16384]) (.block 2 I0)))) (.reg [od 50 (.bin .add (tm 20) (ki 1)), om 20 50] [.keepB [3, 4, 18, 19, 20] [14] 100000 16384])))) [.keepB [3, 4,
 18, 19, 20] [14] 100000 16384]
def I1 : IC := .loop V6
abbrev V7 : IC := .gh (.seq (.reg [od 54 (.bin .lss (tm 53) (tm 52))] [kp [3, 51, 52, 53, 54] [14, 47]]) (.seq (.cond (tm 54) .skip (.exit 4)) (.seq (.block 5 (.seq (.reg [om 55 53, od 56 (ia 1 51 53), od 57 (ld 1 56), om 9 55, om 10 57] [kp [3, 9,
 10, 51, 52, 53] [14, 47]]) (.reg [om 58 3, om 59 9, om 60 10, od 61 (.call 139 [(tm 60)]), od 62 (ia 1 58 59), on (.store 1 (tm 62) (tm 61))] [kp [3, 51, 52, 53] [14, 47]]))) (.reg [od 63 (.bin .add (tm 53) (ki 1)), om 53 63] [kp
 [3, 51, 52, 53] [14, 47]])))) [kp [3, 51, 52, 53] [14, 47]]
def I2 : IC := .loop V7
abbrev V8 : IC := (.seq (.reg [od 1 (.box true (tm 0)), od 2 (.mv kN)] [kp [1] []]) (.seq (.reg [od 11 (fa 0 1), od 12 (ld 1 11), od 13 (le 0 12), od 14 (.mkB 163 [(.slice none 0 0)] (tm 13) (tm 13)), om 3 14] [.keepB [1, 3] [14] 100000 16384])
 (.seq (.reg [od 15 (lG 4 1), od 16 (.call 138 [(tm 15)]), om 4 16] [.keepB [1, 3, 4] [14] 100000 16384]) (.seq (.seq (.reg [od 17 (fa 0 1), od 18 (ld 1 17), od 19 (le 0 18), od 20 (.mv (ki 0))] [.keepB [3, 4, 18, 19, 20] [14]
 100000 16384]) (.block 0 I1)) (.seq (.seq (.reg [om 51 3, od 52 (le 0 51), od 53 (.mv (ki 0))] [.frzs 100000 16384, kp [3, 51, 52, 53] [14, 47]]) (.block 4 I2)) (.seq (.reg [om 64 3, om 2 64] [kp [2]
 [14, 47]]) .ret))))))
theorem O6 (h : ∀ K : St → Prop, K = run P Γ I0 Q → run P Γ V5 (Aq K Q) s) : run P Γ I0 Q s := Ac h
theorem O7 (h : ∀ K : St → Prop, K = run P Γ I1 Q → run P Γ V6 (Aq K Q) s) : run P Γ I1 Q s := Ac h
theorem O8 (h : ∀ K : St → Prop, K = run P Γ I2 Q → run P Γ V7 (Aq K Q) s) : run P Γ I2 Q s := Ac h
attribute [simp] Ds Ky
def V9 : List RV := [.tmp 2]
/- slices.Index[[]probecard/api.Kind,probecard/api.Kind] (function 133) -/
abbrev La : IC := .gh (.seq (.reg [od 9 (.bin .lss (tm 8) (tm 7))] [kp [0, 1, 7, 8, 9] []]) (.seq (.cond (tm 9) .skip (.exit 0)) (.seq (.block 1 (.seq (.reg [om 10 8, om 5 10] [kp [0, 1, 5, 7, 8] []]) (.seq (.reg [om 11 1, om 12 0, om 13 5, od 14
 (ia 1 12 13), od 15 (ld 1 14), od 16 (.bin .eql (tm 11) (tm 15))] [kp [0, 1, 5, 7, 8, 16] []]) (.cond (tm 16) (.seq (.reg [om 17 5, om 4 17] [kp [4] []]) .ret) .skip)))) (.reg [od 18 (.bin .add (tm 8) (ki 1)), om 8 18] [kp [0, 1,
 7, 8] []])))) [kp [0, 1, 7, 8] []]
def E6 : IC := .loop La
def Gt : List RO := [od 4 (.mv (.const (.int .i64 (-1))))]
abbrev Lc : IC := (.seq (.reg [od 4 (.mv (ki 0))] [kp [0, 1] []]) (.seq (.seq (.reg [om 6 0, od 7 (le 0 6), od 8 (.mv (ki 0))] [kp [0, 1, 7, 8] []]) (.block 0 E6)) (.seq (.reg Gt [kp [4] []]) .ret)))
theorem I9 (h : ∀ K : St → Prop, K = run P Γ E6 Q → run P Γ La (Aq K Q) s) : run P Γ E6 Q s := Ac h
attribute [simp] Gt
def D8 : List RV := [.tmp 4]
/- probecard/logic.Fanin (function 93) -/
abbrev Va : IC := (.seq (.reg [od 2 (.mv (ki 0)), od 3 (.mv (ki 0))] [kp [0] []]) (.seq (.seq (.reg [om 4 0, od 5 (.conv .i64 (tm 4)), od 6 (.bin .geq (tm 5) (ki 16))] [kp [0, 6] []]) (.cond (tm 6) (.seq (.reg [od 2 (.mv (ki 0)), od 3 (.mv (.const
 (.int .i64 (-1))))] [kp [2, 3] []]) .ret) .skip)) (.seq (.reg [om 7 0, od 8 (.iadrA 16 2 (.global 0) (tm 7)), od 9 (.iadrA 2 1 (tm 8) (ki 0)), od 10 (ld 1 9), om 11 0, od 12 (.iadrA 16 2 (.global 0) (tm 11)), od 13 (.iadrA 2 1 (tm
 12) (ki 1)), od 14 (ld 1 13), om 2 10, om 3 14] [kp [2, 3] []]) .ret)))
def Vb : List RV := [.tmp 2, .tmp 3]
/- strings.IndexByte (function 132) -/
abbrev Rk : IC := (.seq (.reg [od 4 (.mv (ki 0))] [kp [0, 1] []]) (.seq (.reg [om 5 0, om 6 1, od 7 (.call 148 [(tm 5), (tm 6)]), om 4 7] [kp [4] []]) .ret))
def Rl : List RV := [.tmp 4]
/- probecard/netlists.node (function 134) -/
abbrev Yf : IC := (.seq (.reg [od 2 (.box true (tm 0)), od 3 (.box true (tm 1)), od 4 (.mv (ki 0))] [kp [2, 3] []]) (.seq (.reg [od 9 (fa 0 3), od 10 (ld 1 9), od 11 (.call 93 [(tm 10)]), om 8 11, od 12 (ex 8 0), od 13 (ex 8 1), om 5 12, om 6 13]
 [kp [2, 3, 5, 6] []]) (.seq (.reg [od 14 (.mkf 149 [(tm 2)]), om 7 14] [kp [2, 3, 5, 6, 7] []]) (.seq (.block 0 (.seq (.reg [od 16 (fa 0 3), od 17 (ld 1 16), od 18 (.bin .gtr (tm 17) (ku 15)), om 15 18] [kp [2, 3, 5, 6, 7, 15] []])
 (.cond (tm 15) (.seq (.reg [od 4 (.mv (ki 7))] [kp [4] []]) .ret) (.seq (.reg [od 20 (fa 1 3), od 21 (ld 1 20), od 22 (le 0 21), om 23 5, od 24 (.bin .lss (tm 22) (tm 23)), om 25 24, oF 26 (fa 1 3) 25, oF 27 (ld 1 26) 25, oF 28 (le
 0 27) 25, oF 29 (.mv (tm 6)) 25, oF 30 (.bin .gtr (tm 28) (tm 29)) 25, od 31 (.pick (tm 25) kT (tm 30)), om 19 31] [kp [2, 3, 7, 19] []]) (.cond (tm 19) (.seq (.reg [od 4 (.mv (ki 8))] [kp [4] []]) .ret) (.seq (.reg [od 33 (fa 1
 3), od 34 (ld 1 33), od 35 (lG 4 2), od 36 (.call 138 [(tm 35)]), od 37 (.call 137 [(tm 34), (tm 36)]), om 32 37] [kp [2, 3, 7, 32] []]) (.cond (tm 32) (.seq (.reg [od 4 (.mv (ki 1))] [kp [4] []]) .ret) (.seq (.reg [od 39 (fa 0 3),
 od 40 (ld 1 39), od 41 (.bin .eql (tm 40) (ku 13)), om 42 41, oT 43 (fa 1 3) 42, oT 44 (ld 1 43) 42, oT 45 (.mv (tm 7)) 42, oT 46 (.call 137 [(tm 44), (tm 45)]) 42, od 47 (.pick (tm 42) (tm 46) kF), om 38 47] [kp [2, 3, 38] []])
 (.cond (tm 38) (.seq (.reg [od 4 (.mv (ki 7))] [kp [4] []]) .ret) (.seq (.reg [od 49 (lG 4 2), od 50 (lG 4 3), od 51 (.call 150 [(tm 49), (tm 50)]), od 52 (.un .not (tm 51)), om 48 52] [kp [48] []]) (.cond (tm 48) (.seq (.reg [od 4
 (.mv (ki 1))] [kp [4] []]) .ret) .skip))))))))))) (.seq (.reg [od 4 (.mv (ki 0))] [kp [4] []]) .ret)))))
def Dj : List RV := [.tmp 4]
/- probecard/netlists.names (function 135) -/
abbrev Wh : IC := .gh (.seq (.reg [od 11 (.bin .lss (tm 10) (tm 9))] [kp [3, 8, 9, 10, 11] [6]]) (.seq (.cond (tm 11) .skip (.exit 0)) (.seq (.block 1 (.seq (.reg [od 12 (ia 1 8 10), od 13 (ld 1 12), om 5 13] [kp [3, 5, 8, 9, 10] [6]]) (.seq (.seq
 (.reg [om 14 5, od 15 (.call 151 [(tm 14)]), od 16 (.un .not (tm 15)), om 17 16, oF 18 (.mv (tm 3)) 17, oF 19 (.mv (tm 5)) 17, oF 20 (.lkup .str (.bool false) false (tm 18) (tm 19)) 17, od 21 (.pick (tm 17) kT (tm 20))] [kp [3, 5,
 8, 9, 10, 21] [6]]) (.cond (tm 21) (.seq (.reg [od 2 (.mv (ki 5))] [kp [2] []]) .ret) .skip)) (.reg [om 22 3, om 23 5, on (.mup .str (tm 22) (tm 23) kT)] [kp [3, 8, 9, 10] [6]])))) (.reg [od 24 (.bin .add (tm 10) (ki 1)), om 10 24]
 [kp [3, 8, 9, 10] [6]])))) [kp [3, 8, 9, 10] [6]]
def Iw : IC := .loop Wh
abbrev Wi : IC := (.seq (.reg [od 1 (.box true (tm 0)), od 2 (.mv (ki 0))] [kp [1] []]) (.seq (.reg [od 6 (.mkmap), om 3 6] [kp [1, 3] [6]]) (.seq (.seq (.reg [od 7 (fa 1 1), od 8 (ld 1 7), od 9 (le 0 8), od 10 (.mv (ki 0))] [kp [3, 8, 9, 10] [6]])
 (.block 0 Iw)) (.seq (.reg [od 2 (.mv (ki 0))] [kp [2] []]) .ret))))
theorem Pj (h : ∀ K : St → Prop, K = run P Γ Iw Q → run P Γ Wh (Aq K Q) s) : run P Γ Iw Q s := Ac h
def O9 : List RV := [.tmp 2]
/- probecard/netlists.memory (function 136) -/
abbrev Vd : IC := (.seq (.reg [od 2 (.box true (tm 0)), od 3 (.box true (tm 1)), od 4 (.mv (ki 0))] [kp [2, 3] []]) (.seq (.reg [od 5 (.mv (.func 152))] [kp [2, 3, 5] []]) (.seq (.reg [od 7 (lG 4 2), od 8 (.call 138 [(tm 7)]), om 6 8] [kp [3, 5, 6]
 []]) (.seq (.block 0 (.seq (.reg [om 10 5, od 11 (fa 0 3), od 12 (ld 1 11), od 13 (.callv (tm 10) [(tm 12), (ki 8)]), om 14 13, oF 15 (.mv (tm 5)) 14, oF 16 (fa 1 3) 14, oF 17 (ld 1 16) 14, oF 18 (.callv (tm 15) [(tm 17), (ki 32)])
 14, od 19 (.pick (tm 14) kT (tm 18)), om 9 19] [kp [3, 6, 9] []]) (.cond (tm 9) (.seq (.reg [od 4 (.mv (ki 8))] [kp [4] []]) .ret) (.seq (.reg [od 21 (fa 0 3), od 22 (ld 1 21), om 23 6, od 24 (.call 137 [(tm 22), (tm 23)]), om 25
 24, oF 26 (fa 1 3) 25, oF 27 (ld 1 26) 25, oF 28 (.mv (tm 6)) 25, oF 29 (.call 137 [(tm 27), (tm 28)]) 25, od 30 (.pick (tm 25) kT (tm 29)), om 31 30, oF 32 (.mv (tm 6)) 31, oF 33 (fa 2 3) 31, oF 34 (ld 1 33) 31, oF 35 (.callv (tm
 32) [(tm 34)]) 31, od 36 (.pick (tm 31) kT (tm 35)), om 20 36] [kp [20] []]) (.cond (tm 20) (.seq (.reg [od 4 (.mv (ki 1))] [kp [4] []]) .ret) .skip))))) (.seq (.reg [od 4 (.mv (ki 0))] [kp [4] []]) .ret)))))
def Dh : List RV := [.tmp 4]
/- slices.ContainsFunc[[]int,int] (function 137) -/
abbrev Jd : IC := (.seq (.reg [od 4 (.mv kF)] [kp [0, 1] []]) (.seq (.reg [om 5 0, om 6 1, od 7 (.call 153 [(tm 5), (tm 6)]), od 8 (.bin .geq (tm 7) (ki 0)), om 4 8] [kp [4] []]) .ret))
def Je : List RV := [.tmp 4]
/- probecard/netlists.outside (function 138) -/
abbrev Ta : IC := (.seq (.reg [od 1 (.box true (tm 0)), od 2 (.mv (.const .nilFunc))] [kp [1] []]) (.seq (.reg [od 3 (.mkf 154 [(tm 1)]), om 2 3] [kp [2] []]) .ret))
def Tc : List RV := [.tmp 2]
/- slices.Clip[[]probecard/api.Line,probecard/api.Line] (function 139) -/
abbrev N9 : IC := (.seq (.reg [od 2 (.mv kN)] [kp [0] []]) (.seq (.reg [om 3 0, om 4 0, od 5 (le 0 4), om 6 0, od 7 (le 0 6), od 8 (.slice 2 (tm 3) none (some (tm 5)) (some (tm 7))), om 2 8] [kp [2] []]) .ret))
def Na : List RV := [.tmp 2]
/- internal/stringslite.IndexByte (function 148) -/
abbrev Jf : IC := (.seq (.reg [od 4 (.mv (ki 0))] [kp [0, 1] []]) (.seq (.reg [om 5 0, om 6 1, od 7 (.call 164 [(tm 5), (tm 6)]), om 4 7] [kp [4] []]) .ret))
def Jg : List RV := [.tmp 4]
/- probecard/netlists.node$1 (function 149) -/
abbrev Ve : IC := (.seq (.reg [od 3 (.mv kF)] [kp [0, 1] []]) (.seq (.reg [od 4 (fa 0 1), od 5 (ld 1 4), om 6 0, od 7 (ia 4 5 6), od 8 (fa 0 7), od 9 (ld 1 8), od 10 (.bin .neq (tm 9) (ku 12)), om 3 10] [kp [3] []]) .ret))
def Vf : List RV := [.tmp 3]
/- probecard/netlists.bit (function 150) -/
abbrev En : IC := (.seq (.reg [od 2 (.box true (tm 0)), od 3 (.box true (tm 1)), od 4 (.mv kF)] [kp [2, 3] []]) (.seq (.seq (.reg [od 5 (fa 0 3), od 6 (ld 1 5), od 7 (.bin .neq (tm 6) (ku 15))] [kp [2, 3, 7] []]) (.cond (tm 7) (.seq (.reg [od 8 (fa
 2 3), od 9 (ld 1 8), od 10 (.bin .eql (tm 9) (ki 0)), om 11 10, oT 12 (fa 3 3) 11, oT 13 (ld 1 12) 11, oT 14 (.bin .eql (tm 13) (ki 0)) 11, od 15 (.pick (tm 11) (tm 14) kF), om 4 15] [kp [4] []]) .ret) .skip)) (.seq (.reg [od 16
 (fa 2 3), od 17 (ld 1 16), od 18 (.bin .geq (tm 17) (ki 0)), om 19 18, oT 20 (fa 2 3) 19, oT 21 (ld 1 20) 19, oT 22 (fa 2 2) 19, oT 23 (ld 1 22) 19, oT 24 (le 0 23) 19, oT 25 (.bin .lss (tm 21) (tm 24)) 19, od 26 (.pick (tm 19) (tm
 25) kF), om 27 26, oT 28 (fa 3 3) 27, oT 29 (ld 1 28) 27, oT 30 (.bin .geq (tm 29) (ki 0)) 27, od 31 (.pick (tm 27) (tm 30) kF), om 32 31, oT 33 (fa 3 3) 32, oT 34 (ld 1 33) 32, oT 35 (fa 2 2) 32, oT 36 (ld 1 35) 32, oT 37 (fa 2 3)
 32, oT 38 (ld 1 37) 32, oT 39 (ia 3 36 38) 32, oT 40 (fa 1 39) 32, oT 41 (ld 1 40) 32, oT 42 (le 0 41) 32, oT 43 (.bin .lss (tm 34) (tm 42)) 32, od 44 (.pick (tm 32) (tm 43) kF), om 4 44] [kp [4] []]) .ret)))
def Eo : List RV := [.tmp 4]
/- probecard/netlists.IsName (function 151) -/
abbrev I3 : IC := (.seq (.reg [od 2 (.mv kF)] [kp [0] []]) (.seq (.reg [od 3 (.mv (.func 165))] [kp [0, 3] []]) (.seq (.reg [om 4 0, od 5 (.bin .neq (tm 4) (.const (sV []))), om 6 5, oT 7 (.mv (tm 0)) 6, oT 8 (le 1 7) 6, oT 9 (.bin .leq (tm 8) (ki
 32)) 6, od 10 (.pick (tm 6) (tm 9) kF), om 11 10, oT 12 (.mv (tm 0)) 11, oT 13 (.mv (tm 3)) 11, oT 14 (.call 167 [(tm 12), (tm 13)]) 11, oT 15 (.un .not (tm 14)) 11, od 16 (.pick (tm 11) (tm 15) kF), om 2 16] [kp [2] []]) .ret)))
def I4 : List RV := [.tmp 2]
/- probecard/netlists.memory$1 (function 152) -/
abbrev Rm : IC := (.seq (.reg [od 4 (.mv kF)] [kp [0, 1] []]) (.seq (.reg [om 5 0, od 6 (le 0 5), od 7 (.bin .eql (tm 6) (ki 0)), om 8 7, oF 9 (.mv (tm 0)) 8, oF 10 (le 0 9) 8, oF 11 (.mv (tm 1)) 8, oF 12 (.bin .gtr (tm 10) (tm 11)) 8, od 13 (.pick
 (tm 8) kT (tm 12)), om 4 13] [kp [4] []]) .ret))
def Rn : List RV := [.tmp 4]
/- slices.IndexFunc[[]int,int] (function 153) -/
abbrev Nb : IC := .gh (.seq (.reg [od 9 (.bin .lss (tm 8) (tm 7))] [kp [0, 1, 7, 8, 9] []]) (.seq (.cond (tm 9) .skip (.exit 0)) (.seq (.block 1 (.seq (.reg [om 10 8, om 5 10] [kp [0, 1, 5, 7, 8] []]) (.seq (.reg [om 11 1, om 12 0, om 13 5, od 14
 (ia 1 12 13), od 15 (ld 1 14), od 16 (.callv (tm 11) [(tm 15)])] [kp [0, 1, 5, 7, 8, 16] []]) (.cond (tm 16) (.seq (.reg [om 17 5, om 4 17] [kp [4] []]) .ret) .skip)))) (.reg [od 18 (.bin .add (tm 8) (ki 1)), om 8 18] [kp [0, 1, 7,
 8] []])))) [kp [0, 1, 7, 8] []]
def Ek : IC := .loop Nb
abbrev Nc : IC := (.seq (.reg [od 4 (.mv (ki 0))] [kp [0, 1] []]) (.seq (.seq (.reg [om 6 0, od 7 (le 0 6), od 8 (.mv (ki 0))] [kp [0, 1, 7, 8] []]) (.block 0 Ek)) (.seq (.reg [od 4 (.mv (.const (.int .i64 (-1))))] [kp [4] []])
 .ret)))
theorem Ix (h : ∀ K : St → Prop, K = run P Γ Ek Q → run P Γ Nb (Aq K Q) s) : run P Γ Ek Q s := Ac h
def H9 : List RV := [.tmp 4]
/- probecard/netlists.outside$1 (function 154) -/
abbrev Pl : IC := (.seq (.reg [od 3 (.mv kF)] [kp [0, 1] []]) (.seq (.reg [om 4 0, od 5 (.bin .lss (tm 4) (ki 0)), om 6 5, oF 7 (.mv (tm 0)) 6, oF 8 (fa 0 1) 6, oF 9 (ld 1 8) 6, oF 10 (le 0 9) 6, oF 11 (.bin .geq (tm 7) (tm 10)) 6, od 12 (.pick (tm
 6) kT (tm 11)), om 3 12] [kp [3] []]) .ret))
def Pm : List RV := [.tmp 3]
/- probecard/netlists.IsName$1 (function 165) -/
abbrev Gj : IC := (.seq (.reg [od 2 (.mv kF)] [kp [0] []]) (.seq (.reg [om 3 0, od 4 (.bin .leq (tm 3) (.const (.int .i32 32))), om 5 4, oF 6 (.mv (tm 0)) 5, oF 7 (.bin .gtr (tm 6) (.const (.int .i32 126))) 5, od 8 (.pick (tm 5) kT (tm 7)), om 9 8,
 oF 10 (.mv (tm 0)) 9, oF 11 (.call 166 [(.const (sV [40, 41, 61, 44, 35])), (tm 10)]) 9, od 12 (.pick (tm 9) kT (tm 11)), om 2 12] [kp [2] []]) .ret))
def Gk : List RV := [.tmp 2]
/- strings.ContainsRune (function 166) -/
abbrev Nh : IC := (.seq (.reg [od 4 (.mv kF)] [kp [0, 1] []]) (.seq (.reg [om 5 0, om 6 1, od 7 (.call 171 [(tm 5), (tm 6)]), od 8 (.bin .geq (tm 7) (ki 0)), om 4 8] [kp [4] []]) .ret))
def Ni : List RV := [.tmp 4]
/- strings.ContainsFunc (function 167) -/
abbrev Nj : IC := (.seq (.reg [od 4 (.mv kF)] [kp [0, 1] []]) (.seq (.reg [om 5 0, om 6 1, od 7 (.call 172 [(tm 5), (tm 6)]), od 8 (.bin .geq (tm 7) (ki 0)), om 4 8] [kp [4] []]) .ret))
def Nk : List RV := [.tmp 4]
/- strings.IndexRune (function 171) -/
abbrev Ro : IC := (.seq (.reg [od 4 (.mv (ki 0))] [kp [0, 1] []]) (.block 0 (.seq (.reg [om 161 1, od 162 (.bin .leq (.const (.int .i32 0)) (tm 161)), om 163 162, oT 164 (.mv (tm 1)) 163, oT 165 (.bin .lss (tm 164) (.const (.int .i32 128))) 163, od
 166 (.pick (tm 163) (tm 165) kF), om 160 166] [kp [0, 1, 160] []]) (.cond (tm 160) (.seq (.reg [om 167 0, om 168 1, od 169 (.conv .u8 (tm 168)), od 170 (.call 132 [(tm 167), (tm 169)]), om 4 170] [kp [4] []]) .ret) (.seq (.reg [om
 172 1, od 173 (.bin .eql (tm 172) (.const (.int .i32 65533))), om 171 173] [kp [1, 171] []]) (.cond (tm 171) .dead (.seq (.reg [om 184 1, od 185 (.call 173 [(tm 184)]), od 186 (.un .not (tm 185)), om 183 186] [kp [183] []]) (.cond
 (tm 183) .dead .dead))))))))
def Rq : List RV := [.tmp 4]
/- strings.IndexFunc (function 172) -/
abbrev Rr : IC := (.seq (.reg [od 4 (.mv (ki 0))] [kp [0, 1] []]) (.seq (.reg [om 5 0, om 6 1, od 7 (.call 176 [(tm 5), (tm 6), kT]), om 4 7] [kp [4] []]) .ret))
def Rt : List RV := [.tmp 4]
/- unicode/utf8.ValidRune (function 173) -/
abbrev Ru : IC := .gh (.seq (.reg [od 11 (.nxt (tm 10)), od 12 (ex 11 0)] [kp [1, 2, 10, 11, 12] [10]]) (.seq (.cond (tm 12) .skip (.exit 0)) (.block 1 (.seq (.reg [od 13 (ex 11 1), od 14 (ex 11 2), om 7 13, om 8 14] [kp [1, 2, 7, 8, 10] [10]])
 (.seq (.reg [om 15 1, om 16 8, od 17 (.callv (tm 15) [(tm 16)]), om 18 2, od 19 (.eqb true (tm 17) (tm 18))] [kp [1, 2, 7, 10, 19] [10]]) (.cond (tm 19) (.seq (.reg [om 20 7, om 6 20] [kp [6] []]) .ret) .skip)))))) [kp [1, 2, 10]
 [10]]
def Gm : IC := .loop Ru
abbrev Rw : IC := (.seq (.reg [od 6 (.mv (ki 0))] [kp [0, 1, 2] []]) (.seq (.seq (.reg [om 9 0, od 10 (.rng (tm 9))] [kp [1, 2, 10] [10]]) (.block 0 Gm)) (.seq (.reg [od 6 (.mv (.const (.int .i64 (-1))))] [kp [6] []]) .ret)))
theorem Ld (h : ∀ K : St → Prop, K = run P Γ Gm Q → run P Γ Ru (Aq K Q) s) : run P Γ Gm Q s := Ac h
def Jh : List RV := [.tmp 6]
end
end Go.Lg
namespace Go.Lg
open Go Go.Proofs
theorem q2l : As Tryz.prog 20 Wb 11 1 Wc = true := by kernel_rfl
theorem q5M : As Tryz.prog 66 q0e 27 2 q0f = true := by kernel_rfl
theorem q1q : As Tryz.prog 19 Ut 6 1 Uu = true := by kernel_rfl
theorem q3S : As Tryz.prog 39 Yd 9 1 Ye = true := by kernel_rfl
theorem q1r : As Tryz.prog 62 Uw 9 1 Ux = true := by kernel_rfl
theorem q1s : As Tryz.prog 67 V1 131 1 Hz = true := by kernel_rfl
theorem Sv : As Tryz.prog 111 Ir 9 2 Is = true := by kernel_rfl
theorem q2m : As Tryz.prog 112 Ej 73 1 C5 = true := by kernel_rfl
theorem q1t : As Tryz.prog 113 V8 65 1 V9 = true := by kernel_rfl
theorem W5 : As Tryz.prog 133 Lc 19 2 D8 = true := by kernel_rfl
theorem q5N : As Tryz.prog 93 Va 15 1 Vb = true := by kernel_rfl
theorem q0H : As Tryz.prog 132 Rk 8 2 Rl = true := by kernel_rfl
theorem q3T : As Tryz.prog 134 Yf 53 2 Dj = true := by kernel_rfl
theorem q2n : As Tryz.prog 135 Wi 25 1 O9 = true := by kernel_rfl
theorem q1u : As Tryz.prog 136 Vd 37 2 Dh = true := by kernel_rfl
theorem U7 : As Tryz.prog 137 Jd 9 2 Je = true := by kernel_rfl
theorem q0g : As Tryz.prog 138 Ta 4 1 Tc = true := by kernel_rfl
theorem Xt : As Tryz.prog 139 N9 9 1 Na = true := by kernel_rfl
theorem U8 : As Tryz.prog 148 Jf 8 2 Jg = true := by kernel_rfl
theorem q1v : As Tryz.prog 149 Ve 11 2 Vf = true := by kernel_rfl
theorem q4Q : As Tryz.prog 150 En 45 2 Eo = true := by kernel_rfl
theorem q1w : As Tryz.prog 151 I3 17 1 I4 = true := by kernel_rfl
theorem q0I : As Tryz.prog 152 Rm 14 2 Rn = true := by kernel_rfl
theorem Xu : As Tryz.prog 153 Nc 19 2 H9 = true := by kernel_rfl
theorem Zj : As Tryz.prog 154 Pl 13 2 Pm = true := by kernel_rfl
theorem q0J : As Tryz.prog 165 Gj 13 1 Gk = true := by kernel_rfl
theorem Xv : As Tryz.prog 166 Nh 9 2 Ni = true := by kernel_rfl
theorem Xw : As Tryz.prog 167 Nj 9 2 Nk = true := by kernel_rfl
theorem q0K : As Tryz.prog 171 Ro 187 2 Rq = true := by kernel_rfl
theorem q0L : As Tryz.prog 172 Rr 8 2 Rt = true := by kernel_rfl
theorem q0M : As Tryz.prog 176 Rw 21 3 Jh = true := by kernel_rfl
end Go.Lg
set_option maxRecDepth 100000
namespace Go.Lg
open Go Go.Proofs
variable {Γ : Tables}
theorem q7b (es : List (List T)) (cap : Option Nat) (nl : Option Bool) (hw : E4 2 es) : Ae Tryz.prog Γ 139 [.sl es cap nl] (.sl es (some es.length) nl) := by
 refine B5 Xt rfl ?_
 simp [N9, Na, ret, hw]
theorem qAb (ty : Nat) (es : List (List T)) (len : Nat) (cap : Option Nat) (hw : E4 1 es) : Ge Tryz.prog Γ 62 [(1000000, .sl ty 1 es)] [.ls 1000000 0 len cap] (.ls 1000000 0 len (some len)) [(1000000, .sl ty 1 es)] := by
 refine Ik q1r rfl ?_
 simp [Uw, Ux, qCK, hw]
def Xx {α : Type} (p : α → Bool) (l : List α) : Int := match l.findIdx? p with | some i => i | none => -1
theorem Zk {α : Type} {p : α → Bool} {l : List α} {i : Nat} (hp : ∀ j, j < i → ∀ x, l[j]? = some x → p x = false) (x : α) (hx : l[i]? = some x) (h : p x = true) : l.findIdx? p = some i := by
 rw [List.findIdx?_eq_some_iff_getElem]
 have hi := (List.getElem?_eq_some_iff.1 hx).1
 refine ⟨hi, ?_, fun j hj => ?_⟩
 ·have := (List.getElem?_eq_some_iff.1 hx).2; rw [this]; exact h
 ·have := hp j hj l[j] (List.getElem?_eq_getElem (by omega))
  simp [this]
theorem q05 (l : List Int) (c : Option Nat) (nl : Option Bool) (x : Int) (hl : l.length ≤ 1000000000) : ∀ (k i : Nat), k + i = l.length → (∀ j, j < i → ∀ y, l[j]? = some y → (y == x) = false) →
  run Tryz.prog Γ E6 (Kv 0 (Aq (run Tryz.prog Γ (.seq (.reg Gt [.keep [4] []]) .ret) (ret true D8 fun r => r = tI (Xx (· == x) l))) (ret true D8 fun r => r = tI (Xx (· == x) l)))) ⟨[(0, .t (.sl (Af tK l) c nl)), (1, .t (tK x)), (7, .t (tI l.length)), (8, .t (tI i))], []⟩
 | 0, i, h, hp => by
  refine I9 fun K hK => ?_
  have h2 : ¬ i < l.length := by omega
  simp (disch := omega) [A1, C2 (0 : Int), A5, A4, h2, ret, D8, D7, F9, F8, Am]
  have : l.findIdx? (· == x) = none := by
   rw [List.findIdx?_eq_none_iff]
   intro y hy
   obtain ⟨j, hj, rfl⟩ := List.getElem_of_mem hy
   exact hp j (by omega) _ (List.getElem?_eq_getElem hj)
  have e : l.findIdx? (fun y => decide (y = x)) = _ := this
  simp [Xx, e]
 | k + 1, i, h, hp => by
  refine I9 fun K hK => ?_
  have h2 : i < l.length := by omega
  simp (disch := omega) [A1, C2 (0 : Int), A5, A4, h2]
  refine ⟨fun hc => ?_, fun hc => ?_⟩
  ·simp [B6, ret, D8, D7, F9, F8, Am]
   have := Zk (p := (· == x)) hp l[i] (List.getElem?_eq_getElem h2) (by simp [hc])
   have e : l.findIdx? (fun y => decide (y = x)) = _ := this
   simp [Xx, e]
  ·simp (disch := omega) [B6, A4]
   rw [hK]
   exact_mod_cast q05 l c nl x hl k (i + 1) (by omega) (fun j hj y hy => by
    rcases Nat.lt_succ_iff_lt_or_eq.1 hj with hj | rfl
    ·exact hp j hj y hy
    ·rw [List.getElem?_eq_getElem h2] at hy; simp at hy; subst hy
     simp; exact fun e => hc e.symm)
theorem qAc (l : List Int) (c : Option Nat) (nl : Option Bool) (x : Int) (hl : l.length ≤ 1000000000) : A3 Tryz.prog Γ 133 [.sl (Af tK l) c nl, tK x] (tI (Xx (· == x) l)) := by
 refine A7 W5 rfl ?_
 simp (disch := omega) [Lc, A1, A4]
 exact_mod_cast q05 l c nl x hl l.length 0 (by omega) (by simp)
theorem q77 (l : List Int) (c : Option Nat) (nl : Option Bool) (x : Int) (hl : l.length ≤ 1000000000) : A3 Tryz.prog Γ 111 [.sl (Af tK l) c nl, tK x] (tB (l.contains x)) := by
 refine A7 Sv rfl ?_
 simp (disch := omega) [Ir, A1, A4]
 refine A0 (qAc l c nl x hl) rfl ?_
 simp [ret, Is, D7, F9, F8, Am]
 unfold Xx
 cases h : l.findIdx? (· == x) with
 | none =>
  rw [List.findIdx?_eq_none_iff] at h
  have : ¬ x ∈ l := fun hx => by simpa using h x hx
  simp [this]
 | some i =>
  rw [List.findIdx?_eq_some_iff_getElem] at h
  obtain ⟨hi, h1, _⟩ := h
  have : x ∈ l := by rw [← (show l[i] = x by simpa using h1)]; exact List.getElem_mem hi
  simp [this]
theorem Wj {cs : List T} : Ak (cs.map fun t => some t) = some cs := by
 induction cs with
 | nil => rfl
 | cons t cs ih => simp only [List.map_cons, Ak, ih, Option.map_some]
theorem Vg {hp : List (Nat × B0)} {f : FuncId} {K : T → Prop} {cs : List T} {t res : T} (h : A3 Tryz.prog Γ f (t :: cs) res) (hk : K res) : q3Q Tryz.prog Γ hp f (.t t :: cs.map .t) K ⟨⟩ :=
 A0 h (by simp only [List.map_cons, List.map_map, Function.comp_def, Ak, Ag]; rw [Wj]; rfl) hk
theorem q0h {Q : AX → St → Prop} (l : List Int) (c : Option Nat) (nl : Option Bool) (f : FuncId) (cs : List T) (p : Int → Bool) (hp : ∀ x ∈ l, A3 Tryz.prog Γ f (tI x :: cs) (tB (p x))) (hl : l.length ≤ 1000000000)
  (h0 : (∀ x ∈ l, p x = false) → Q (.exit 0) ⟨[(0, .t (.sl (Bo l) c nl)), (1, .t (.fn f cs)), (7, .t (tI l.length)), (8, .t (tI l.length)), (9, .t (tB false))], []⟩)
  (h1 : ∀ i : Nat, l.findIdx? p = some i → Q .ret ⟨[(4, .t (tI i))], []⟩) : ∀ (k i : Nat), k + i = l.length → (∀ j, j < i → ∀ y, l[j]? = some y → p y = false) →
  run Tryz.prog Γ Ek Q ⟨[(0, .t (.sl (Bo l) c nl)), (1, .t (.fn f cs)), (7, .t (tI l.length)), (8, .t (tI i))], []⟩
 | 0, i, h, hq => by
  refine Ix fun K hK => ?_
  have h2 : ¬ i < l.length := by omega
  simp (disch := omega) [A1, C2 (0 : Int), A5, A4, h2]
  have h3 : i = l.length := by omega
  subst h3
  refine h0 fun y hy => ?_
  obtain ⟨j, hj, rfl⟩ := List.getElem_of_mem hy
  exact hq j (by omega) _ (List.getElem?_eq_getElem hj)
 | k + 1, i, h, hq => by
  refine Ix fun K hK => ?_
  have h2 : i < l.length := by omega
  simp (disch := omega) [A1, C2 (0 : Int), A5, A4, h2]
  refine Vg (hp l[i] (List.getElem_mem h2)) ?_
  simp
  refine ⟨fun hc => ?_, fun hc => ?_⟩
  ·simp [B6]
   exact h1 i (Zk hq l[i] (List.getElem?_eq_getElem h2) hc)
  ·simp (disch := omega) [B6, A4]
   rw [hK]
   exact_mod_cast q0h l c nl f cs p hp hl h0 h1 k (i + 1) (by omega) (fun j hj y hy => by
    rcases Nat.lt_succ_iff_lt_or_eq.1 hj with hj | rfl
    ·exact hq j hj y hy
    ·rw [List.getElem?_eq_getElem h2] at hy; simp at hy; subst hy; exact hc)
theorem q78 (l : List Int) (c : Option Nat) (nl : Option Bool) (f : FuncId) (cs : List T) (p : Int → Bool) (hp : ∀ x ∈ l, A3 Tryz.prog Γ f (tI x :: cs) (tB (p x))) (hl : l.length ≤ 1000000000) : A3 Tryz.prog Γ 153 [.sl (Bo l) c nl, .fn f cs] (tI (Xx p l)) := by
 refine A7 Xu rfl ?_
 simp (disch := omega) [Nc, A1, A4]
 refine q0h l c nl f cs p hp hl (fun h => ?_) (fun i h => ?_) l.length 0 (by omega) (by simp)
 ·have : l.findIdx? p = none := List.findIdx?_eq_none_iff.2 h
  simp [ret, H9, D7, F9, F8, Am, Xx, this]
 ·simp [ret, H9, D7, F9, F8, Am, Xx, h]
theorem Yg (l : List Int) (c : Option Nat) (nl : Option Bool) (f : FuncId) (cs : List T) (p : Int → Bool) (hp : ∀ x ∈ l, A3 Tryz.prog Γ f (tI x :: cs) (tB (p x))) (hl : l.length ≤ 1000000000) : A3 Tryz.prog Γ 137 [.sl (Bo l) c nl, .fn f cs] (tB (l.any p)) := by
 refine A7 U7 rfl ?_
 simp (disch := omega) [Jd, A1, A4]
 refine A0 (q78 l c nl f cs p hp hl) rfl ?_
 simp [ret, Je, D7, F9, F8, Am]
 unfold Xx
 cases h : l.findIdx? p with
 | none =>
  rw [List.findIdx?_eq_none_iff] at h
  have : l.any p = false := by rw [List.any_eq_false]; intro x hx; simp [h x hx]
  simp [this]
 | some i =>
  rw [List.findIdx?_eq_some_iff_getElem] at h
  obtain ⟨hi, h1, _⟩ := h
  have : l.any p = true := List.any_eq_true.2 ⟨_, List.getElem_mem hi, h1⟩
  simp [this]
theorem q1b (k : Int) : A3 Tryz.prog Γ 39 [tK k] (tB (decide (1 ≤ k ∧ k ≤ 13))) := by
 refine A7 q3S rfl ?_
 by_cases h1 : 1 ≤ k <;> by_cases h2 : k ≤ 13 <;> simp [Yd, ret, Ye, D7, F9, F8, Am, h1, h2]
structure Nd where
 k : Int
 inn : Sl Int
 mem : Int
 bit : Int
structure Mm where
 addr : Sl Int
 data : Sl Int
 write : Int
structure Ax where
 nodes : Sl Nd
 names : Sl (List UInt8)
 mems : Sl Mm
 outs : Sl Int
def Fg (x : Nd) : List T := [tK x.k, Bl x.inn, tI x.mem, tI x.bit]
def tMm (m : Mm) : List T := [Bl m.addr, Bl m.data, tI m.write]
def tS (l : List UInt8) : T := .v (sV l)
def A6 (s : Sl Nd) : T := .sl (Bc Fg s.l) s.cap s.nl
def A8 (s : Sl (List UInt8)) : T := .sl (Af tS s.l) s.cap s.nl
def Ad (s : Sl Mm) : T := .sl (Bc tMm s.l) s.cap s.nl
def tC (c : Ax) : List T := [A6 c.nodes, A8 c.names, Ad c.mems, Bl c.outs]
def Nd.d : Nd := ⟨0, ⟨[], none, none⟩, 0, 0⟩
def Mm.d : Mm := ⟨⟨[], none, none⟩, ⟨[], none, none⟩, 0⟩
theorem Br {l : List Nd} : E4 4 (Bc Fg l) := q3R fun _ => rfl
theorem Qu {l : List Mm} : E4 3 (Bc tMm l) := q3R fun _ => rfl
structure CirOk (c : Ax) : Prop where
 nodes : c.nodes.l.length ≤ 1000000000
 names : c.names.l.length ≤ 1000000000
 mems : c.mems.l.length ≤ 1000000000
 outs : c.outs.l.length ≤ 1000000000
 kind : ∀ x ∈ c.nodes.l, 0 ≤ x.k ∧ x.k ≤ 255
 inn : ∀ x ∈ c.nodes.l, x.inn.l.length ≤ 1000000000
 addr : ∀ m ∈ c.mems.l, m.addr.l.length ≤ 1000000000 ∧ m.data.l.length ≤ 1000000000
def Oa (c : Ax) (n : Int) : Bool := decide (n < 0 ∨ (c.nodes.l.length : Int) ≤ n)
theorem Xy (c : Ax) (n : Int) (hc : c.nodes.l.length ≤ 1000000000) : A3 Tryz.prog Γ 154 [tI n, .ip (tC c) 0] (tB (Oa c n)) := by
 refine A7 Zj rfl ?_
 by_cases h1 : n < 0 <;> simp (disch := omega) [Pl, ret, Pm, D7, F9, F8, Am, h1, tC, A6, Aa, A4, Oa]
theorem U9 (c : Ax) : Ae Tryz.prog Γ 138 [.agg (tC c)] (.fn 154 [.ip (tC c) 0]) := by
 refine B5 q0g rfl ?_
 simp [Ta, ret, Tc, tC, C9, Cd, T.one, AV.one, A6, A8, Ad, Bl]
theorem Wl (c : Ax) (hc : c.nodes.l.length ≤ 1000000000) (l : List Int) (cap : Option Nat) (nl : Option Bool) (hl : l.length ≤ 1000000000) : A3 Tryz.prog Γ 137 [.sl (Bo l) cap nl, .fn 154 [.ip (tC c) 0]] (tB (l.any (Oa c))) :=
 Yg l cap nl _ _ _ (fun x _ => Xy c x hc) hl
def q6I : List (Int × Int) := [(0, 0), (0, 0), (0, 0), (1, 1), (1, 1), (2, 16), (2, 16), (2, 16), (2, 16), (2, 16), (2, 16), (3, 3), (2, 2), (1, 16), (1, 1), (0, 0)]
def qCL : List T := q6I.flatMap fun p => [tI p.1, tI p.2]
def Q8 (k : Int) : Int × Int := if 16 ≤ k then (0, -1) else q6I.getD k.toNat (0, 0)
def GOk (Γ : Tables) : Prop := Γ 0 = some qCL
theorem D4 (hΓ : GOk Γ) (k : Int) (h0 : 0 ≤ k) (h1 : k ≤ 255) : A3 Tryz.prog Γ 93 [tK k] (.tup [tI (Q8 k).1, tI (Q8 k).2]) := by
 unfold GOk at hΓ
 refine A7 q5N rfl ?_
 by_cases h2 : 16 ≤ k
 ·simp (disch := omega) [Va, ret, Vb, D7, F9, F8, Am, h2, A4, Q8]
 ·have h3 : k = 0 ∨ k = 1 ∨ k = 2 ∨ k = 3 ∨ k = 4 ∨ k = 5 ∨ k = 6 ∨ k = 7 ∨ k = 8 ∨ k = 9 ∨ k = 10 ∨ k = 11 ∨ k = 12 ∨ k = 13 ∨ k = 14 ∨ k = 15 := by omega
  rcases h3 with rfl | rfl | rfl | rfl | rfl | rfl | rfl | rfl | rfl | rfl | rfl | rfl | rfl | rfl | rfl | rfl <;>
  simp (disch := omega) [Va, ret, Vb, D7, F9, F8, Am, A4, Q8, hΓ, qCL, q6I] <;> exact ⟨rfl, rfl⟩
def Yh (c : Ax) (x : Nd) : Bool :=
 if x.k ≠ 15 then decide (x.mem = 0 ∧ x.bit = 0)
 else decide (0 ≤ x.mem ∧ x.mem < c.mems.l.length ∧ 0 ≤ x.bit ∧ x.bit < ((c.mems.l.getD x.mem.toNat Mm.d).data.l.length))
theorem qDR (c : Ax) (x : Nd) (hc : CirOk c) : A3 Tryz.prog Γ 150 [.agg (tC c), .agg (Fg x)] (tB (Yh c x)) := by
 refine A7 q4Q rfl ?_
 have hm := hc.mems
 by_cases h1 : x.k = 15
 ·by_cases h2 : 0 ≤ x.mem
  ·by_cases h3 : x.mem < c.mems.l.length
   ·have h3' : x.mem.toNat < c.mems.l.length := by omega
    by_cases h4 : 0 ≤ x.bit
    ·simp (disch := omega) [En, ret, Eo, D7, F9, F8, Am, C9, Cd, T.one, AV.one, tC, Fg, A6, A8, Ad, Bl, h1, h2, h3, h4, h3', Aa, Dy Mm.d, A4, Qu, tMm, A1, Yh]
    ·simp (disch := omega) [En, ret, Eo, D7, F9, F8, Am, C9, Cd, T.one, AV.one, tC, Fg, A6, A8, Ad, Bl, h1, h2, h3, h4, h3', Aa, Dy Mm.d, A4, Qu, tMm, A1, Yh]
   ·simp (disch := omega) [En, ret, Eo, D7, F9, F8, Am, C9, Cd, T.one, AV.one, tC, Fg, A6, A8, Ad, Bl, h1, h2, h3, Aa, Dy Mm.d, A4, Qu, tMm, A1, Yh]
  ·simp (disch := omega) [En, ret, Eo, D7, F9, F8, Am, C9, Cd, T.one, AV.one, tC, Fg, A6, A8, Ad, Bl, h1, h2, Aa, Dy Mm.d, A4, Qu, tMm, A1, Yh]
 ·by_cases h2 : x.mem = 0
  ·simp (disch := omega) [B6, En, Eo, tC, Fg, A6, A8, Ad, Bl, h1, h2, Yh, -decide_eq_decide]
  ·have h2' : (x.mem == 0) = false := by simpa using h2
   simp (disch := omega) [B6, En, Eo, tC, Fg, A6, A8, Ad, Bl, h1, h2, h2', Yh]
def Sz (l : List Int) (most : Int) : Bool := decide (l.length = 0 ∨ most < l.length)
theorem q3U (l : List Int) (cap : Option Nat) (nl : Option Bool) (most : Int) (hl : l.length ≤ 1000000000) : A3 Tryz.prog Γ 152 [.sl (Bo l) cap nl, tI most] (tB (Sz l most)) := by
 refine A7 q0I rfl ?_
 by_cases h : l.length = 0 <;> simp (disch := omega) [Rm, ret, Rn, D7, F9, F8, Am, A1, h, Sz, A4]
def Xz (c : Ax) (n : Int) : Bool := decide ((c.nodes.l.getD n.toNat Nd.d).k ≠ 12)
theorem qAd (c : Ax) (n : Int) (h0 : 0 ≤ n) (h1 : n < c.nodes.l.length) : A3 Tryz.prog Γ 149 [tI n, .ip (tC c) 0] (tB (Xz c n)) := by
 refine A7 q1v rfl ?_
 have h2 : n.toNat < c.nodes.l.length := by omega
 simp (disch := omega) [Ve, ret, Vf, D7, F9, F8, Am, tC, A6, Aa, Dy Nd.d, Br, h0, h1, h2, Xz, Fg]
def Cc (c : Ax) (x : Nd) : Int :=
 if 15 < x.k then 7 else if (x.inn.l.length : Int) < (Q8 x.k).1 ∨ (Q8 x.k).2 < x.inn.l.length then 8 else if x.inn.l.any (Oa c) then 1
 else if x.k = 13 ∧ x.inn.l.any (Xz c) = true then 7 else if Yh c x = false then 1 else 0
theorem Wm {c : Ax} {l : List Int} (h : l.any (Oa c) = false) : ∀ n ∈ l, 0 ≤ n ∧ n < c.nodes.l.length := by
 intro n hn
 have := List.any_eq_false.1 h n hn
 simp only [Oa, decide_eq_true_eq, not_or, Int.not_lt, Int.not_le] at this
 exact this
theorem qCM (hΓ : GOk Γ) (c : Ax) (x : Nd) (hc : CirOk c) (hk : 0 ≤ x.k ∧ x.k ≤ 255) (hl : x.inn.l.length ≤ 1000000000) : A3 Tryz.prog Γ 134 [.agg (tC c), .agg (Fg x)] (tI (Cc c x)) := by
 refine A7 q3T rfl ?_
 have hn := hc.nodes
 have e1 := Wl (Γ := Γ) c hn x.inn.l x.inn.cap x.inn.nl hl
 have e2 := D4 hΓ x.k hk.1 hk.2
 have e3 := U9 (Γ := Γ) c
 have e4 := qDR (Γ := Γ) c x hc
 simp (disch := omega) [Yf, C9, Cd, T.one, AV.one, tC, Fg, A6, A8, Ad, Bl]
 refine A0 e2 rfl ?_
 simp (disch := omega)
 simp
 refine ⟨fun h1 => ?_, fun h1 => ?_⟩
 ·simp [B6, ret, Dj, D7, F9, F8, Am, Cc, h1]
 by_cases h2 : (x.inn.l.length : Int) < (Q8 x.k).1
 ·simp (disch := omega) [B6, A1, A4, h2, ret, Dj, D7, F9, F8, Am, Cc, h1]
 by_cases h3 : (Q8 x.k).2 < x.inn.l.length
 ·simp (disch := omega) [B6, A1, A4, h2, h3, ret, Dj, D7, F9, F8, Am, Cc, h1]
 simp (disch := omega) [B6, A1, A4, h2, h3]
 refine A9 e3 rfl ?_
 simp (disch := omega)
 refine A0 e1 rfl ?_
 simp (disch := omega) [-List.any_eq_true, -List.any_eq_false]
 refine ⟨fun h4 => ?_, fun h4 => ?_⟩
 ·simp [-List.any_eq_true, -List.any_eq_false, B6, ret, Dj, D7, F9, F8, Am, Cc, h1, h2, h3, h4]
 have h4' : x.inn.l.any (Oa c) = false := h4
 by_cases h5 : x.k = 13
 ·have e5 := Yg (Γ := Γ) x.inn.l x.inn.cap x.inn.nl 149 [.ip (tC c) 0] (Xz c) (fun n hm => qAd c n (Wm h4' n hm).1 (Wm h4' n hm).2) hl
  simp (disch := omega) [B6, h5]
  refine A0 e5 rfl ?_
  simp [-List.any_eq_true, -List.any_eq_false]
  refine ⟨fun h6 => ?_, fun h6 => ?_⟩
  ·have h6' : x.inn.l.any (Xz c) = true := h6
   simp [-List.any_eq_true, -List.any_eq_false, B6, ret, Dj, D7, F9, F8, Am, Cc, h1, h2, h3, h4', h5, h6']
   simp [h5] at h2 h3; omega
  ·have h6' : x.inn.l.any (Xz c) = false := h6
   have e : Cc c x = if Yh c x = false then 1 else 0 := by
    unfold Cc
    rw [if_neg (by omega), if_neg (by omega), if_neg (by simp [h4']), if_neg (by simp [h6'])]
   rw [e]
   simp (disch := omega) [B6, h6']
   rw [show Fg x = [tK 13, Bl x.inn, tI x.mem, tI x.bit] from by simp [Fg, h5]] at e4
   refine A0 e4 rfl ?_
   simp
   refine ⟨fun h7 => ?_, fun h7 => ?_⟩ <;> simp [B6, Dj, h7]
 ·have e : Cc c x = if Yh c x = false then 1 else 0 := by
   unfold Cc
   rw [if_neg (by omega), if_neg (by omega), if_neg (by simp [h4']), if_neg (by simp [h5])]
  rw [e]
  simp (disch := omega) [B6, h5]
  refine A0 e4 rfl ?_
  simp
  refine ⟨fun h7 => ?_, fun h7 => ?_⟩ <;> simp [B6, Dj, h7]
theorem qJR : (Tryz.prog.funcs[164]?).map (fun f => (f.name, f.body.isNone, f.origin)) = some ("internal/bytealg.IndexByteString", true, "") := by kernel_rfl
abbrev tR (n : Int) : T := .v (.int .i32 n)
theorem q0i (s : ByteArray) (c : Int) : A3 Tryz.prog Γ 164 [.v (.string s), tK c] (tI (Lib.indexByte s.data.toList c.toNat.toUInt8)) := by
 intro w X vs hg hx hts
 obtain ⟨x, xs, rfl, h1, h2⟩ := hts.cons_inv
 obtain ⟨y, ys, rfl, h3, h4⟩ := h2.cons_inv
 have := h4.nil_inv; subst this
 cases h1; cases h3
 refine .inr ⟨.int .i64 (Lib.indexByte s.data.toList c.toNat.toUInt8), ?_, RowKit.Below.refl _ _, .v _⟩
 have h := qJR
 simp only [Option.map_eq_some_iff, Prod.mk.injEq] at h
 obtain ⟨fn, hf, hn, hb, ho⟩ := h
 have e1 : Extern.findNext fn = none := by
  simp only [Extern.findNext, hn, ho]
  have a : Extern.allNextRows.lookup "internal/bytealg.IndexByteString" = none := by kernel_rfl
  have b : Extern.allNextRows.lookup "" = none := by kernel_rfl
  rw [a, b]; rfl
 have e2 : Extern.find fn = some Extern.BytealgIndexByte.indexByte := by
  simp only [Extern.find, hn, ho]
  have a : Extern.allGenericRows.lookup "internal/bytealg.IndexByteString" = none := by kernel_rfl
  have b : Extern.allTypedRows.lookup "internal/bytealg.IndexByteString" = none := by kernel_rfl
  have c : Extern.allRows.lookup "internal/bytealg.IndexByteString" = some Extern.BytealgIndexByte.indexByte := by kernel_rfl
  rw [a, b, c]; rfl
 have hnn : ¬ fn.name = "runtime.NumGoroutine" := by rw [hn]; decide
 have hr := Lib.run_indexByteString (P := Tryz.prog) s c w
 have hb' : fn.body = none := by simpa using hb
 simp [callFunc, hf, hnn, hb', e1, e2, hr]
theorem qCN (s : ByteArray) (c : Int) : A3 Tryz.prog Γ 148 [.v (.string s), tK c] (tI (Lib.indexByte s.data.toList c.toNat.toUInt8)) := by
 refine A7 U8 rfl ?_
 simp [Jf]
 refine A0 (q0i s c) rfl ?_
 simp [Jg]
theorem q0j (s : ByteArray) (c : Int) : A3 Tryz.prog Γ 132 [.v (.string s), tK c] (tI (Lib.indexByte s.data.toList c.toNat.toUInt8)) := by
 refine A7 q0H rfl ?_
 simp [Rk]
 refine A0 (qCN s c) rfl ?_
 simp [Rl]
theorem q6J (s : ByteArray) (c : Int) (h0 : 0 ≤ c) (h1 : c < 128) : A3 Tryz.prog Γ 171 [.v (.string s), tR c] (tI (Lib.indexByte s.data.toList c.toNat.toUInt8)) := by
 refine A7 q0K rfl ?_
 simp (disch := omega) [Ro, h0, h1, B7]
 refine A0 (q0j s c) rfl ?_
 simp [Rq]
theorem q3V (s : ByteArray) (c : Int) (h0 : 0 ≤ c) (h1 : c < 128) : A3 Tryz.prog Γ 166 [.v (.string s), tR c] (tB (decide (0 ≤ Lib.indexByte s.data.toList c.toNat.toUInt8))) := by
 refine A7 Xv rfl ?_
 simp (disch := omega) [Nh]
 refine A0 (q6J s c h0 h1) rfl ?_
 simp [Ni]
def qCO (c : Int) : Bool := decide (c ≤ 32 ∨ 126 < c ∨ 0 ≤ Lib.indexByte [40, 41, 61, 44, 35] c.toNat.toUInt8)
theorem qCP (c : Int) : A3 Tryz.prog Γ 165 [tR c] (tB (qCO c)) := by
 refine A7 q0J rfl ?_
 by_cases h1 : c ≤ 32
 ·simp [Gj, Gk, h1, qCO]
 by_cases h2 : 126 < c
 ·simp [Gj, Gk, h1, h2, qCO]
 simp [Gj, h1, h2]
 refine A0 (q3V ⟨#[40, 41, 61, 44, 35]⟩ c (by omega) (by omega)) rfl ?_
 simp [Gk, qCO, h1, h2]
theorem qAe (s : List UInt8) (i : Nat) (hi : i < s.length) (ha : s[i] < 128) : Utf8.decode ⟨s.toArray⟩ i = ((s[i]).toNat, 1) := by
 have e : (ByteArray.mk s.toArray).get! (i + 0) = s[i] := by
  simp [ByteArray.get!, hi]
 have h2 : (s[i]).toNat < 128 := by simpa [UInt8.lt_iff_toNat_lt] using ha
 unfold Utf8.decode
 simp only [e, h2, ↓reduceIte]
def qAf (s : List UInt8) : Bool := s.any fun b => qCO b.toNat
theorem q0k {Q : AX → St → Prop} (s : List UInt8) (ha : ∀ b ∈ s, b < 128)
  (h0 : qAf s = false → Q (.exit 0) ⟨[(1, .t (.fn 165 [])), (2, .t (tB true)), (10, .li 10), (11, .t (.tup [tB false])), (12, .t (tB false))], [(10, .it ⟨s.toArray⟩ s.length)]⟩)
  (h1 : qAf s = true → ∀ i : Nat, Q .ret ⟨[(6, .t (tI i))], []⟩) : ∀ (k i : Nat), k + i = s.length → (∀ j, j < i → ∀ b, s[j]? = some b → qCO b.toNat = false) →
  run Tryz.prog Γ Gm Q ⟨[(1, .t (.fn 165 [])), (2, .t (tB true)), (10, .li 10)], [(10, .it ⟨s.toArray⟩ i)]⟩
 | 0, i, h, hq => by
  refine Ld fun K hK => ?_
  have h2 : ¬ i < s.length := by omega
  have h3 : i = s.length := by omega
  have h4 : ¬ i < (ByteArray.mk s.toArray).size := by simpa [ByteArray.size] using h2
  simp [h2]
  subst h3
  refine h0 (List.any_eq_false.2 fun b hb => ?_)
  obtain ⟨j, hj, rfl⟩ := List.getElem_of_mem hb
  simp [hq j hj _ (List.getElem?_eq_getElem hj)]
 | k + 1, i, h, hq => by
  refine Ld fun K hK => ?_
  have h2 : i < s.length := by omega
  have h4 : i < (ByteArray.mk s.toArray).size := by simpa [ByteArray.size] using h2
  simp [h2, qAe s i h2 (ha _ (List.getElem_mem h2))]
  refine A0 (qCP s[i].toNat) rfl ?_
  simp
  refine ⟨fun hc => ?_, fun hc => ?_⟩
  ·simp [B6]
   exact h1 (List.any_eq_true.2 ⟨_, List.getElem_mem h2, hc⟩) i
  ·simp [B6]
   rw [hK]
   exact q0k s ha h0 h1 k (i + 1) (by omega) (fun j hj b hb => by
    rcases Nat.lt_succ_iff_lt_or_eq.1 hj with hj | rfl
    ·exact hq j hj b hb
    ·rw [List.getElem?_eq_getElem h2] at hb; simp at hb; subst hb; exact hc)
theorem q8G (s : List UInt8) (ha : ∀ b ∈ s, b < 128) : ∃ n : Int, A3 Tryz.prog Γ 176 [tS s, .fn 165 [], tB true] (tI n) ∧ (0 ≤ n ↔ qAf s = true) := by
 have : ∃ r, A3 Tryz.prog Γ 176 [tS s, .fn 165 [], tB true] r ∧ ∃ n, r = tI n ∧ (0 ≤ n ↔ qAf s = true) := by
  refine q7X q0M rfl ?_
  simp [Rw, tS, sV]
  refine q0k s ha (fun h => ?_) (fun h i => ?_) s.length 0 (by omega) (by simp)
  ·simp [Jh, h]
  ·simp [Jh, h]
 obtain ⟨_, h1, n, rfl, h2⟩ := this
 exact ⟨n, h1, h2⟩
theorem q5O (s : List UInt8) (ha : ∀ b ∈ s, b < 128) : ∃ n : Int, A3 Tryz.prog Γ 172 [tS s, .fn 165 []] (tI n) ∧ (0 ≤ n ↔ qAf s = true) := by
 obtain ⟨n, h1, h2⟩ := q8G (Γ := Γ) s ha
 refine ⟨n, A7 q0L rfl ?_, h2⟩
 simp [Rr]
 refine A0 h1 rfl ?_
 simp [Rt]
theorem q0l (s : List UInt8) (ha : ∀ b ∈ s, b < 128) : A3 Tryz.prog Γ 167 [tS s, .fn 165 []] (tB (qAf s)) := by
 obtain ⟨n, h1, h2⟩ := q5O (Γ := Γ) s ha
 refine A7 Xw rfl ?_
 simp [Nj]
 refine A0 h1 rfl ?_
 simp [Nk, h2]
def q2o (s : List UInt8) : Bool := decide (s ≠ [] ∧ s.length ≤ 32) && !qAf s
theorem q9G (s : List UInt8) (ha : ∀ b ∈ s, b < 128) : A3 Tryz.prog Γ 151 [tS s] (tB (q2o s)) := by
 refine A7 q1w rfl ?_
 have h := q0l (Γ := Γ) s ha
 by_cases h1 : s = []
 ·simp [I3, I4, tS, sV, h1, q2o]
 have h1' : s.isEmpty = false := by simpa using h1
 by_cases h2 : s.length ≤ 32
 ·have h2' : (s.length : Int) ≤ 32 := by omega
  simp [I3, tS, sV, h1, h1', h2']
  refine A0 h rfl ?_
  simp [I4, q2o, h1, h2]
 ·have h2' : ¬ (s.length : Int) ≤ 32 := by omega
  simp [I3, I4, tS, sV, h1, h1', h2', h2, q2o]
def M1 (c : Ax) (m : Mm) : Int :=
 if Sz m.addr.l 8 = true ∨ Sz m.data.l 32 = true then 8 else if m.addr.l.any (Oa c) = true ∨ m.data.l.any (Oa c) = true ∨ Oa c m.write = true then 1 else 0
theorem q9H (c : Ax) (m : Mm) (hc : CirOk c) (hm : m.addr.l.length ≤ 1000000000 ∧ m.data.l.length ≤ 1000000000) : A3 Tryz.prog Γ 136 [.agg (tC c), .agg (tMm m)] (tI (M1 c m)) := by
 refine A7 q1u rfl ?_
 have hn := hc.nodes
 have e1 := Wl (Γ := Γ) c hn m.addr.l m.addr.cap m.addr.nl hm.1
 have e2 := Wl (Γ := Γ) c hn m.data.l m.data.cap m.data.nl hm.2
 have e3 := U9 (Γ := Γ) c
 have e4 := q3U (Γ := Γ) m.addr.l m.addr.cap m.addr.nl 8 hm.1
 have e5 := q3U (Γ := Γ) m.data.l m.data.cap m.data.nl 32 hm.2
 have e6 := Xy (Γ := Γ) c m.write hn
 simp [Vd, tC, tMm, A6, A8, Ad, Bl]
 refine A9 e3 rfl ?_
 simp
 refine A0 e4 rfl ?_
 have fin2 : ∀ b : Bool, b = decide (m.addr.l.any (Oa c) = true ∨ m.data.l.any (Oa c) = true ∨ Oa c m.write = true) → (Sz m.addr.l 8 = false) → (Sz m.data.l 32 = false) → M1 c m = if b then 1 else 0 := by
  intro b hb h1 h2
  subst hb
  unfold M1
  rw [if_neg (by simp [h1, h2])]
  simp
 by_cases h1 : Sz m.addr.l 8 = true
 ·simp [h1, Dh, M1]
 have h1' : Sz m.addr.l 8 = false := by simpa using h1
 simp [h1']
 refine A0 e5 rfl ?_
 by_cases h2 : Sz m.data.l 32 = true
 ·simp [h2, Dh, M1]
 have h2' : Sz m.data.l 32 = false := by simpa using h2
 simp [h2']
 refine A0 e1 rfl ?_
 generalize m.addr.l.any (Oa c) = b1 at e1 fin2
 generalize m.data.l.any (Oa c) = b2 at e2 fin2
 generalize Oa c m.write = b3 at e6 fin2
 cases b1 with
 | true => simp [Dh, fin2 true (by simp) h1' h2']
 | false =>
  simp
  refine A0 e2 rfl ?_
  cases b2 with
  | true => simp [Dh, fin2 true (by simp) h1' h2']
  | false =>
   simp
   refine Vg e6 ?_
   cases b3 with
   | true => simp [Dh, fin2 true (by simp) h1' h2']
   | false => simp [Dh, fin2 false (by simp) h1' h2']
def q6K (l : List (List UInt8)) : List (Value × T) := l.map fun s => (sV s, tB true)
theorem qFi (a b : List UInt8) : q01 (sV a) (sV b) = decide (a = b) := by
 simp only [q01, sV]
 by_cases h : a = b
 ·subst h; simp [q89]
 ·have : ¬ (ByteArray.mk a.toArray) = ⟨b.toArray⟩ := fun e => h (by simpa using e)
  have h2 : ((ByteArray.mk a.toArray) == ⟨b.toArray⟩) = false := by
   cases hq : ((ByteArray.mk a.toArray) == ⟨b.toArray⟩)
   ·rfl
   ·exact absurd ((q89 _ _).1 hq) this
  rw [h2]; simp [h]
theorem q6L (x : List UInt8) : ∀ l : List (List UInt8), Fj (sV x) (q6K l) = if x ∈ l then some (tB true) else none
 | [] => rfl
 | y :: l => by
  have ih := q6L x l
  simp only [q6K, List.map_cons, Fj, qFi] at ih ⊢
  by_cases h : x = y
  ·simp [h]
  ·simp [h, ih]
theorem q7c (x : List UInt8) : ∀ l : List (List UInt8), x ∉ l → q46 (sV x) (tB true) (q6K l) = q6K (l ++ [x])
 | [], _ => rfl
 | y :: l, h => by
  have ih := q7c x l (fun hm => h (List.mem_cons_of_mem _ hm))
  have hne : x ≠ y := fun e => h (by simp [e])
  simp only [q6K, List.map_cons, q46, qFi, List.cons_append] at ih ⊢
  simp [hne, ih]
theorem qCQ (l : List (List UInt8)) : Lq .str (q6K l) := by
 intro e he; obtain ⟨s, _, rfl⟩ := List.mem_map.1 he; rfl
def Ia : List (List UInt8) → List (List UInt8) → Int
 | _, [] => 0
 | done, s :: l => if q2o s = false ∨ s ∈ done then 5 else Ia (done ++ [s]) l
theorem q6M {Q : AX → St → Prop} (n : Sl (List UInt8)) (hl : n.l.length ≤ 1000000000) (ha : ∀ s ∈ n.l, ∀ b ∈ s, b < 128) (R : Int)
  (h0 : R = 0 → ∀ m : List (Value × T), Q (.exit 0) ⟨[(3, .lm 6), (8, .t (A8 n)), (9, .t (tI n.l.length)), (10, .t (tI n.l.length)), (11, .t (tB false))], [(6, .mp m)]⟩)
  (h5 : R = 5 → Q .ret ⟨[(2, .t (tI 5))], []⟩) : ∀ (k i : Nat), k + i = n.l.length → Ia (n.l.take i) (n.l.drop i) = R →
  run Tryz.prog Γ Iw Q ⟨[(3, .lm 6), (8, .t (A8 n)), (9, .t (tI n.l.length)), (10, .t (tI i))], [(6, .mp (q6K (n.l.take i)))]⟩
 | 0, i, h, hR => by
  refine Pj fun K hK => ?_
  have h2 : ¬ i < n.l.length := by omega
  have h3 : i = n.l.length := by omega
  simp [h2, A8]
  subst h3
  refine h0 ?_ _
  rw [← hR]; simp [Ia]
 | k + 1, i, h, hR => by
  refine Pj fun K hK => ?_
  have h2 : i < n.l.length := by omega
  simp (disch := omega) [h2, A8, A1, C2 ([] : List UInt8), A5]
  refine A0 (q9G n.l[i] (ha _ (List.getElem_mem h2))) rfl ?_
  have hd : n.l.drop i = n.l[i] :: n.l.drop (i + 1) := List.drop_eq_getElem_cons h2
  rw [hd] at hR
  simp only [Ia] at hR
  have ht : n.l.take i ++ [n.l[i]] = n.l.take (i + 1) := by rw [List.take_add_one]; simp [h2]
  by_cases hq : q2o n.l[i] = true
  ·have hfit := qCQ (n.l.take i)
   simp [hq, tS, KT.fits, sV, hfit]
   rw [show (Value.string ⟨(n.l[i]).toArray⟩) = sV n.l[i] from rfl, q6L]
   by_cases hm : n.l[i] ∈ n.l.take i
   ·simp [hm]
    refine h5 ?_
    rw [← hR, if_pos (.inr hm)]
   ·rw [if_neg (by simp [hq, hm]), ht] at hR
    simp (disch := omega) [hm, sV, KT.fits, hfit, A4]
    rw [hK]
    have := q6M n hl ha R h0 h5 k (i + 1) (by omega) hR
    rw [show (Value.string ⟨(n.l[i]).toArray⟩) = sV n.l[i] from rfl, q7c _ _ hm, ht]
    exact_mod_cast this
  ·have hq' : q2o n.l[i] = false := by simpa using hq
   simp [hq']
   refine h5 ?_
   rw [← hR, if_pos (.inl hq')]
theorem qAg (c : Ax) (hc : CirOk c) (ha : ∀ s ∈ c.names.l, ∀ b ∈ s, b < 128) : A3 Tryz.prog Γ 135 [.agg (tC c)] (tI (Ia [] c.names.l)) := by
 refine A7 q2n rfl ?_
 simp [Wi, tC, A6, A8, Ad, Bl, A1]
 refine q6M c.names hc.names ha (Ia [] c.names.l) (fun h m => ?_) (fun h => ?_) c.names.l.length 0 (by omega) (by simp)
 ·simp [O9, h]
 ·simp [O9, h]
def D9 : List Int → Int
 | [] => 0
 | e :: l => if e ≠ 0 then e else D9 l
theorem q25 {α : Type} (f : α → Int) (l : List α) (i : Nat) (h : i < l.length) : D9 ((l.drop i).map f) = if f l[i] ≠ 0 then f l[i] else D9 ((l.drop (i + 1)).map f) := by
 rw [List.drop_eq_getElem_cons h]; rfl
theorem q4x {Q : AX → St → Prop} (hΓ : GOk Γ) (c : Ax) (hc : CirOk c) (R : Int)
  (h0 : R = 0 → Q (.exit 1) ⟨[(1, .t (.ip (tC c) 0)), (36, .t (A6 c.nodes)), (37, .t (tI c.nodes.l.length)), (38, .t (tI c.nodes.l.length)), (39, .t (tB false))], []⟩)
  (h5 : R ≠ 0 → Q .ret ⟨[(2, .t (tI R))], []⟩) : ∀ (k i : Nat), k + i = c.nodes.l.length → D9 ((c.nodes.l.drop i).map (Cc c)) = R →
  run Tryz.prog Γ It Q ⟨[(1, .t (.ip (tC c) 0)), (36, .t (A6 c.nodes)), (37, .t (tI c.nodes.l.length)), (38, .t (tI i))], []⟩
 | 0, i, h, hR => by
  refine Ph fun K hK => ?_
  have h2 : ¬ i < c.nodes.l.length := by omega
  have h3 : i = c.nodes.l.length := by omega
  simp [h2]
  subst h3
  exact h0 (by rw [← hR]; simp [D9])
 | k + 1, i, h, hR => by
  refine Ph fun K hK => ?_
  have h2 : i < c.nodes.l.length := by omega
  have hn := hc.nodes
  have hx := List.getElem_mem h2
  rw [q25 (Cc c) _ _ h2] at hR
  have e := qCM (Γ := Γ) hΓ c c.nodes.l[i] hc (hc.kind _ hx) (hc.inn _ hx)
  simp (disch := omega) [h2, A6, Aa, Dy Nd.d, Br, Fg, tC, Bl]
  refine A0 e rfl ?_
  by_cases hq : Cc c c.nodes.l[i] = 0
  ·rw [if_neg (by simp [hq])] at hR
   simp (disch := omega) [hq, A4]
   rw [hK]
   have := q4x hΓ c hc R h0 h5 k (i + 1) (by omega) hR
   simpa [tC, A6, Bl] using this
  ·rw [if_pos (by simpa using hq)] at hR
   simp [hq]
   rw [hR]
   exact h5 (by rw [← hR]; exact hq)
theorem q6N {Q : AX → St → Prop} (c : Ax) (hc : CirOk c) (R : Int)
  (h0 : R = 0 → Q (.exit 3) ⟨[(1, .t (.ip (tC c) 0)), (55, .t (Ad c.mems)), (56, .t (tI c.mems.l.length)), (57, .t (tI c.mems.l.length)), (58, .t (tB false))], []⟩)
  (h5 : R ≠ 0 → Q .ret ⟨[(2, .t (tI R))], []⟩) : ∀ (k i : Nat), k + i = c.mems.l.length → D9 ((c.mems.l.drop i).map (M1 c)) = R →
  run Tryz.prog Γ Iu Q ⟨[(1, .t (.ip (tC c) 0)), (55, .t (Ad c.mems)), (56, .t (tI c.mems.l.length)), (57, .t (tI i))], []⟩
 | 0, i, h, hR => by
  refine Pi fun K hK => ?_
  have h2 : ¬ i < c.mems.l.length := by omega
  have h3 : i = c.mems.l.length := by omega
  simp [h2]
  subst h3
  exact h0 (by rw [← hR]; simp [D9])
 | k + 1, i, h, hR => by
  refine Pi fun K hK => ?_
  have h2 : i < c.mems.l.length := by omega
  have hn := hc.mems
  have hx := List.getElem_mem h2
  rw [q25 (M1 c) _ _ h2] at hR
  have e := q9H (Γ := Γ) c c.mems.l[i] hc (hc.addr _ hx)
  simp (disch := omega) [h2, Ad, Aa, Dy Mm.d, Qu, tMm, tC, Bl]
  refine A0 e rfl ?_
  by_cases hq : M1 c c.mems.l[i] = 0
  ·rw [if_neg (by simp [hq])] at hR
   simp (disch := omega) [hq, A4]
   rw [hK]
   have := q6N c hc R h0 h5 k (i + 1) (by omega) hR
   simpa [tC, Ad, Bl] using this
  ·rw [if_pos (by simpa using hq)] at hR
   simp [hq]
   rw [hR]
   exact h5 (by rw [← hR]; exact hq)
def D1 (c : Ax) : Int :=
 if 16384 < c.nodes.l.length ∨ 16 < c.mems.l.length ∨ 16384 < c.outs.l.length then 3 else if c.names.l.length ≠ c.nodes.l.length then 8
 else if D9 (c.nodes.l.map (Cc c)) ≠ 0 then D9 (c.nodes.l.map (Cc c))
 else if Ia [] c.names.l ≠ 0 then Ia [] c.names.l
 else if D9 (c.mems.l.map (M1 c)) ≠ 0 then D9 (c.mems.l.map (M1 c))
 else if c.outs.l.any (Oa c) = true then 1 else 0
theorem qAh (hΓ : GOk Γ) (c : Ax) (hc : CirOk c) (ha : ∀ s ∈ c.names.l, ∀ b ∈ s, b < 128) : A3 Tryz.prog Γ 112 [.agg (tC c)] (tI (D1 c)) := by
 refine A7 q2m rfl ?_
 have hn := hc.nodes
 have hm := hc.mems
 have ho := hc.outs
 have hnn := hc.names
 have en := qAg (Γ := Γ) c hc ha
 have eo := U9 (Γ := Γ) c
 have ec := Wl (Γ := Γ) c hn c.outs.l c.outs.cap c.outs.nl ho
 by_cases h1 : 16384 < c.nodes.l.length ∨ 16 < c.mems.l.length ∨ 16384 < c.outs.l.length
 ·have : D1 c = 3 := by unfold D1; rw [if_pos h1]
  rw [this]
  by_cases g1 : (16384 : Int) < c.nodes.l.length
  ·simp [Ej, C5, tC, A6, A8, Ad, Bl, Aa, A1, g1]
  by_cases g2 : (16 : Int) < c.mems.l.length
  ·simp [Ej, C5, tC, A6, A8, Ad, Bl, Aa, A1, g1, g2]
  have g3 : (16384 : Int) < c.outs.l.length := by omega
  simp [Ej, C5, tC, A6, A8, Ad, Bl, Aa, A1, g1, g2, g3]
 have g1 : ¬ (16384 : Int) < c.nodes.l.length := by omega
 have g2 : ¬ (16 : Int) < c.mems.l.length := by omega
 have g3 : ¬ (16384 : Int) < c.outs.l.length := by omega
 by_cases h2 : c.names.l.length = c.nodes.l.length
 case neg =>
  have : D1 c = 8 := by unfold D1; rw [if_neg h1, if_pos h2]
  have h2' : ¬ (c.names.l.length : Int) = c.nodes.l.length := by omega
  rw [this]
  simp [Ej, C5, tC, A6, A8, Ad, Bl, Aa, A1, g1, g2, g3, h2']
 simp [Ej, tC, A6, A8, Ad, Bl, Aa, A1, g1, g2, g3, h2]
 have e0 : D1 c = if D9 (c.nodes.l.map (Cc c)) ≠ 0 then D9 (c.nodes.l.map (Cc c))
   else if Ia [] c.names.l ≠ 0 then Ia [] c.names.l
   else if D9 (c.mems.l.map (M1 c)) ≠ 0 then D9 (c.mems.l.map (M1 c))
   else if c.outs.l.any (Oa c) = true then 1 else 0 := by
  unfold D1; rw [if_neg h1, if_neg (by simp [h2])]
 refine q4x hΓ c hc (D9 (c.nodes.l.map (Cc c))) (fun h3 => ?_) (fun h3 => ?_) c.nodes.l.length 0 (by omega) (by simp)
 case refine_2 =>
  rw [if_pos h3] at e0
  simp [C5, e0]
 rw [if_neg (by rw [h3]; decide)] at e0
 simp [tC, A6, A8, Ad, Bl]
 refine A0 en rfl ?_
 by_cases h4 : Ia [] c.names.l = 0
 case neg =>
  rw [if_pos h4] at e0
  simp [h4, C5, e0]
 rw [if_neg (by rw [h4]; decide)] at e0
 simp [h4, Aa]
 refine q6N c hc (D9 (c.mems.l.map (M1 c))) (fun h5 => ?_) (fun h5 => ?_) c.mems.l.length 0 (by omega) (by simp)
 case refine_2 =>
  rw [if_pos h5] at e0
  simp [C5, e0]
 rw [if_neg (by rw [h5]; decide)] at e0
 simp [tC, A6, A8, Ad, Bl]
 refine A9 eo rfl ?_
 simp
 refine A0 ec rfl ?_
 generalize c.outs.l.any (Oa c) = b at e0
 cases b <;> simp [C5, e0]
def Il (ks : List Int) : List Nd → Nat → List Int
 | [], _ => []
 | x :: l, i => if ks.contains x.k then (i : Int) :: Il ks l (i + 1) else Il ks l (i + 1)
theorem q3W (ks : List Int) : ∀ (a b : List Nd) (i : Nat), Il ks (a ++ b) i = Il ks a i ++ Il ks b (i + a.length)
 | [], b, i => by simp [Il]
 | x :: a, b, i => by
  have := q3W ks a b (i + 1)
  simp only [List.cons_append, Il, this, List.length_cons]
  split <;> simp [Nat.add_assoc, Nat.add_comm 1]
theorem Ua (ks : List Int) : ∀ (a : List Nd) (i : Nat), (Il ks a i).length ≤ a.length
 | [], _ => by simp [Il]
 | x :: a, i => by
  have := Ua ks a (i + 1)
  simp only [Il]
  split <;> simp <;> omega
theorem qBV {Q : AX → St → Prop} (n : Sl Nd) (hl : n.l.length ≤ 1000000000) (ks : List Int) (kc : Option Nat) (kn : Option Bool) (hk : ks.length ≤ 1000000000)
  (h0 : Q (.exit 0) ⟨[(1, .t (.sl (Af tK ks) kc kn)), (5, .ls 23 0 (Il ks n.l 0).length none), (9, .t (A6 n)), (10, .t (tI n.l.length)), (11, .t (tI n.l.length)), (12, .t (tB false))], [(23, .sl 3 1 (Bo (Il ks n.l 0)))]⟩) : ∀ (k i : Nat), k + i = n.l.length →
  run Tryz.prog Γ O2 Q ⟨[(1, .t (.sl (Af tK ks) kc kn)), (5, .ls 23 0 (Il ks (n.l.take i) 0).length none), (9, .t (A6 n)), (10, .t (tI n.l.length)), (11, .t (tI i))], [(23, .sl 3 1 (Bo (Il ks (n.l.take i) 0)))]⟩
 | 0, i, h => by
  refine Us fun K hK => ?_
  have h2 : ¬ i < n.l.length := by omega
  have h3 : i = n.l.length := by omega
  simp [h2]
  subst h3
  simpa using h0
 | k + 1, i, h => by
  refine Us fun K hK => ?_
  have h2 : i < n.l.length := by omega
  have ht : n.l.take (i + 1) = n.l.take i ++ [n.l[i]] := by rw [List.take_add_one]; simp [h2]
  have hlen := Ua ks (n.l.take i) 0
  have htl : (n.l.take i).length = i := by simp; omega
  have hal : Il ks (n.l.take (i + 1)) 0 = if ks.contains n.l[i].k then Il ks (n.l.take i) 0 ++ [(i : Int)] else Il ks (n.l.take i) 0 := by
   rw [ht, q3W, htl]
   simp only [Il, Nat.zero_add]
   split <;> simp
  have e := q77 (Γ := Γ) ks kc kn n.l[i].k hk
  simp (disch := omega) [h2, A6, Aa, Dy Nd.d, Br, Fg, Bl]
  refine A0 e rfl ?_
  generalize ks.contains n.l[i].k = b at hal
  have ih := qBV n hl ks kc kn hk h0 k (i + 1) (by omega)
  rw [hal] at ih
  cases b with
  | false =>
   simp (disch := omega) [A4]
   rw [hK]
   simpa [A6] using ih
  | true =>
   have hw : E4 1 [[tI (i : Int)]] := by intro e he; simp at he; subst he; rfl
   simp (disch := omega) [A4, A1, A5, hw]
   rw [hK]
   simp [A6] at ih
   rw [E0 (f := tI) (x := (i : Int))]
   exact ⟨by omega, ih⟩
theorem qEu (c : Ax) (hc : CirOk c) (ks : List Int) (kc : Option Nat) (kn : Option Bool) (hk : ks.length ≤ 1000000000) :
  A3 Tryz.prog Γ 66 [.agg (tC c), .sl (Af tK ks) kc kn] (.sl (Bo (Il ks c.nodes.l 0)) (some (Il ks c.nodes.l 0).length) none) := by
 refine A7 q5M rfl ?_
 simp [q0e, tC, A6, A8, Ad, Bl, Aa]
 refine qBV c.nodes hc.nodes ks kc kn hk ?_ c.nodes.l.length 0 (by omega)
 simp
 refine ⟨_, _, qAb 3 (Bo (Il ks c.nodes.l 0)) (Il ks c.nodes.l 0).length none A5, ?_⟩
 simp [q0f]
abbrev L6 := List (Int × Int)
def tLn (p : Int × Int) : List T := [tI p.1, tI p.2]
def q6O (i : Nat) (r : L6) : AV := if r = [] then .t (.sl [] (some 0) (some true)) else .ls (100000 + i) 0 r.length none
def Cb (rows : List L6) : List AV := rows.mapIdx q6O
def Ji (rows : List L6) (id : Nat) : Option B0 := match rows[id - 100000]? with
 | some r => if r = [] then none else some (.sl 165 2 (Bc tLn r))
 | none => none
def Jj (k : Nat) (g : Nat → Option B0) : List (Nat × B0) := (List.range' 100000 k).filterMap fun id => (g id).map fun r => (id, r)
def Ci (rows : List L6) : List (Nat × B0) := Jj 16384 (Ji rows)
theorem q6P {α β : Type} {f g : α → Option β} : ∀ {l : List α}, (∀ x ∈ l, f x = g x) → l.filterMap f = l.filterMap g
 | [], _ => rfl
 | x :: l, h => by
  rw [List.filterMap_cons, List.filterMap_cons, h x List.mem_cons_self, q6P (l := l) fun y hy => h y (List.mem_cons_of_mem _ hy)]
theorem qEv {l : List Nat} {g : Nat → Option B0} {t : Nat} : A2 (l.filterMap fun id => (g id).map fun r => (id, r)) t = if t ∈ l then g t else none := by
 induction l with
 | nil => simp [A2]
 | cons k l ih =>
  rw [List.filterMap_cons]
  cases hg : g k with
  | none =>
   simp only [Option.map_none, ih]
   by_cases h : t = k
   ·subst h; simp [hg]
   ·simp [h]
  | some r =>
   simp only [Option.map_some, A2, ih]
   by_cases h : k = t
   ·subst h; simp [hg]
   ·simp [h, Ne.symm h]
theorem M3 {k : Nat} {g : Nat → Option B0} {t : Nat} : A2 (Jj k g) t = if 100000 ≤ t ∧ t < 100000 + k then g t else none := by
 unfold Jj; rw [qEv]
 by_cases h : 100000 ≤ t ∧ t < 100000 + k
 ·rw [if_pos h, if_pos (by rw [List.mem_range'_1]; exact h)]
 ·rw [if_neg h, if_neg (by rw [List.mem_range'_1]; exact h)]
theorem q7d {rows : List L6} {l : List (Nat × B0)} (h : ∀ t ∈ List.range' 100000 16384, A2 l t = Ji rows t) : Lg.keep (List.range' 100000 16384) l = Ci rows := by
 unfold Lg.keep Ci Jj
 exact q6P fun t ht => by rw [h t ht]
theorem q4R {env : List (Nat × AV)} {hp : List (Nat × B0)} {ks : List Nat} {rows : List L6} (hk : (hp.map (·.1)).filter (fun id => !([14] : List Nat).contains id && !(decide (100000 ≤ id) && decide (id < 100000 + 16384))) = [])
  (h14 : A2 hp 14 = some (.bx (Cb rows))) (hr : ∀ t, 100000 ≤ t → t < 116384 → A2 hp t = Ji rows t) :
  Gh.run (.keepB ks [14] 100000 16384) ⟨env, hp⟩ = ⟨Lg.keep ks env, (14, .bx (Cb rows)) :: Ci rows⟩ := by
 simp only [Gh.run, q5h, hk, Hu, q4P, h14, q6F, List.cons_append, List.nil_append]
 congr 2
 simp only [Lg.keep, Ci, Jj]
 refine q6P fun t ht => ?_
 rw [List.mem_range'_1] at ht
 rw [hr t ht.1 (by omega)]
theorem Yi {k : Nat} {g : Nat → Option B0} : ∀ p ∈ Jj k g, 100000 ≤ p.1 ∧ p.1 < 100000 + k := by
 intro p hp
 obtain ⟨id, hid, he⟩ := List.mem_filterMap.1 hp
 rw [List.mem_range'_1] at hid
 cases hg : g id with
 | none => rw [hg] at he; cases he
 | some r => rw [hg] at he; simp at he; subst he; exact hid
theorem q4y {rows : List L6} : ((Ci rows).map (·.1)).filter (fun id => !([14] : List Nat).contains id && !(decide (100000 ≤ id) && decide (id < 100000 + 16384))) = [] := by
 rw [List.filter_eq_nil_iff]
 intro id hid
 obtain ⟨p, hp, rfl⟩ := List.mem_map.1 hid
 have := Yi p hp
 simp [this.1, this.2]
theorem q1c {rows : List L6} {t : Nat} : A2 ((14, .bx (Cb rows)) :: Ci rows) t = if t = 14 then some (.bx (Cb rows)) else if 100000 ≤ t ∧ t < 116384 then Ji rows t else none := by
 simp only [A2, Ci, M3]
 by_cases h : t = 14
 ·simp [h]
 ·simp [h, Ne.symm h]
theorem Ub {env : List (Nat × AV)} {ks : List Nat} {rows : List L6} : Gh.run (.keepB ks [14] 100000 16384) ⟨env, (14, .bx (Cb rows)) :: Ci rows⟩ = ⟨Lg.keep ks env, (14, .bx (Cb rows)) :: Ci rows⟩ := by
 refine q4R ?_ (by simp [A2]) fun t h1 h2 => ?_
 ·rw [List.map_cons, List.filter_cons]; simp only [q4y]; simp
 ·rw [q1c, if_neg (by omega), if_pos ⟨h1, h2⟩]
theorem q8H {id : Nat} (h : id < 100000) (rows : List L6) : (Cb rows).map (Bi id) = Cb rows := by
 apply List.ext_getElem?
 intro i
 simp only [Cb, List.getElem?_map, List.getElem?_mapIdx, Option.map_map]
 cases rows[i]? with
 | none => rfl
 | some r =>
  simp only [Option.map_some, Function.comp_def, q6O]
  split
  ·rfl
  ·simp only [Bi, kill1]; rw [if_neg (by omega)]
theorem qEw {env : List (Nat × AV)} {ks : List Nat} {rows : List L6} {q : B0} : Gh.run (.keepB ks [14] 100000 16384) ⟨env, (6, q) :: (14, .bx (Cb rows)) :: Ci rows⟩ = ⟨(Lg.keep ks env).map (fun p => (p.1, Bi 6 p.2)), (14, .bx (Cb rows)) :: Ci rows⟩ := by
 have hk : (((6, q) :: (14, B0.bx (Cb rows)) :: Ci rows).map (·.1)).filter (fun id => !([14] : List Nat).contains id && !(decide (100000 ≤ id) && decide (id < 100000 + 16384))) = [6] := by
  rw [List.map_cons, List.map_cons, List.filter_cons, List.filter_cons]; simp only [q4y]; simp
 have hl : ∀ t, t ≠ 6 → A2 (St.kill 6 ⟨Lg.keep ks env, (6, q) :: (14, .bx (Cb rows)) :: Ci rows⟩).hp t = A2 ((14, .bx (Cb rows)) :: Ci rows) t := by
  intro t ht
  rw [Uo, if_neg ht]
  show (A2 ((6, q) :: (14, .bx (Cb rows)) :: Ci rows) t).map _ = _
  rw [A2, if_neg (Ne.symm ht), q1c]
  by_cases h : t = 14
  ·simp [h, Ip, q8H]
  ·simp only [h, ↓reduceIte]
   split
   ·unfold Ji
    split
    ·split <;> simp [Ip]
    ·rfl
   ·rfl
 simp only [Gh.run, q5h, hk, Hu, q4P, q6F, List.cons_append, List.nil_append]
 rw [hl 14 (by omega)]
 simp only [A2, ↓reduceIte, List.cons_append, List.nil_append]
 congr 2
 refine q7d fun t ht => ?_
 rw [List.mem_range'_1] at ht
 rw [hl t (by omega), q1c, if_neg (by omega), if_pos ⟨ht.1, by omega⟩]
def Ha (rows : List L6) (n : Nat) (p : Int × Int) : List L6 := rows.set n (rows.getD n [] ++ [p])
theorem q2p {rows : List L6} {n : Nat} {p : Int × Int} : (Ha rows n p).length = rows.length := by simp [Ha]
theorem qCR {env : List (Nat × AV)} {ks : List Nat} {rows : List L6} {n : Nat} {p : Int × Int} {hp : List (Nat × B0)} {cs : List AV} (hn : n < rows.length) (hn2 : rows.length ≤ 16384)
  (hlen : cs.length = rows.length) (hcs : ∀ i, i ≠ n → cs[i]? = (Cb rows)[i]?) (hc : cs[n]? = some (.ls 47 0 ((rows.getD n []).length + 1) none)) (h47 : A2 hp 47 = some (.sl 165 2 (Bc tLn (rows.getD n [] ++ [p])))) (h14 : A2 hp 14 = some (.bx cs))
  (hno : A2 hp (100000 + n) = none) (hoth : ∀ t, 100000 ≤ t → t < 116384 → t ≠ 100000 + n → A2 hp t = Ji rows t) (hkeys : ∀ q ∈ hp, q.1 = 47 ∨ q.1 = 14 ∨ (100000 ≤ q.1 ∧ q.1 < 116384)) :
  Gh.run (.keepB ks [14] 100000 16384) (q3O 47 (100000 + n) ⟨env, hp⟩) = ⟨(Lg.keep ks (env.map fun q => (q.1, Bm (H8 47 (100000 + n)) q.2))), (14, .bx (Cb (Ha rows n p))) :: Ci (Ha rows n p)⟩ := by
 have hr : q3O 47 (100000 + n) ⟨env, hp⟩ = ⟨env.map fun q => (q.1, Bm (H8 47 (100000 + n)) q.2), Wa 47 (100000 + n) hp⟩ := by
  unfold q3O
  rw [if_pos]
  simp [hno, h47]; omega
 rw [hr]
 have hget : ∀ i, (Ha rows n p)[i]? = if i = n then some (rows.getD n [] ++ [p]) else rows[i]? := by
  intro i
  unfold Ha
  rw [List.getElem?_set]
  by_cases h : n = i
  ·subst h; simp [hn]
  ·simp [h, Ne.symm h]
 have hl := fun t => q2j (a := 47) (b := 100000 + n) (t := t) hno (by omega)
 refine q4R ?_ ?_ fun t h1 h2 => ?_
 ·rw [List.filter_eq_nil_iff]
  intro id hid
  have : id = 100000 + n ∨ id ≠ 47 ∧ ∃ q ∈ hp, q.1 = id := by
   clear hl hr hno hoth h14 h47
   induction hp with
   | nil => simp [Wa] at hid
   | cons q l ih =>
    obtain ⟨k, r⟩ := q
    simp only [Wa, List.map_cons, List.mem_cons] at hid
    rcases hid with hid | hid
    ·by_cases h : k = 47
     ·left; simpa [h] using hid
     ·right; simp [h] at hid; subst hid; exact ⟨h, _, List.mem_cons_self, rfl⟩
    ·rcases ih (fun q hq => hkeys q (List.mem_cons_of_mem _ hq)) hid with h | ⟨h, q, hq, e⟩
     ·exact .inl h
     ·exact .inr ⟨h, q, List.mem_cons_of_mem _ hq, e⟩
  rcases this with h | ⟨h, q, hq, rfl⟩
  ·subst h; simp; intro _; omega
  ·rcases hkeys q hq with e | e | ⟨e1, e2⟩
   ·exact absurd e h
   ·simp [e]
   ·simp; intro _; omega
 ·rw [hl, if_neg (by omega), if_neg (by omega), h14]
  simp only [Option.map_some, Ce, Option.some.injEq, B0.bx.injEq]
  apply List.ext_getElem?
  intro i
  simp only [List.getElem?_map, Cb, List.getElem?_mapIdx]
  rw [hget]
  by_cases h : i = n
  ·subst h
   rw [hc]
   have : ¬ (rows.getD i [] ++ [p] = []) := by simp
   simp only [↓reduceIte, Option.map_some, Option.some.injEq]
   unfold q6O
   rw [if_neg this]
   simp [Bm, ren1, ren0, H8]
  ·rw [hcs i h, if_neg h]
   simp only [Cb, List.getElem?_mapIdx, Option.map_map]
   cases hrow : rows[i]? with
   | none => rfl
   | some r =>
    simp only [Option.map_some, Function.comp_def, q6O, Option.some.injEq]
    split
    ·rfl
    ·simp only [Bm, ren1, ren0, H8]; rw [if_neg (by omega)]
 ·rw [hl]
  by_cases h : t = 100000 + n
  ·rw [if_pos h, h47]
   subst h
   unfold Ji
   rw [show 100000 + n - 100000 = n by omega, hget, if_pos rfl]
   simp [Ce]
  ·rw [if_neg h, if_neg (by omega), hoth t h1 h2 h]
   unfold Ji
   rw [hget, if_neg (by omega)]
   cases rows[t - 100000]? with
   | none => rfl
   | some r => simp only; split <;> simp [Ce]
def q4S (k i : Nat) (r : L6) : AV := if r = [] then .t (.sl [] (some 0) (some true)) else if k ≤ i then .t (.sl (Bc tLn r) none none) else .ls (100000 + i) 0 r.length none
theorem qDS {env : List (Nat × AV)} {rows : List L6} (he : ∀ id r, 100000 ≤ id → ∀ p ∈ env, Dl id r p.2 = p.2) (k : Nat) : St.freeze (100000 + k) ⟨env, (14, .bx (rows.mapIdx (q4S (k + 1)))) :: Jj (k + 1) (Ji rows)⟩ = ⟨env, (14, .bx (rows.mapIdx (q4S k))) :: Jj k (Ji rows)⟩ := by
 have hsplit : Jj (k + 1) (Ji rows) = Jj k (Ji rows) ++ (match Ji rows (100000 + k) with | some r => [(100000 + k, r)] | none => []) := by
  unfold Jj
  rw [← List.range'_append (s := 100000) (m := k) (n := 1) (step := 1)]
  rw [List.filterMap_append]
  congr 1
  cases hr : Ji rows (100000 + k) <;> simp [hr]
 have hl : A2 ((14, B0.bx (rows.mapIdx (q4S (k + 1)))) :: Jj (k + 1) (Ji rows)) (100000 + k) = Ji rows (100000 + k) := by
  rw [A2, if_neg (by omega), M3, if_pos (by omega)]
 simp only [St.freeze, hl]
 cases hr : Ji rows (100000 + k) with
 | none =>
  rw [hr] at hsplit
  simp only [hsplit, List.append_nil]
  refine congrArg (fun l => (⟨env, (14, B0.bx l) :: Jj k (Ji rows)⟩ : St)) ?_
  apply List.ext_getElem?
  intro i
  simp only [List.getElem?_mapIdx]
  cases hi : rows[i]? with
  | none => rfl
  | some r =>
   simp only [Option.map_some, q4S]
   by_cases h0 : r = []
   ·simp [h0]
   ·by_cases hik : i = k
    ·subst hik
     unfold Ji at hr
     rw [show 100000 + i - 100000 = i by omega, hi] at hr
     simp [h0] at hr
    ·have : (k + 1 ≤ i) = (k ≤ i) := by apply propext; omega
     simp [this]
 | some q =>
  obtain ⟨r, hrow, hne, rfl⟩ : ∃ r, rows[k]? = some r ∧ r ≠ [] ∧ q = .sl 165 2 (Bc tLn r) := by
   unfold Ji at hr
   rw [show 100000 + k - 100000 = k by omega] at hr
   split at hr
   ·rename_i r h
    split at hr
    ·cases hr
    ·rename_i hne; simp only [Option.some.injEq] at hr; exact ⟨r, h, hne, hr.symm⟩
   ·cases hr
  rw [hr] at hsplit
  simp only [B0.closed, ↓reduceIte]
  have e1 : env.map (fun p => (p.1, Dl (100000 + k) (.sl 165 2 (Bc tLn r)) p.2)) = env := by
   conv => rhs; rw [← List.map_id env]
   refine List.map_congr_left fun p hp => ?_
   rw [he _ _ (by omega) p hp]; rfl
  have e2 : del (100000 + k) ((14, B0.bx (rows.mapIdx (q4S (k + 1)))) :: Jj (k + 1) (Ji rows)) = (14, B0.bx (rows.mapIdx (q4S (k + 1)))) :: Jj k (Ji rows) := by
   rw [hsplit]
   unfold del
   rw [List.filter_cons, if_pos (by simp; omega), List.filter_append]
   congr 1
   have h1 : (Jj k (Ji rows)).filter (fun p => p.1 != 100000 + k) = Jj k (Ji rows) := by
    rw [List.filter_eq_self]
    intro p hp
    have := Yi p hp
    simp; omega
   rw [h1]; simp
  rw [e1, e2]
  have e3 : (Jj k (Ji rows)).map (fun p => (p.1, Im (100000 + k) (.sl 165 2 (Bc tLn r)) p.2)) = Jj k (Ji rows) := by
   conv => rhs; rw [← List.map_id (Jj k (Ji rows))]
   refine List.map_congr_left fun p hp => ?_
   obtain ⟨id, hid, hee⟩ := List.mem_filterMap.1 hp
   cases hg : Ji rows id with
   | none => rw [hg] at hee; cases hee
   | some q =>
    rw [hg] at hee
    simp only [Option.map_some, Option.some.injEq] at hee; subst hee
    unfold Ji at hg
    split at hg
    ·split at hg
     ·cases hg
     ·simp only [Option.some.injEq] at hg; subst hg; rfl
    ·cases hg
  rw [List.map_cons, e3]
  refine congrArg (fun l => (⟨env, (14, B0.bx l) :: Jj k (Ji rows)⟩ : St)) ?_
  apply List.ext_getElem?
  intro i
  simp only [List.getElem?_map, List.getElem?_mapIdx, Option.map_map]
  cases hi : rows[i]? with
  | none => rfl
  | some r' =>
   simp only [Option.map_some, Function.comp_def, q4S]
   by_cases h0 : r' = []
   ·simp [h0, Dl, frz1, frz0]
   ·simp only [h0, ↓reduceIte]
    by_cases hik : i = k
    ·subst hik
     rw [hrow] at hi; cases hi
     rw [if_neg (by omega), if_pos (Nat.le_refl _)]
     simp [Dl, frz1, frz0, Ag, A2]
    ·by_cases hlt : k + 1 ≤ i
     ·rw [if_pos hlt, if_pos (by omega)]; rfl
     ·rw [if_neg hlt, if_neg (by omega)]
      simp only [Dl, frz1, frz0]
      rw [if_neg (by omega)]
theorem qBW {env : List (Nat × AV)} {rows : List L6} (he : ∀ id r, 100000 ≤ id → ∀ p ∈ env, Dl id r p.2 = p.2) : ∀ k, qAW 100000 k ⟨env, (14, .bx (rows.mapIdx (q4S k))) :: Jj k (Ji rows)⟩ = ⟨env, (14, .bx (rows.mapIdx (q4S 0))) :: []⟩
 | 0 => by simp [qAW, Jj]
 | k + 1 => by
  rw [qAW, qDS he k]
  exact qBW he k
def q79 (r : L6) : T := if r = [] then .sl [] (some 0) (some true) else .sl (Bc tLn r) none none
theorem qDT {env : List (Nat × AV)} {rows : List L6} (hl : rows.length ≤ 16384) (he : ∀ id r, 100000 ≤ id → ∀ p ∈ env, Dl id r p.2 = p.2) : Gh.run (.frzs 100000 16384) ⟨env, (14, .bx (Cb rows)) :: Ci rows⟩ = ⟨env, [(14, .bx (rows.map fun r => .t (q79 r)))]⟩ := by
 have h1 : Cb rows = rows.mapIdx (q4S 16384) := by
  apply List.ext_getElem?
  intro i
  simp only [Cb, List.getElem?_mapIdx]
  cases hi : rows[i]? with
  | none => rfl
  | some r =>
   have := (List.getElem?_eq_some_iff.1 hi).1
   simp only [Option.map_some, q6O, q4S]
   rw [if_neg (show ¬ 16384 ≤ i by omega)]
 have h2 : rows.mapIdx (q4S 0) = rows.map fun r => .t (q79 r) := by
  apply List.ext_getElem?
  intro i
  simp only [List.getElem?_mapIdx, List.getElem?_map]
  cases rows[i]? with
  | none => rfl
  | some r =>
   simp only [Option.map_some, q4S, q79, Nat.zero_le, ↓reduceIte]
   split <;> rfl
 have := qBW (rows := rows) he 16384
 rw [h2] at this
 simp only [Gh.run, h1, Ci]
 exact this
theorem Q9 {rows : List L6} : (Cb rows).length = rows.length := by simp [Cb]
theorem qDU {rows : List L6} {n : Nat} (h : n < rows.length) : ((Cb rows).drop n).take 1 = [q6O n (rows.getD n [])] := by
 have : (Cb rows).drop n = q6O n (rows.getD n []) :: (Cb rows).drop (n + 1) := by
  rw [List.drop_eq_getElem_cons (by rw [Q9]; exact h)]
  simp [Cb, h]
 rw [this]; rfl
theorem q8I {l : L6} : E4 2 (Bc tLn l) := q3R fun _ => rfl
theorem qGo {Q : AX → St → Prop} (rows : List L6) (n : Nat) (hn : n < rows.length) (hn2 : rows.length ≤ 16384) (i k : Int) (hr : (rows.getD n []).length ≤ 1000000000) (t4 t18 t19 t20 t26 t27 t28 t36 : T) (m : Nat) (hm : m = rows.length)
  (h : Q .normal ⟨[(3, .lb 14 m), (4, .t t4), (5, .t (tI i)), (18, .t t18), (19, .t t19), (20, .t t20), (26, .t t26), (27, .t t27), (28, .t t28)], (14, .bx (Cb (Ha rows n (i, k)))) :: Ci (Ha rows n (i, k))⟩) :
  Gf Tryz.prog Γ Ds ⟨[(3, .lb 14 m), (4, .t t4), (5, .t (tI i)), (7, .t (tI k)), (8, .t (tI n)), (18, .t t18), (19, .t t19), (20, .t t20), (26, .t t26), (27, .t t27), (28, .t t28), (36, .t t36)], (14, .bx (Cb rows)) :: Ci rows⟩
   (fun s1 => Q .normal (ghs [.renS 47 100000 8, .keepB [3, 4, 5, 18, 19, 20, 26, 27, 28] [14] 100000 16384] s1)) ⟨⟩ := by
 subst hm
 have hw : E4 2 [[tI i, tI k]] := by intro e he; simp at he; subst he; rfl
 have hlk47 : A2 (Ci rows) 47 = none := by rw [Ci, M3, if_neg (by omega)]
 have hat := qDU hn
 have hlk : A2 (Ci rows) (100000 + n) = if rows.getD n [] = [] then none else some (.sl 165 2 (Bc tLn (rows.getD n []))) := by
  rw [Ci, M3, if_pos (by omega)]
  unfold Ji
  rw [show 100000 + n - 100000 = n by omega, List.getElem?_eq_getElem hn]
  simp [hn]
 have hadd : Ha rows n (i, k) = rows.set n (rows.getD n [] ++ [(i, k)]) := rfl
 have fin := @qCR
 generalize hrow : rows.getD n [] = row at hr hat hlk hadd
 have hlen1 : n + 1 ≤ rows.length := hn
 have hset : ∀ (j : Nat), j ≠ n → ∀ (l : List AV) (x : AV), l.length = rows.length → (l.take n ++ x :: l.drop (n + 1))[j]? = l[j]? := by
  intro j hj l x hl
  rw [List.getElem?_append]
  by_cases hlt : j < n
  ·rw [if_pos (by simp; omega), List.getElem?_take, if_pos hlt]
  ·rw [if_neg (by simp; omega)]
   have e : (l.take n).length = n := by simp; omega
   rw [e, show j - n = (j - n - 1) + 1 by omega, List.getElem?_cons_succ, List.getElem?_drop]
   congr 1; omega
 have hseta : ∀ (l : List AV) (x : AV), l.length = rows.length → (l.take n ++ x :: l.drop (n + 1))[n]? = some x := by
  intro l x hl
  rw [List.getElem?_append, if_neg (by simp; omega)]
  have e : (l.take n).length = n := by simp; omega
  rw [e]; simp
 by_cases h0 : row = []
 ·subst h0
  simp only [q6O, ↓reduceIte] at hat hlk
  simp (disch := omega) [-Gh.run, Ff, hat, Q9, hn, hw, hlk47, hlen1]
  rw [show ∀ st, A2 st.env 8 = some (.t (tI n)) → (Gh.renS 47 100000 8).run st = q3O 47 (100000 + n) st from fun st hs => by simp [Gh.run, hs]]
  rw [fin (p := (i, k)) hn hn2 (by simp [Q9]; omega) (fun j hj => hset j hj _ _ Q9) (by rw [hseta _ _ Q9, hrow]; first | done | rfl) (by rw [hrow]; first | done | rfl) (by simp [A2]) (by rw [A2, if_neg (by omega), A2, if_neg (by omega)]; exact hlk) (fun t h1 h2 h3 => ?_) (fun q hq => ?_)]
  ·simpa [Bm, ren1, ren0, H8] using h
  ·rw [A2, if_neg (by omega), A2, if_neg (by omega), Ci, M3, if_pos (by omega)]
  ·rcases List.mem_cons.1 hq with rfl | hq
   ·exact .inl rfl
   ·rcases List.mem_cons.1 hq with rfl | hq
    ·exact .inr (.inl rfl)
    ·have := Yi q hq; exact .inr (.inr (by omega))
  ·rfl
 ·simp only [q6O, h0, ↓reduceIte] at hat hlk
  have h14 : ¬ 14 = 100000 + n := by omega
  have htl : ∀ t, A2 ((Ci rows).filter fun p => p.1 != 100000 + n) t = if t = 100000 + n then none else A2 (Ci rows) t := fun t => q5p (100000 + n) (Ci rows) t
  have hkl : ∀ l : List (Nat × B0), (∀ p ∈ l, p ∈ Ci rows) → l.map (fun p => (p.1, Ip (100000 + n) p.2)) = l := by
   intro l hl
   conv => rhs; rw [← List.map_id l]
   refine List.map_congr_left fun p hp => ?_
   obtain ⟨id, hid, hee⟩ := List.mem_filterMap.1 (hl p hp)
   cases hg : Ji rows id with
   | none => rw [hg] at hee; cases hee
   | some q =>
    rw [hg] at hee
    simp only [Option.map_some, Option.some.injEq] at hee; subst hee
    unfold Ji at hg
    split at hg
    ·split at hg
     ·cases hg
     ·simp only [Option.some.injEq] at hg; subst hg; rfl
    ·cases hg
  have hk : (del (100000 + n) ((14, B0.bx (Cb rows)) :: Ci rows)).map (fun p => (p.1, Ip (100000 + n) p.2)) = (14, .bx ((Cb rows).map (Bi (100000 + n)))) :: (Ci rows).filter fun p => p.1 != 100000 + n := by
   have e : del (100000 + n) ((14, B0.bx (Cb rows)) :: Ci rows) = (14, B0.bx (Cb rows)) :: (Ci rows).filter fun p => p.1 != 100000 + n := by
    unfold del
    rw [List.filter_cons, if_pos (by simp; omega)]
   rw [e, List.map_cons, hkl _ (fun p hp => (List.mem_filter.1 hp).1)]
   rfl
  have hl47 : A2 ((Ci rows).filter fun p => p.1 != 100000 + n) 47 = none := by rw [htl, if_neg (by omega)]; exact hlk47
  generalize htail : (Ci rows).filter (fun p => p.1 != 100000 + n) = tl at htl hk hl47
  have hkeys : ∀ q ∈ tl, 100000 ≤ q.1 ∧ q.1 < 116384 := by
   intro q hq
   rw [← htail] at hq
   have := Yi q (List.mem_filter.1 hq).1
   omega
  have hcs : ∀ j, j ≠ n → ((Cb rows).map (Bi (100000 + n)))[j]? = (Cb rows)[j]? := by
   intro j hj
   simp only [Cb, List.getElem?_map, List.getElem?_mapIdx, Option.map_map]
   cases rows[j]? with
   | none => rfl
   | some r =>
    simp only [Option.map_some, Function.comp_def, q6O]
    split
    ·rfl
    ·simp only [Bi, kill1]; rw [if_neg (by omega)]
  have hcl : ((Cb rows).map (Bi (100000 + n))).length = rows.length := by simp [Q9]
  simp (disch := omega) [-Gh.run, Ff, -del, -Ip, hat, Q9, hn, hw, hlk, hlen1, Aa, q8I, h14, hk, hl47]
  refine ⟨by omega, ?_⟩
  rw [show ∀ st, A2 st.env 8 = some (.t (tI n)) → (Gh.renS 47 100000 8).run st = q3O 47 (100000 + n) st from fun st hs => by simp [Gh.run, hs]]
  ·rw [fin (p := (i, k)) hn hn2 (by simp [hcl]; omega) (fun j hj => (hset j hj _ _ hcl).trans (hcs j hj)) (by rw [hseta _ _ hcl, hrow]) (by rw [hrow]; simp [A2]; rw [show [tI i, tI k] = tLn (i, k) from rfl, q1a]) (by simp [A2]) (by rw [A2, if_neg (by omega), A2, if_neg (by omega), htl, if_pos rfl]) (fun t h1 h2 h3 => ?_) (fun q hq => ?_)]
   ·simpa [Bm, ren1, ren0, H8] using h
   ·rw [A2, if_neg (by omega), A2, if_neg (by omega), htl, if_neg h3, Ci, M3, if_pos (by omega)]
   ·rcases List.mem_cons.1 hq with rfl | hq
    ·exact .inl rfl
    ·rcases List.mem_cons.1 hq with rfl | hq
     ·exact .inr (.inl rfl)
     ·exact .inr (.inr (hkeys q hq))
  ·rfl
def Iy (c : Ax) (i : Nat) : List Int → Nat → List L6 → List L6
 | [], _, rows => rows
 | n :: l, k, rows => Iy c i l (k + 1) (if Oa c n then rows else Ha rows n.toNat (i, k))
def Gn (c : Ax) : List Nd → Nat → List L6 → List L6
 | [], _, rows => rows
 | x :: l, i, rows => Gn c l (i + 1) (Iy c i x.inn.l 0 rows)
def RB (rows : List L6) (B : Nat) : Prop := ∀ r ∈ rows, r.length ≤ B
theorem RB.add {rows : List L6} {B n : Nat} {p : Int × Int} (h : RB rows B) : RB (Ha rows n p) (B + 1) := by
 intro r hr
 unfold Ha at hr
 by_cases hn : n < rows.length
 ·rcases List.mem_or_eq_of_mem_set hr with hr | rfl
  ·have := h r hr; omega
  ·have : (rows.getD n []).length ≤ B := by
    have e : rows.getD n [] = rows[n] := by simp [hn]
    rw [e]; exact h _ (List.getElem_mem hn)
   simp at this ⊢; omega
 ·rw [List.set_eq_of_length_le (by omega)] at hr
  have := h r hr; omega
theorem RB.mono {rows : List L6} {B C : Nat} (h : RB rows B) (hc : B ≤ C) : RB rows C := fun r hr => Nat.le_trans (h r hr) hc
theorem RB.at {rows : List L6} {B : Nat} (h : RB rows B) (n : Nat) : (rows.getD n []).length ≤ B := by
 by_cases hn : n < rows.length
 ·have e : rows.getD n [] = rows[n] := by simp [hn]
  rw [e]; exact h _ (List.getElem_mem hn)
 ·simp [List.getD, List.getElem?_eq_none (Nat.not_lt.1 hn)]
theorem Vh (c : Ax) (i : Nat) : ∀ (l : List Int) (k : Nat) (rows : List L6) (B : Nat), RB rows B → (Iy c i l k rows).length = rows.length ∧ RB (Iy c i l k rows) (B + l.length)
 | [], k, rows, B, h => ⟨rfl, h⟩
 | n :: l, k, rows, B, h => by
  simp only [Iy, List.length_cons]
  split
  ·have := Vh c i l (k + 1) rows B h
   exact ⟨this.1, this.2.mono (by omega)⟩
  ·have := Vh c i l (k + 1) _ (B + 1) (h.add (n := n.toNat) (p := (i, k)))
   exact ⟨this.1.trans q2p, this.2.mono (by omega)⟩
theorem q4T {Q : AX → St → Prop} (c : Ax) (hn : c.nodes.l.length ≤ 16384) (i : Nat) (s : Sl Int) (hs : s.l.length ≤ 1000000000) (R : List L6)
  (h0 : Q (.exit 2) ⟨[(3, .lb 14 c.nodes.l.length), (4, .t (.fn 154 [.ip (tC c) 0])), (5, .t (tI i)), (18, .t (A6 c.nodes)), (19, .t (tI c.nodes.l.length)), (20, .t (tI i)), (26, .t (Bl s)), (27, .t (tI s.l.length)), (28, .t (tI s.l.length)), (29, .t (tB false))], (14, .bx (Cb R)) :: Ci R⟩) :
  ∀ (kk k : Nat) (rows : List L6), kk + k = s.l.length → rows.length = c.nodes.l.length → (∀ n, (rows.getD n []).length + kk ≤ 1000000000) → Iy c i (s.l.drop k) k rows = R →
  run Tryz.prog Γ I0 Q ⟨[(3, .lb 14 c.nodes.l.length), (4, .t (.fn 154 [.ip (tC c) 0])), (5, .t (tI i)), (18, .t (A6 c.nodes)), (19, .t (tI c.nodes.l.length)), (20, .t (tI i)), (26, .t (Bl s)), (27, .t (tI s.l.length)), (28, .t (tI k))], (14, .bx (Cb rows)) :: Ci rows⟩
 | 0, k, rows, h, hl, hb, hR => by
  refine O6 fun K hK => ?_
  have h2 : ¬ k < s.l.length := by omega
  have h3 : k = s.l.length := by omega
  simp [h2, -Gh.run, Ff, Ub]
  subst h3
  rw [List.drop_of_length_le (Nat.le_refl _)] at hR
  simp only [Iy] at hR
  subst hR
  exact h0
 | kk + 1, k, rows, h, hl, hb, hR => by
  refine O6 fun K hK => ?_
  have h2 : k < s.l.length := by omega
  rw [List.drop_eq_getElem_cons h2] at hR
  simp only [Iy] at hR
  have e := Xy (Γ := Γ) c s.l[k] (by omega)
  simp (disch := omega) [h2, -Gh.run, Ff, Ub, -Ds, Bl, A1, C2 (0 : Int), A5]
  refine Vg e ?_
  by_cases ho : Oa c s.l[k] = true
  ·rw [if_pos ho] at hR
   simp (disch := omega) [ho, -Gh.run, Ff, Ub, -Ds, A4]
   rw [hK]
   have := q4T c hn i s hs R h0 kk (k + 1) rows (by omega) hl (fun n => by have := hb n; omega) hR
   simpa [Bl] using this
  ·have ho' : Oa c s.l[k] = false := by simpa using ho
   rw [if_neg ho] at hR
   have hr := Wm (c := c) (l := [s.l[k]]) (by simp [ho']) s.l[k] (by simp)
   simp (disch := omega) [ho', -Gh.run, Ff, Ub, -Ds]
   have hz : ((s.l[k]).toNat : Int) = s.l[k] := by omega
   have := qGo (Γ := Γ) (Q := Kv 3 (Aq (run Tryz.prog Γ (.reg Ky [.keepB [3, 4, 5, 18, 19, 20, 26, 27, 28] [14] 100000 16384]) (Aq (fun s => Aq K Q .normal (ghs [.keepB [3, 4, 5, 18, 19, 20, 26, 27, 28] [14] 100000 16384] s)) (Aq K Q))) (Aq (fun s => Aq K Q .normal (ghs [.keepB [3, 4, 5, 18, 19, 20, 26, 27, 28] [14] 100000 16384] s)) (Aq K Q)))) rows (s.l[k]).toNat (by omega) (by omega) i k (by have := hb (s.l[k]).toNat; omega)
    (.fn 154 [.ip (tC c) 0]) (A6 c.nodes) (tI c.nodes.l.length) (tI i) (.sl (Bo s.l) s.cap s.nl) (tI s.l.length) (tI k) (tB true) c.nodes.l.length hl.symm ?_
   ·rw [hz] at this; exact this
   ·simp (disch := omega) [-Gh.run, Ff, Ub, A4]
    rw [hK]
    have hbb : ∀ n, ((Ha rows (s.l[k]).toNat (i, k)).getD n []).length + kk ≤ 1000000000 := by
     intro n
     unfold Ha
     have h5 := hb n
     have h6 := hb (s.l[k]).toNat
     by_cases hq : n = (s.l[k]).toNat
     ·subst hq
      have hlt : (s.l[k]).toNat < rows.length := by omega
      simp [List.getD, List.getElem?_set, hlt] at h6 ⊢
      omega
     ·have : ¬ (s.l[k]).toNat = n := fun e => hq e.symm
      simp [List.getD, List.getElem?_set, this] at h5 ⊢
      omega
    have := q4T c hn i s hs R h0 kk (k + 1) (Ha rows (s.l[k]).toNat (i, k)) (by omega) (q2p.trans hl) hbb hR
    simpa [Bl] using this
theorem qEx {ks rs : List Nat} {st : St} : Gh.run (.keep ks rs) st = ⟨(Hu ((st.hp.map (·.1)).filter fun id => !rs.contains id) ⟨Lg.keep ks st.env, st.hp⟩).env, Lg.keep rs (Hu ((st.hp.map (·.1)).filter fun id => !rs.contains id) ⟨Lg.keep ks st.env, st.hp⟩).hp⟩ := rfl
theorem qDV {env : List (Nat × AV)} {ks : List Nat} {rows : List L6} {q : B0} : Gh.run (.keepB ks [6, 14] 100000 16384) ⟨env, (6, q) :: (14, .bx (Cb rows)) :: Ci rows⟩ = ⟨Lg.keep ks env, (6, q) :: (14, .bx (Cb rows)) :: Ci rows⟩ := by
 have hk : (((6, q) :: (14, B0.bx (Cb rows)) :: Ci rows).map (·.1)).filter (fun id => !([6, 14] : List Nat).contains id && !(decide (100000 ≤ id) && decide (id < 100000 + 16384))) = [] := by
  rw [List.filter_eq_nil_iff]
  intro id hid
  simp only [List.map_cons, List.mem_cons] at hid
  rcases hid with rfl | rfl | hid
  ·simp
  ·simp
  ·obtain ⟨p, hp, rfl⟩ := List.mem_map.1 hid
   have := Yi p hp
   simp; omega
 simp only [Gh.run, q5h, hk, Hu, q4P, q6F, A2, ↓reduceIte]
 simp only [show ¬ (6 = 14) by omega, ↓reduceIte, List.cons_append, List.nil_append]
 congr 3
 refine q7d fun t ht => ?_
 rw [List.mem_range'_1] at ht
 rw [A2, if_neg (by omega), q1c, if_neg (by omega), if_pos ⟨ht.1, by omega⟩]
theorem q6Q {Q : AX → St → Prop} (c : Ax) (hn : c.nodes.l.length ≤ 16384) (hi : ∀ x ∈ c.nodes.l, x.inn.l.length ≤ 16) (R : List L6)
  (h0 : Q (.exit 0) ⟨[(3, .lb 14 c.nodes.l.length), (4, .t (.fn 154 [.ip (tC c) 0])), (18, .t (A6 c.nodes)), (19, .t (tI c.nodes.l.length)), (20, .t (tI c.nodes.l.length)), (21, .t (tB false))], (14, .bx (Cb R)) :: Ci R⟩) :
  ∀ (kk i : Nat) (rows : List L6), kk + i = c.nodes.l.length → rows.length = c.nodes.l.length → RB rows (16 * i) → Gn c (c.nodes.l.drop i) i rows = R →
  run Tryz.prog Γ I1 Q ⟨[(3, .lb 14 c.nodes.l.length), (4, .t (.fn 154 [.ip (tC c) 0])), (18, .t (A6 c.nodes)), (19, .t (tI c.nodes.l.length)), (20, .t (tI i))], (14, .bx (Cb rows)) :: Ci rows⟩
 | 0, i, rows, h, hl, hb, hR => by
  refine O7 fun K hK => ?_
  have h2 : ¬ i < c.nodes.l.length := by omega
  have h3 : i = c.nodes.l.length := by omega
  simp [h2, -Gh.run, Ff, Ub]
  subst h3
  rw [List.drop_of_length_le (Nat.le_refl _)] at hR
  simp only [Gn] at hR
  subst hR
  exact h0
 | kk + 1, i, rows, h, hl, hb, hR => by
  refine O7 fun K hK => ?_
  have h2 : i < c.nodes.l.length := by omega
  rw [List.drop_eq_getElem_cons h2] at hR
  simp only [Gn] at hR
  have hx := hi _ (List.getElem_mem h2)
  have hlk6 : A2 (Ci rows) 6 = none := by rw [Ci, M3, if_neg (by omega)]
  simp (disch := omega) [h2, -Gh.run, Ff, Ub, qEw, qDV, A6, Aa, Dy Nd.d, Br, Fg, Bl, hlk6, A1]
  refine q4T c hn i c.nodes.l[i].inn (by omega) _ ?_ c.nodes.l[i].inn.l.length 0 rows (by omega) hl (fun n => by have := hb.at n; omega) rfl
  obtain ⟨hf1, hf2⟩ := Vh c i c.nodes.l[i].inn.l 0 rows (16 * i) hb
  simp (disch := omega) [-Gh.run, Ff, Ub, A4, List.drop_zero]
  rw [hK]
  have := q6Q c hn hi R h0 kk (i + 1) _ (by omega) (hf1.trans hl) (hf2.mono (by omega)) hR
  simpa [A6] using this
def Vi (r : L6) : T := .sl (Bc tLn r) (some r.length) (if r = [] then some true else none)
theorem qDW (r : L6) : Ae Tryz.prog Γ 139 [q79 r] (Vi r) := by
 unfold q79 Vi
 by_cases h : r = []
 ·subst h; simpa [Bc] using q7b (Γ := Γ) [] (some 0) (some true) qEt
 ·rw [if_neg h, if_neg h]
  have := q7b (Γ := Γ) (Bc tLn r) none none q8I
  rwa [Aa] at this
def Zl (rows : List L6) (i : Nat) : List AV := rows.mapIdx fun j r => .t (if j < i then Vi r else q79 r)
theorem q3X {rows : List L6} {i : Nat} : (Zl rows i).length = rows.length := by simp [Zl]
theorem qEy {rows : List L6} {i : Nat} (h : i < rows.length) : ((Zl rows i).drop i).take 1 = [.t (q79 rows[i])] := by
 rw [List.drop_eq_getElem_cons (by rw [q3X]; exact h)]
 simp [Zl]
theorem qCS {rows : List L6} {i : Nat} (h : i < rows.length) : (Zl rows i).take i ++ .t (Vi rows[i]) :: (Zl rows i).drop (i + 1) = Zl rows (i + 1) := by
 apply List.ext_getElem?
 intro j
 rw [List.getElem?_append]
 have e : ((Zl rows i).take i).length = i := by simp [q3X]; omega
 rw [e]
 by_cases h1 : j < i
 ·rw [if_pos h1, List.getElem?_take, if_pos h1]
  simp only [Zl, List.getElem?_mapIdx]
  cases rows[j]? with
  | none => rfl
  | some r => simp only [Option.map_some]; rw [if_pos h1, if_pos (by omega)]
 ·rw [if_neg h1]
  by_cases h2 : j = i
  ·subst h2
   simp [Zl, List.getElem?_eq_getElem h]
  ·rw [show j - i = (j - i - 1) + 1 by omega, List.getElem?_cons_succ, List.getElem?_drop]
   rw [show i + 1 + (j - i - 1) = j by omega]
   simp only [Zl, List.getElem?_mapIdx]
   cases rows[j]? with
   | none => rfl
   | some r => simp only [Option.map_some]; rw [if_neg h1, if_neg (by omega)]
theorem q7e {Q : AX → St → Prop} (rows : List L6) (hn : rows.length ≤ 16384)
  (h0 : Q (.exit 4) ⟨[(3, .lb 14 rows.length), (51, .lb 14 rows.length), (52, .t (tI rows.length)), (53, .t (tI rows.length)), (54, .t (tB false))], [(14, .bx (Zl rows rows.length))]⟩) :
  ∀ (kk i : Nat), kk + i = rows.length →
  run Tryz.prog Γ I2 Q ⟨[(3, .lb 14 rows.length), (51, .lb 14 rows.length), (52, .t (tI rows.length)), (53, .t (tI i))], [(14, .bx (Zl rows i))]⟩
 | 0, i, h => by
  refine O8 fun K hK => ?_
  have h2 : ¬ i < rows.length := by omega
  have h3 : i = rows.length := by omega
  simp [h2]
  subst h3
  exact h0
 | kk + 1, i, h => by
  refine O8 fun K hK => ?_
  have h2 : i < rows.length := by omega
  have h3 : i + 1 ≤ rows.length := h2
  have e := qDW (Γ := Γ) rows[i]
  have ho : (q79 rows[i]).one = true := by unfold q79; split <;> rfl
  simp (disch := omega) [h2, h3, qEy h2, q3X]
  refine A9 e rfl ?_
  simp (disch := omega) [h2, h3, q3X, A4, Vi]
  rw [hK]
  have := q7e rows hn h0 kk (i + 1) (by omega)
  rw [← qCS h2] at this
  simpa [Vi] using this
def Em (c : Ax) : List L6 := Gn c c.nodes.l 0 (List.replicate c.nodes.l.length [])
def q9I (rows : List L6) : T := .sl (Af Vi rows) (some rows.length) none
theorem q3Y (c : Ax) : ∀ (l : List Nd) (i : Nat) (rows : List L6), (Gn c l i rows).length = rows.length
 | [], _, _ => rfl
 | x :: l, i, rows => by
  simp only [Gn]
  rw [q3Y c l]
  exact (Vh c i x.inn.l 0 rows (rows.foldr (fun r m => r.length + m) 0) (by
   intro r hr
   induction rows with
   | nil => cases hr
   | cons y ys ih =>
    simp only [List.foldr_cons]
    rcases List.mem_cons.1 hr with rfl | hr
    ·omega
    ·have := ih hr; omega)).1
theorem Wn (c : Ax) : (Em c).length = c.nodes.l.length := by rw [Em, q3Y]; simp
theorem q9J (c : Ax) (hn : c.nodes.l.length ≤ 16384) (hi : ∀ x ∈ c.nodes.l, x.inn.l.length ≤ 16) : Ae Tryz.prog Γ 113 [.agg (tC c)] (q9I (Em c)) := by
 refine B5 q1t rfl ?_
 have eo := U9 (Γ := Γ) c
 have hR := Wn c
 have hk1 : ∀ (env : List (Nat × AV)) (ks : List Nat), Gh.run (.keepB ks [14] 100000 16384) ⟨env, [(14, .bx (List.replicate c.nodes.l.length (.t (.sl [] (some 0) (some true)))))]⟩ = ⟨Lg.keep ks env, (14, .bx (Cb (List.replicate c.nodes.l.length []))) :: Ci (List.replicate c.nodes.l.length [])⟩ := by
  intro env ks
  have hc : Cb (List.replicate c.nodes.l.length []) = List.replicate c.nodes.l.length (.t (.sl [] (some 0) (some true))) := by
   apply List.ext_getElem?
   intro j
   simp only [Cb, List.getElem?_mapIdx, List.getElem?_replicate]
   split <;> simp [q6O]
  refine q4R (by simp) (by simp [A2, hc]) fun t h1 h2 => ?_
  rw [A2, if_neg (by omega)]
  unfold Ji
  rw [List.getElem?_replicate]
  split <;> rename_i hq
  ·split at hq
   ·simp only [Option.some.injEq] at hq; subst hq; rfl
   ·cases hq
  ·rfl
 simp (disch := omega) [V8, tC, A6, A8, Ad, Bl, Aa, -Gh.run, Ff, qEx, hk1, A4]
 refine ⟨by omega, ?_⟩
 refine A9 eo rfl ?_
 simp (disch := omega) [-Gh.run, Ff, Ub, Aa]
 have hp0 : RB (List.replicate c.nodes.l.length []) (16 * 0) := by
  intro r hr; rw [List.eq_of_mem_replicate hr]; simp
 refine q6Q c hn hi (Em c) ?_ c.nodes.l.length 0 (List.replicate c.nodes.l.length []) (by omega) (by simp) hp0 rfl
 generalize Em c = R at hR
 rw [← hR]
 simp (disch := omega) [-Gh.run, Ff]
 rw [qDT (by omega) (fun id r h p hp => by
  simp only [List.mem_cons, List.not_mem_nil, or_false] at hp
  have h14 : ¬ 14 = id := by omega
  rcases hp with rfl | rfl | rfl | rfl | rfl | rfl | rfl | rfl | rfl <;> simp [Dl, frz1, frz0, h14])]
 have hmix : (R.map fun r => AV.t (q79 r)) = Zl R 0 := by
  apply List.ext_getElem?
  intro j
  simp only [List.getElem?_map, Zl, List.getElem?_mapIdx]
  cases R[j]? <;> simp
 rw [hmix]
 simp
 refine q7e R (by omega) ?_ R.length 0 (by omega)
 have hfin : Zl R R.length = (R.map Vi).map .t := by
  apply List.ext_getElem?
  intro j
  simp only [List.getElem?_map, Zl, List.getElem?_mapIdx, Option.map_map]
  cases hj : R[j]? with
  | none => rfl
  | some r =>
   have := (List.getElem?_eq_some_iff.1 hj).1
   simp only [Option.map_some, Function.comp_def]
   rw [if_pos this]
 have hopt : Ak ((Zl R R.length).map (Ag [(14, .bx (Zl R R.length))] 3)) = some (R.map Vi) := by
  conv => lhs; rw [hfin]
  rw [List.map_map]
  have : (R.map Vi).map (Ag [(14, .bx ((R.map Vi).map .t))] 3 ∘ AV.t) = (R.map Vi).map fun t => some t := List.map_congr_left fun t _ => by simp [Ag]
  rw [this]; exact Wj
 simp [V9, q9I, hopt, Af]
end Go.Lg
namespace Go.Lg
open Go Go.Proofs
def Wp (N : Nat) (rows : List L6) : Prop := ∀ r ∈ rows, ∀ p ∈ r, ∃ i : Nat, i < N ∧ p.1 = i
theorem Wp.add {N : Nat} {rows : List L6} {n i : Nat} {k : Int} (h : Wp N rows) (hi : i < N) : Wp N (Ha rows n (i, k)) := by
 intro r hr p hp
 unfold Ha at hr
 by_cases hn : n < rows.length
 ·rcases List.mem_or_eq_of_mem_set hr with hr | rfl
  ·exact h r hr p hp
  ·rcases List.mem_append.1 hp with hp | hp
   ·have e : rows.getD n [] = rows[n] := by simp [hn]
    rw [e] at hp
    exact h _ (List.getElem_mem hn) p hp
   ·simp at hp; subst hp; exact ⟨i, hi, rfl⟩
 ·rw [List.set_eq_of_length_le (by omega)] at hr
  exact h r hr p hp
theorem q2q {N : Nat} (c : Ax) (i : Nat) (hi : i < N) : ∀ (l : List Int) (k : Nat) (rows : List L6), Wp N rows → Wp N (Iy c i l k rows)
 | [], _, _, h => h
 | n :: l, k, rows, h => by
  simp only [Iy]
  split
  ·exact q2q c i hi l (k + 1) rows h
  ·exact q2q c i hi l (k + 1) _ (h.add hi)
theorem q4z {N : Nat} (c : Ax) : ∀ (l : List Nd) (i : Nat) (rows : List L6), i + l.length ≤ N → Wp N rows → Wp N (Gn c l i rows)
 | [], _, _, _, h => h
 | x :: l, i, rows, hl, h => by
  simp only [Gn]
  simp at hl
  exact q4z c l (i + 1) _ (by omega) (q2q c i (by omega) _ _ _ h)
theorem q2r (c : Ax) : Wp c.nodes.l.length (Em c) := by
 refine q4z c c.nodes.l 0 _ (by omega) fun r hr p hp => ?_
 rw [List.eq_of_mem_replicate hr] at hp; cases hp
theorem q50 (c : Ax) : ∀ (l : List Nd) (i B : Nat) (rows : List L6), (∀ x ∈ l, x.inn.l.length ≤ 16) → RB rows B → RB (Gn c l i rows) (B + 16 * l.length)
 | [], _, _, _, _, h => h
 | x :: l, i, B, rows, hl, h => by
  simp only [Gn, List.length_cons]
  have h1 := (Vh c i x.inn.l 0 rows B h).2
  have h2 := hl x List.mem_cons_self
  exact (q50 c l (i + 1) (B + 16) _ (fun y hy => hl y (List.mem_cons_of_mem _ hy)) (h1.mono (by omega))).mono (by omega)
theorem qAi (c : Ax) (hn : c.nodes.l.length ≤ 16384) (hi : ∀ x ∈ c.nodes.l, x.inn.l.length ≤ 16) : RB (Em c) 262144 := by
 refine (q50 c c.nodes.l 0 0 _ hi fun r hr => ?_).mono (by omega)
 rw [List.eq_of_mem_replicate hr]; simp
structure LS where
 out : List Int
 left : List Int
 rdy : List Int
def Da (k : Int) : Bool := decide (1 ≤ k ∧ k ≤ 13)
def An (c : Ax) (j : Nat) : Int := (c.nodes.l.getD j Nd.d).k
def Do (c : Ax) (n : Nat) (s : LS) (p : Int × Int) : LS :=
 if Da (An c p.1.toNat) then
  ⟨s.out.set p.1.toNat (max (s.out.getD p.1.toNat 0) (s.out.getD n 0 + 1)), s.left.set p.1.toNat (s.left.getD p.1.toNat 0 - 1), if s.left.getD p.1.toNat 0 - 1 = 0 then s.rdy ++ [p.1] else s.rdy⟩
 else s
def G4 (c : Ax) (n : Nat) : L6 := (Em c).getD n []
def Kp (c : Ax) : Nat → Nat → LS → Nat × LS
 | 0, d, s => (d, s)
 | f + 1, d, s => if d < s.rdy.length then Kp c f (d + 1) ((G4 c (s.rdy.getD d 0).toNat).foldl (Do c (s.rdy.getD d 0).toNat) s) else (d, s)
def Db (x : Nd) : Int := if Da x.k then x.inn.l.length else 0
def Df : List Nd → Nat → List Int
 | [], _ => []
 | x :: l, i => if Db x = 0 then (i : Int) :: Df l (i + 1) else Df l (i + 1)
def He (c : Ax) : LS := ⟨List.replicate c.nodes.l.length 0, c.nodes.l.map Db, Df c.nodes.l 0⟩
def M4 (c : Ax) : Nat × LS := Kp c (c.nodes.l.length + 1) 0 (He c)
structure LI (N M : Nat) (s : LS) : Prop where
 lo : s.out.length = N
 ll : s.left.length = N
 rd : ∀ j ∈ s.rdy, ∃ i : Nat, i < N ∧ j = i ∧ s.left.getD i 0 ≤ 0
 nd : s.rdy.Nodup
 bo : ∀ i, 0 ≤ s.out.getD i 0 ∧ s.out.getD i 0 ≤ M
 bl : ∀ i, -(M : Int) ≤ s.left.getD i 0 ∧ s.left.getD i 0 ≤ 1000
theorem q7f {N : Nat} {l : List Int} (h : l.Nodup) (hb : ∀ j ∈ l, ∃ i : Nat, i < N ∧ j = i) : l.length ≤ N := by
 have h1 : (l.map Int.toNat).Nodup := by
  rw [List.nodup_iff_pairwise_ne] at h ⊢
  rw [List.pairwise_map]
  refine h.imp_of_mem fun {a b} ha hb' hne e => hne ?_
  obtain ⟨i, _, rfl⟩ := hb a ha
  obtain ⟨j, _, rfl⟩ := hb b hb'
  have : i = j := by simpa using e
  rw [this]
 have h2 : (l.map Int.toNat) ⊆ List.range N := by
  intro j hj
  obtain ⟨a, ha, rfl⟩ := List.mem_map.1 hj
  obtain ⟨i, hi, rfl⟩ := hb a ha
  simpa using hi
 have := (List.Nodup.length_le_of_subset h1 h2)
 simpa using this
theorem LI.len {N M : Nat} {s : LS} (h : LI N M s) : s.rdy.length ≤ N := q7f h.nd fun j hj => by obtain ⟨i, h1, h2, _⟩ := h.rd j hj; exact ⟨i, h1, h2⟩
theorem Hf {l : List Int} {j i : Nat} {v : Int} (hj : j < l.length) : (l.set j v).getD i 0 = if i = j then v else l.getD i 0 := by
 simp only [List.getD, List.getElem?_set]
 by_cases h : j = i
 ·subst h; simp [hj]
 ·simp [h, Ne.symm h]
theorem LI.step {N M : Nat} {c : Ax} {s : LS} {n i : Nat} {k : Int} (h : LI N M s) (hi : i < N) : LI N (M + 1) (Do c n s (i, k)) := by
 unfold Do
 simp only [Int.toNat_natCast]
 split
 case isFalse => exact ⟨h.lo, h.ll, h.rd, h.nd, fun j => ⟨(h.bo j).1, by have := (h.bo j).2; omega⟩, fun j => ⟨by have := (h.bl j).1; omega, (h.bl j).2⟩⟩
 refine ⟨by simp [h.lo], by simp [h.ll], ?_, ?_, ?_, ?_⟩
 ·intro j hj
  have old : ∀ j ∈ s.rdy, ∃ i0 : Nat, i0 < N ∧ j = i0 ∧ (s.left.set i (s.left.getD i 0 - 1)).getD i0 0 ≤ 0 := by
   intro j hj
   obtain ⟨i0, h1, h2, h3⟩ := h.rd j hj
   refine ⟨i0, h1, h2, ?_⟩
   rw [Hf (by rw [h.ll]; exact hi)]
   split
   ·rename_i e; subst e; omega
   ·exact h3
  split at hj
  ·rename_i hz
   rcases List.mem_append.1 hj with hj | hj
   ·exact old j hj
   ·simp at hj; subst hj
    refine ⟨i, hi, rfl, ?_⟩
    rw [Hf (by rw [h.ll]; exact hi), if_pos rfl]; omega
  ·exact old j hj
 ·split
  ·rename_i hz
   rw [List.nodup_append]
   refine ⟨h.nd, by simp, ?_⟩
   intro a ha b hb e
   simp at hb; subst hb; subst e
   obtain ⟨i0, h1, h2, h3⟩ := h.rd _ ha
   have : i = i0 := by omega
   subst this
   omega
  ·exact h.nd
 ·intro j
  rw [Hf (by rw [h.lo]; exact hi)]
  have h1 := h.bo j
  have h2 := h.bo i
  have h3 := h.bo n
  split
  ·rename_i e
   omega
  ·omega
 ·intro j
  rw [Hf (by rw [h.ll]; exact hi)]
  have h1 := h.bl j
  have h2 := h.bl i
  split <;> omega
theorem LI.fold {N : Nat} {c : Ax} {n : Nat} : ∀ {r : L6} {s : LS} {M : Nat}, LI N M s → (∀ p ∈ r, ∃ i : Nat, i < N ∧ p.1 = i) → LI N (M + r.length) (r.foldl (Do c n) s)
 | [], _, _, h, _ => h
 | p :: r, s, M, h, hr => by
  obtain ⟨i, hi, he⟩ := hr p List.mem_cons_self
  obtain ⟨p1, p2⟩ := p
  simp only at he; subst he
  have := LI.fold (c := c) (n := n) (h.step (c := c) (n := n) (k := p2) hi) fun q hq => hr q (List.mem_cons_of_mem _ hq)
  simp only [List.foldl_cons, List.length_cons]
  rw [show M + (r.length + 1) = M + 1 + r.length by omega]
  exact this
theorem q2s : ∀ (l : List Nd) (i : Nat), (∀ j ∈ Df l i, ∃ a : Nat, i ≤ a ∧ a < i + l.length ∧ j = a ∧ (l.map Db).getD (a - i) 0 = 0) ∧ (Df l i).Nodup
 | [], _ => ⟨fun j h => (by cases h), List.nodup_nil⟩
 | x :: l, i => by
  obtain ⟨h1, h2⟩ := q2s l (i + 1)
  have h3 : ∀ j ∈ Df l (i + 1), ∃ a : Nat, i ≤ a ∧ a < i + (l.length + 1) ∧ j = a ∧ ((x :: l).map Db).getD (a - i) 0 = 0 := by
   intro j hj
   obtain ⟨a, e1, e2, e3, e4⟩ := h1 j hj
   refine ⟨a, by omega, by omega, e3, ?_⟩
   rw [show a - i = (a - (i + 1)) + 1 by omega]
   simpa using e4
  simp only [Df, List.length_cons]
  split
  ·rename_i hz
   refine ⟨fun j hj => ?_, ?_⟩
   ·rcases List.mem_cons.1 hj with rfl | hj
    ·exact ⟨i, by omega, by omega, rfl, by simp [hz]⟩
    ·exact h3 j hj
   ·rw [List.nodup_cons]
    refine ⟨fun hm => ?_, h2⟩
    obtain ⟨a, e1, _, e3, _⟩ := h1 _ hm
    omega
  ·exact ⟨h3, h2⟩
theorem q9K (c : Ax) (hi : ∀ x ∈ c.nodes.l, x.inn.l.length ≤ 16) : LI c.nodes.l.length 0 (He c) := by
 obtain ⟨h1, h2⟩ := q2s c.nodes.l 0
 refine ⟨by simp [He], by simp [He], fun j hj => ?_, h2, fun i => ?_, fun i => ?_⟩
 ·obtain ⟨a, _, e2, e3, e4⟩ := h1 j hj
  exact ⟨a, by omega, e3, by simp only [Nat.sub_zero] at e4; simp only [He]; omega⟩
 ·simp only [He, List.getD, List.getElem?_replicate]
  split <;> simp
 ·simp only [He, List.getD, List.getElem?_map]
  cases hx : c.nodes.l[i]? with
  | none => simp
  | some x =>
   have := hi x (List.mem_of_getElem? hx)
   simp only [Option.map_some, Option.getD_some, Db]
   split <;> simp <;> omega
end Go.Lg
namespace Go.Lg
open Go Go.Proofs
variable {Γ : Tables}
theorem q3Z {α : Type} {f : α → T} {l : List α} {j : Nat} {x : α} (h : j < l.length) : (Af f (l.set j x))[j]?.getD [] = [f x] := by simp [Af, h]
theorem qEz {r : L6} {i : Nat} (h : i < r.length) : (Bc tLn r)[i]?.getD [] = tLn r[i] := by simp [Bc, h]
def lsH (s : LS) : List (Nat × B0) := [(23, .sl 3 1 (Bo s.out)), (27, .sl 3 1 (Bo s.left)), (53, .sl 3 1 (Bo s.rdy))]
theorem q2t {Q : AX → St → Prop} (c : Ax) (hc : CirOk c) (hn : c.nodes.l.length ≤ 16384) (n : Nat) (hnn : n < c.nodes.l.length) (d : Int) (r : L6) (nl : Option Bool) (hr : r.length ≤ 262144) (hin : ∀ p ∈ r, ∃ i : Nat, i < c.nodes.l.length ∧ p.1 = i) (Q8 : T) (S : LS)
  (h0 : Q (.exit 4) ⟨[(1, .t (.ip (tC c) 0)), (5, .ls 23 0 c.nodes.l.length none), (6, .ls 27 0 c.nodes.l.length none), (7, .ls 53 0 S.rdy.length none), (10, .t Q8), (11, .t (tI d)), (12, .t (tI n)), (76, .t (.sl (Bc tLn r) (some r.length) nl)), (77, .t (tI r.length)), (78, .t (tI r.length)), (79, .t (tB false))], lsH S⟩) :
  ∀ (kk k : Nat) (s : LS) (M : Nat), kk + k = r.length → LI c.nodes.l.length M s → M + kk ≤ 4611686018427387904 → (r.drop k).foldl (Do c n) s = S →
  run Tryz.prog Γ Hw Q ⟨[(1, .t (.ip (tC c) 0)), (5, .ls 23 0 c.nodes.l.length none), (6, .ls 27 0 c.nodes.l.length none), (7, .ls 53 0 s.rdy.length none), (10, .t Q8), (11, .t (tI d)), (12, .t (tI n)), (76, .t (.sl (Bc tLn r) (some r.length) nl)), (77, .t (tI r.length)), (78, .t (tI k))], lsH s⟩
 | 0, k, s, M, h, hI, hM, hS => by
  refine O4 fun K hK => ?_
  have h2 : ¬ k < r.length := by omega
  have h3 : k = r.length := by omega
  simp [h2, lsH]
  subst h3
  rw [List.drop_of_length_le (Nat.le_refl _)] at hS
  simp only [List.foldl_nil] at hS
  subst hS
  exact h0
 | kk + 1, k, s, M, h, hI, hM, hS => by
  refine O4 fun K hK => ?_
  have h2 : k < r.length := by omega
  rw [List.drop_eq_getElem_cons h2] at hS
  simp only [List.foldl_cons] at hS
  obtain ⟨j, hj, hpj⟩ := hin _ (List.getElem_mem h2)
  have hstep := hI.step (c := c) (n := n) (k := r[k].2) hj
  have hpair : r[k] = ((j : Int), r[k].2) := by rw [← hpj]
  rw [hpair] at hS
  generalize r[k].2 = q at hS hstep hpair
  have e := q1b (Γ := Γ) c.nodes.l[j].k
  have hkind : An c j = c.nodes.l[j].k := by simp [An, hj]
  simp (disch := omega) [h2, lsH, Aa, qEz h2, q8I, hpair, tLn, tC, A6, Dy Nd.d, Br, Fg, Bl, hj]
  refine A0 e rfl ?_
  by_cases hcb : Da c.nodes.l[j].k = true
  case neg =>
   have hcb' : decide (1 ≤ c.nodes.l[j].k ∧ c.nodes.l[j].k ≤ 13) = false := by simpa [Da] using hcb
   have hcb2 : Da (An c j) = false := by rw [hkind]; exact hcb'
   have hst : Do c n s ((j : Int), q) = s := by unfold Do; simp [hcb2]
   rw [hst] at hS hstep
   rw [hcb']
   simp (disch := omega) [A4]
   rw [hK]
   have := q2t c hc hn n hnn d r nl hr hin Q8 S h0 kk (k + 1) s (M + 1) (by omega) hstep (by omega) hS
   simpa [lsH, tC, A6, Bl] using this
  have hcb' : decide (1 ≤ c.nodes.l[j].k ∧ c.nodes.l[j].k ≤ 13) = true := by simpa [Da] using hcb
  have hcb2 : Da (An c j) = true := by rw [hkind]; exact hcb'
  rw [hcb']
  have ho := hI.lo
  have hll := hI.ll
  have b1 := hI.bo n
  have b2 := hI.bo j
  have b3 := hI.bl j
  have hrl := hI.len
  have hst : Do c n s ((j : Int), q) = ⟨s.out.set j (max (s.out.getD j 0) (s.out.getD n 0 + 1)), s.left.set j (s.left.getD j 0 - 1), if s.left.getD j 0 - 1 = 0 then s.rdy ++ [(j : Int)] else s.rdy⟩ := by
   unfold Do; simp [hcb2]
  have hw : E4 1 [[tI (j : Int)]] := by intro e he; simp at he; subst he; rfl
  have hmax : max (s.out.getD j 0) (s.out.getD n 0 + 1) = if s.out.getD j 0 < s.out.getD n 0 + 1 then s.out.getD n 0 + 1 else s.out.getD j 0 := by
   split <;> omega
  have ih := fun S2 (e : S2 = Do c n s ((j : Int), q)) => q2t c hc hn n hnn d r nl hr hin Q8 S h0 kk (k + 1) S2 (M + 1) (by omega) (e ▸ hstep) (by omega) (e ▸ hS)
  have ljo : j < s.out.length := by omega
  have lno : n < s.out.length := by omega
  have ljl : j < s.left.length := by omega
  simp only [List.getD, List.getElem?_eq_getElem ljo, List.getElem?_eq_getElem lno, List.getElem?_eq_getElem ljl, Option.getD_some] at b1 b2 b3 hst hmax
  have b1a := b1.1
  have b1b := b1.2
  have b2a := b2.1
  have b2b := b2.2
  have b3a := b3.1
  have b3b := b3.2
  simp (disch := omega) [A4, A1, C2 (0 : Int), A5, Ep, ljo, lno, ljl, hj, hnn]
  rw [show (if s.out[j] < s.out[n] + 1 then s.out[n] + 1 else s.out[j]) = max s.out[j] (s.out[n] + 1) from hmax.symm]
  by_cases hz : s.left[j] - 1 = 0
  ·rw [if_pos hz] at hst
   have ih' := ih _ hst.symm
   simp (disch := omega) [hz, A4, A1, A5, hw, q3Z]
   refine ⟨by omega, ?_⟩
   rw [hK]
   rw [E0 (f := tI) (x := (j : Int))]
   simpa [lsH, tC, A6, Bl, hz] using ih'
  ·rw [if_neg hz] at hst
   have ih' := ih _ hst.symm
   simp (disch := omega) [hz, A4, q3Z, A5]
   rw [hK]
   simpa [lsH, tC, A6, Bl] using ih'
theorem q7g {Q : AX → St → Prop} (c : Ax) (hc : CirOk c) (hn : c.nodes.l.length ≤ 16384) (hi : ∀ x ∈ c.nodes.l, x.inn.l.length ≤ 16) (R : Nat × LS)
  (h0 : Q (.exit 2) ⟨[(1, .t (.ip (tC c) 0)), (5, .ls 23 0 c.nodes.l.length none), (6, .ls 27 0 c.nodes.l.length none), (7, .ls 53 0 R.2.rdy.length none), (10, .t (q9I (Em c))), (11, .t (tI R.1)), (60, .t (tB false))], lsH R.2⟩) :
  ∀ (f d : Nat) (s : LS) (M : Nat), f + d = c.nodes.l.length + 1 → LI c.nodes.l.length M s → M = d * 262144 → Kp c f d s = R →
  run Tryz.prog Γ Hy Q ⟨[(1, .t (.ip (tC c) 0)), (5, .ls 23 0 c.nodes.l.length none), (6, .ls 27 0 c.nodes.l.length none), (7, .ls 53 0 s.rdy.length none), (10, .t (q9I (Em c))), (11, .t (tI d))], lsH s⟩
 | 0, d, s, M, h, hI, hM, hR => by
  refine O5 fun K hK => ?_
  have hlen := hI.len
  have h2 : ¬ d < s.rdy.length := by omega
  simp [h2, lsH]
  simp only [Kp] at hR
  subst hR
  exact h0
 | f + 1, d, s, M, h, hI, hM, hR => by
  refine O5 fun K hK => ?_
  have hlen := hI.len
  by_cases h2 : d < s.rdy.length
  case neg =>
   simp [h2, lsH]
   simp only [Kp, h2, ↓reduceIte] at hR
   subst hR
   exact h0
  simp only [Kp, h2, ↓reduceIte] at hR
  obtain ⟨j, hj, he, hz⟩ := hI.rd _ (List.getElem_mem h2)
  have hgd : s.rdy.getD d 0 = (j : Int) := by simp [h2, he]
  rw [hgd] at hR
  simp only [Int.toNat_natCast] at hR
  have hfr := Wn c
  have hrl : G4 c j ∈ Em c := by
   have e : G4 c j = (Em c)[j]'(by omega) := by simp [G4, hfr, hj]
   rw [e]; exact List.getElem_mem _
  have hin := q2r c _ hrl
  have hrb := qAi c hn hi _ hrl
  have hfold := hI.fold (c := c) (n := j) hin
  have hel : (Em c)[j]? = some (G4 c j) := by
   have hlt : j < (Em c).length := by omega
   simp [G4, hlt]
  have hrt : Vi (G4 c j) = .sl (Bc tLn (G4 c j)) (some (G4 c j).length) (if G4 c j = [] then some true else none) := rfl
  have hg1 : (Af Vi (Em c))[j]?.getD [] = [Vi (G4 c j)] := by simp [Af, hel]
  have hM2 : LI c.nodes.l.length ((d + 1) * 262144) ((G4 c j).foldl (Do c j) s) := ⟨hfold.lo, hfold.ll, hfold.rd, hfold.nd, fun i => ⟨(hfold.bo i).1, by have := (hfold.bo i).2; omega⟩, fun i => ⟨by have := (hfold.bl i).1; omega, (hfold.bl i).2⟩⟩
  have ih := q7g c hc hn hi R h0 f (d + 1) _ _ (by omega) hM2 rfl hR
  have hrdy : (s.rdy)[d]?.getD 0 = (j : Int) := by simpa using hgd
  simp (disch := omega) [h2, lsH, A1, C2 (0 : Int), A5, A4, he, q9I, hfr, hj, hg1, hrt, Aa]
  by_cases hr0 : (G4 c j).length = 0
  ·have hr0' : G4 c j = [] := List.eq_nil_of_length_eq_zero hr0
   simp [hr0', B6]
   rw [hK]
   rw [hr0'] at ih
   simp only [List.foldl_nil, q9I, hfr, lsH] at ih
   exact_mod_cast ih
  ·have hr0' : ¬ G4 c j = [] := fun e => hr0 (by simp [e])
   simp (disch := omega) [B6, hr0', lsH, A1, C2 (0 : Int), A5, A4, he, q9I, hfr, hj, hg1, hrt, Aa]
   refine q2t c hc hn j hj ((d : Int) + 1) (G4 c j) _ (by omega) hin _ _ ?_ (G4 c j).length 0 s M (by omega) hI (by omega) rfl
   simp [lsH]
   rw [hK]
   simp only [q9I, hfr, lsH] at ih
   exact_mod_cast ih
theorem q3a (x : Nd) : ∀ (l : List Nd) (i : Nat), Df (l ++ [x]) i = if Db x = 0 then Df l i ++ [((i + l.length : Nat) : Int)] else Df l i
 | [], i => by simp [Df]
 | y :: l, i => by
  have := q3a x l (i + 1)
  simp only [List.cons_append, Df, this, List.length_cons]
  rw [show i + 1 + l.length = i + (l.length + 1) by omega]
  split <;> split <;> rfl
theorem q51 : ∀ (l : List Nd) (i : Nat), (Df l i).length ≤ l.length
 | [], _ => by simp [Df]
 | x :: l, i => by
  have := q51 l (i + 1)
  simp only [Df]
  split <;> simp <;> omega
def Jk (c : Ax) (i : Nat) : List Int := (c.nodes.l.take i).map Db ++ List.replicate (c.nodes.l.length - i) 0
theorem q6R {c : Ax} {i : Nat} (h : i ≤ c.nodes.l.length) : (Jk c i).length = c.nodes.l.length := by simp [Jk]; omega
theorem q2u {c : Ax} {i : Nat} (h : i < c.nodes.l.length) : (Jk c i).set i (Db c.nodes.l[i]) = Jk c (i + 1) := by
 unfold Jk
 have e1 : ((c.nodes.l.take i).map Db).length = i := by simp; omega
 rw [List.set_append_right _ _ (by rw [e1]; exact Nat.le_refl i), e1, Nat.sub_self]
 rw [show c.nodes.l.length - i = (c.nodes.l.length - (i + 1)) + 1 by omega, List.replicate_succ, List.set_cons_zero]
 have e3 : (c.nodes.l.map Db).take (i + 1) = (c.nodes.l.map Db).take i ++ [Db c.nodes.l[i]] := by rw [List.take_add_one]; simp [h]
 simp [e3]
theorem q9L {c : Ax} {i : Nat} (h : i < c.nodes.l.length) (h0 : Db c.nodes.l[i] = 0) : Jk c i = Jk c (i + 1) := by
 unfold Jk
 rw [show c.nodes.l.length - i = (c.nodes.l.length - (i + 1)) + 1 by omega, List.replicate_succ]
 have e3 : (c.nodes.l.map Db).take (i + 1) = (c.nodes.l.map Db).take i ++ [Db c.nodes.l[i]] := by rw [List.take_add_one]; simp [h]
 simp [e3, h0]
theorem q7h {Q : AX → St → Prop} (c : Ax) (hn : c.nodes.l.length ≤ 16384) (hi : ∀ x ∈ c.nodes.l, x.inn.l.length ≤ 16) (out : List Int)
  (h0 : Q (.exit 0) ⟨[(1, .t (.ip (tC c) 0)), (5, .ls 23 0 c.nodes.l.length none), (6, .ls 27 0 c.nodes.l.length none), (7, .ls 53 0 (Df c.nodes.l 0).length none), (29, .t (A6 c.nodes)), (30, .t (tI c.nodes.l.length)), (31, .t (tI c.nodes.l.length)), (32, .t (tB false))], [(23, .sl 3 1 (Bo out)), (27, .sl 3 1 (Bo (c.nodes.l.map Db))), (53, .sl 3 1 (Bo (Df c.nodes.l 0)))]⟩) :
  ∀ (kk i : Nat), kk + i = c.nodes.l.length →
  run Tryz.prog Γ Hv Q ⟨[(1, .t (.ip (tC c) 0)), (5, .ls 23 0 c.nodes.l.length none), (6, .ls 27 0 c.nodes.l.length none), (7, .ls 53 0 (Df (c.nodes.l.take i) 0).length none), (29, .t (A6 c.nodes)), (30, .t (tI c.nodes.l.length)), (31, .t (tI i))], [(23, .sl 3 1 (Bo out)), (27, .sl 3 1 (Bo (Jk c i))), (53, .sl 3 1 (Bo (Df (c.nodes.l.take i) 0)))]⟩
 | 0, i, h => by
  refine O3 fun K hK => ?_
  have h2 : ¬ i < c.nodes.l.length := by omega
  have h3 : i = c.nodes.l.length := by omega
  simp [h2]
  subst h3
  simpa [Jk] using h0
 | kk + 1, i, h => by
  refine O3 fun K hK => ?_
  have h2 : i < c.nodes.l.length := by omega
  have hx := hi _ (List.getElem_mem h2)
  have ht : c.nodes.l.take (i + 1) = c.nodes.l.take i ++ [c.nodes.l[i]] := by rw [List.take_add_one]; simp [h2]
  have htl : (c.nodes.l.take i).length = i := by simp; omega
  have hrl := q51 (c.nodes.l.take i) 0
  have hll := q6R (c := c) (i := i) (by omega)
  have hll1 := q6R (c := c) (i := i + 1) (by omega)
  have hsn := q3a c.nodes.l[i] (c.nodes.l.take i) 0
  rw [← ht, htl, Nat.zero_add] at hsn
  have e := q1b (Γ := Γ) c.nodes.l[i].k
  have ih := q7h c hn hi out h0 kk (i + 1) (by omega)
  have hw : E4 1 [[tI (i : Int)]] := by intro e he; simp at he; subst he; rfl
  simp (disch := omega) [h2, Aa, Dy Nd.d, Br, A6, Fg, Bl, -Es]
  refine A0 e rfl ?_
  have tail : ∀ (lf : List Int), lf = Jk c (i + 1) → run Tryz.prog Γ (.seq (.reg Es [.keep [1, 5, 6, 7, 8, 29, 30, 31, 49] [23, 27, 53]]) (.cond (.tmp 49) (.reg Kw [.keep [1, 5, 6, 7, 29, 30, 31] [23, 27, 53]]) .skip))
    (Kv 1 (Aq (run Tryz.prog Γ (.reg Kx [.keep [1, 5, 6, 7, 29, 30, 31] [23, 27, 53]]) (Aq (fun s => Aq K Q .normal (ghs [.keep [1, 5, 6, 7, 29, 30, 31] [23, 27, 53]] s)) (Aq K Q))) (Aq (fun s => Aq K Q .normal (ghs [.keep [1, 5, 6, 7, 29, 30, 31] [23, 27, 53]] s)) (Aq K Q))))
    ⟨[(1, .t (.ip (tC c) 0)), (5, .ls 23 0 c.nodes.l.length none), (6, .ls 27 0 c.nodes.l.length none), (7, .ls 53 0 (Df (c.nodes.l.take i) 0).length none), (8, .t (tI i)), (29, .t (A6 c.nodes)), (30, .t (tI c.nodes.l.length)), (31, .t (tI i))], [(23, .sl 3 1 (Bo out)), (27, .sl 3 1 (Bo lf)), (53, .sl 3 1 (Bo (Df (c.nodes.l.take i) 0)))]⟩ := by
   rintro lf rfl
   have hget : (Jk c (i + 1))[i]?.getD 0 = Db c.nodes.l[i] := by
    rw [← q2u h2]
    simp [hll, h2]
   have hge := hget
   rw [List.getElem?_eq_getElem (by rw [hll1]; exact h2), Option.getD_some] at hge
   by_cases hz : Db c.nodes.l[i] = 0
   ·rw [if_pos hz] at hsn
    simp (disch := omega) [h2, A1, C2 (0 : Int), A5, hll1, hge, hz, hw, A4]
    refine ⟨by omega, ?_⟩
    rw [hK]
    rw [hsn] at ih
    rw [E0 (f := tI) (x := (i : Int))]
    simpa using ih
   ·rw [if_neg hz] at hsn
    simp (disch := omega) [h2, A1, C2 (0 : Int), A5, hll1, hge, hz, A4]
    rw [hK]
    rw [hsn] at ih
    exact_mod_cast ih
  by_cases hcb : Da c.nodes.l[i].k = true
  ·have hcb' : decide (1 ≤ c.nodes.l[i].k ∧ c.nodes.l[i].k ≤ 13) = true := by simpa [Da] using hcb
   have hlo : Db c.nodes.l[i] = c.nodes.l[i].inn.l.length := by simp [Db, hcb]
   rw [hcb']
   have := tail ((Jk c i).set i c.nodes.l[i].inn.l.length) (by rw [← hlo]; exact q2u h2)
   simp (disch := omega) [h2, A1, A5, hll, Ep, -Es]
   exact this
  ·have hcb' : decide (1 ≤ c.nodes.l[i].k ∧ c.nodes.l[i].k ≤ 13) = false := by simpa [Da] using hcb
   have hlo : Db c.nodes.l[i] = 0 := by simp [Db, hcb]
   rw [hcb', q9L h2 hlo]
   rw [if_pos hlo] at hsn
   have hge : (Jk c (i + 1))[i]'(by rw [hll1]; exact h2) = 0 := by
    have hget : (Jk c (i + 1))[i]?.getD 0 = Db c.nodes.l[i] := by
     rw [← q2u h2]
     simp [hll, h2]
    rw [List.getElem?_eq_getElem (by rw [hll1]; exact h2), Option.getD_some] at hget
    rw [hget, hlo]
   simp (disch := omega) [h2, A1, C2 (0 : Int), A5, hll1, hge, hw, A4]
   refine ⟨by omega, ?_⟩
   rw [hK]
   rw [hsn] at ih
   rw [E0 (f := tI) (x := (i : Int))]
   simpa [A6] using ih
def Cj (c : Ax) : Int := if D1 c ≠ 0 then D1 c else if (M4 c).1 < c.nodes.l.length then 6 else 0
theorem qGp (k : Int) : (Q8 k).2 ≤ 16 := by
 unfold Q8
 split
 ·decide
 ·have : ∀ n : Nat, (q6I.getD n (0, 0)).2 ≤ 16 := by
   intro n
   by_cases h : n < 16
   ·have : n = 0 ∨ n = 1 ∨ n = 2 ∨ n = 3 ∨ n = 4 ∨ n = 5 ∨ n = 6 ∨ n = 7 ∨ n = 8 ∨ n = 9 ∨ n = 10 ∨ n = 11 ∨ n = 12 ∨ n = 13 ∨ n = 14 ∨ n = 15 := by omega
    rcases this with rfl | rfl | rfl | rfl | rfl | rfl | rfl | rfl | rfl | rfl | rfl | rfl | rfl | rfl | rfl | rfl <;> decide
   ·rw [List.getD, List.getElem?_eq_none (by simp [q6I]; omega)]; decide
  exact this _
theorem Y0 {α : Type} {f : α → Int} : ∀ {l : List α}, D9 (l.map f) = 0 → ∀ x ∈ l, f x = 0
 | [], _, x, h => by cases h
 | y :: l, h, x, hx => by
  simp only [List.map_cons, D9] at h
  split at h
  ·rename_i hy; exact absurd h hy
  ·rename_i hy
   rcases List.mem_cons.1 hx with rfl | hx
   ·simpa using hy
   ·exact Y0 h x hx
theorem Eb {c : Ax} (h : D1 c = 0) : c.nodes.l.length ≤ 16384 ∧ (∀ x ∈ c.nodes.l, x.inn.l.length ≤ 16) ∧ (∀ x ∈ c.nodes.l, Cc c x = 0) ∧ c.mems.l.length ≤ 16 := by
 unfold D1 at h
 split at h
 ·cases h
 rename_i h1
 split at h
 ·cases h
 split at h
 ·rename_i h2; exact absurd h h2
 rename_i h2
 have h3 := Y0 (by simpa using h2)
 refine ⟨by omega, fun x hx => ?_, h3, by omega⟩
 have h4 := h3 x hx
 have h5 := qGp x.k
 unfold Cc at h4
 split at h4
 ·cases h4
 split at h4
 ·cases h4
 rename_i h6
 omega
theorem q52 (hΓ : GOk Γ) (c : Ax) (hc : CirOk c) (ha : ∀ s ∈ c.names.l, ∀ b ∈ s, b < 128) :
  A3 Tryz.prog Γ 67 [.agg (tC c)] (.tup [if Cj c = 0 then .sl (Bo (M4 c).2.out) none none else .sl [] (some 0) (some true), tI (Cj c)]) := by
 refine A7 q1s rfl ?_
 have e1 := qAh hΓ c hc ha
 simp [V1, tC, A6, A8, Ad, Bl]
 refine A0 e1 rfl ?_
 by_cases h1 : D1 c = 0
 case neg =>
  have : Cj c = D1 c := by unfold Cj; rw [if_pos h1]
  simp [h1, Hz, this]
 obtain ⟨hn, hi, _⟩ := Eb h1
 have e2 := q9J (Γ := Γ) c hn hi
 have hl0 : Cj c = if (M4 c).1 < c.nodes.l.length then 6 else 0 := by unfold Cj; rw [if_neg (show ¬ (D1 c ≠ 0) by simp [h1])]
 simp (disch := omega) [h1, Aa, A4]
 refine ⟨by omega, ?_⟩
 have e0 : List.replicate c.nodes.l.length [T.v (Value.int .i64 0)] = Bo (List.replicate c.nodes.l.length 0) := by simp [Af]
 rw [e0]
 have hl := fun Q h0 => q7h (Γ := Γ) (Q := Q) c hn hi (List.replicate c.nodes.l.length 0) h0 c.nodes.l.length 0 (by omega)
 have el0 : Jk c 0 = List.replicate c.nodes.l.length 0 := by simp [Jk]
 simp only [el0, Df, List.take_zero, List.length_nil] at hl
 refine hl _ ?_
 simp [tC, A6, A8, Ad, Bl]
 refine A9 e2 rfl ?_
 have hI := q9K c hi
 have hm := fun Q h0 => q7g (Γ := Γ) (Q := Q) c hc hn hi (M4 c) h0 (c.nodes.l.length + 1) 0 (He c) 0 (by omega) hI (by omega) rfl
 simp
 refine hm _ ?_
 have hend : (M4 c).1 < c.nodes.l.length ↔ ((M4 c).1 : Int) < c.nodes.l.length := by omega
 have hol : (M4 c).2.out.length = c.nodes.l.length := by
  have : ∀ (f d : Nat) (s : LS), s.out.length = c.nodes.l.length → (Kp c f d s).2.out.length = c.nodes.l.length := by
   intro f
   induction f with
   | zero => intro d s h; exact h
   | succ f ih =>
    intro d s h
    simp only [Kp]
    split
    ·refine ih _ _ ?_
     have : ∀ (r : L6) (n : Nat) (s : LS), s.out.length = c.nodes.l.length → (r.foldl (Do c n) s).out.length = c.nodes.l.length := by
      intro r n
      induction r with
      | nil => intro s h; exact h
      | cons p r ih2 =>
       intro s h
       rw [List.foldl_cons]
       refine ih2 _ ?_
       unfold Do
       split
       ·simp [h]
       ·exact h
     exact this _ _ _ h
    ·exact h
  exact this _ _ _ hI.lo
 by_cases h2 : (M4 c).1 < c.nodes.l.length
 ·rw [if_pos h2] at hl0
  have h2' := hend.1 h2
  simp [lsH, tC, A6, Aa, h2', Hz, hl0]
 ·rw [if_neg h2] at hl0
  have h2' : ¬ ((M4 c).1 : Int) < c.nodes.l.length := fun h => h2 (hend.2 h)
  have ht : (Bo (M4 c).2.out).take c.nodes.l.length = Bo (M4 c).2.out := by rw [← hol]; simp
  simp [lsH, tC, A6, Aa, h2, h2', Hz, hl0, ht]
structure COk (c : Ax) : Prop extends CirOk c where
 asc : ∀ s ∈ c.names.l, ∀ b ∈ s, b < 128
theorem qAj (hΓ : GOk Γ) (c : Ax) (hc : COk c) : A3 Tryz.prog Γ 20 [.agg (tC c)] (tI (Cj c)) := by
 refine A7 q2l rfl ?_
 have e := q52 hΓ c hc.toCirOk hc.asc
 simp [Wb, tC, A6, A8, Ad, Bl]
 refine A0 e rfl ?_
 simp
 simp [Wc]
def Ap (c : Ax) : List Int := Il [14] c.nodes.l 0
def mems (c : Ax) : List Int := Il [15] c.nodes.l 0
theorem q8J (c : Ax) (hc : COk c) (k : Int) : A3 Tryz.prog Γ 66 [.agg (tC c), .sl [[tK k]] (some 1) (some false)] (.sl (Bo (Il [k] c.nodes.l 0)) (some (Il [k] c.nodes.l 0).length) none) := by
 have := qEu (Γ := Γ) c hc.toCirOk [k] (some 1) (some false) (by simp)
 simpa [Af] using this
theorem Rx (c : Ax) (hc : COk c) : Ae Tryz.prog Γ 19 [.agg (tC c)] (.sl (Bo (Ap c)) (some (Ap c).length) none) := by
 refine B5 q1q rfl ?_
 simp [Ut, tC, A6, A8, Ad, Bl]
 refine A0 (q8J c hc 14) rfl ?_
 simp [Uu, Ap]
def q6S (c : Ax) : Int := if Cj c ≠ 0 then Cj c else if 0 < c.mems.l.length ∨ 0 < (mems c).length then 7 else 0
end Go.Lg
namespace Go.Lg
open Go Go.Proofs
def Sl.d : Sl Int := ⟨[], none, none⟩
def Wq (l : List Int) (a b : Nat) : List Int := (l.set a (l.getD b 0)).set b (l.getD a 0)
theorem q4U {l : List Int} {a b : Nat} : (Wq l a b).length = l.length := by simp [Wq]
theorem Aw {l : List Int} {i : Nat} (h : i < l.length) : l.getD i 0 = l[i] := by simp [List.getD_eq_getElem?_getD, h]
theorem qCT {l : List Int} {a b q : Nat} (ha : a < l.length) (hb : b < l.length) (hq : q < l.length) : (Wq l a b).getD q 0 = if q = b then l.getD a 0 else if q = a then l.getD b 0 else l.getD q 0 := by
 unfold Wq
 rw [Hf (by simp; exact hb)]
 split
 ·rfl
 ·rw [Hf ha]
theorem q6T {l : List Int} {a b : Nat} (ha : a < l.length) (hb : b < l.length) : (Wq l a b).Perm l := by
 unfold Wq
 rw [Aw ha, Aw hb]
 exact List.set_set_perm ha hb
theorem q1d (ks : List Int) : ∀ (l : List Nd) (i : Nat), (∀ j ∈ Il ks l i, (i : Int) ≤ j) ∧ (Il ks l i).Nodup
 | [], _ => ⟨fun j h => (by cases h), List.nodup_nil⟩
 | x :: l, i => by
  obtain ⟨h1, h2⟩ := q1d ks l (i + 1)
  simp only [Il]
  split
  ·refine ⟨fun j hj => ?_, List.nodup_cons.2 ⟨fun hm => ?_, h2⟩⟩
   ·rcases List.mem_cons.1 hj with rfl | hj
    ·omega
    ·have := h1 j hj; omega
   ·have := h1 _ hm; omega
  ·exact ⟨fun j hj => by have := h1 j hj; omega, h2⟩
theorem q0m (ks : List Int) : ∀ (l : List Nd) (i : Nat), ∀ n ∈ Il ks l i, (i : Int) ≤ n ∧ n < i + l.length ∧ ks.contains (l.getD (n.toNat - i) Nd.d).k = true
 | [], _, n, h => by cases h
 | x :: l, i, n, h => by
  have tail : n ∈ Il ks l (i + 1) → (i : Int) ≤ n ∧ n < i + (x :: l).length ∧ ks.contains ((x :: l).getD (n.toNat - i) Nd.d).k = true := fun h => by
   obtain ⟨h1, h2, h3⟩ := q0m ks l (i + 1) n h
   refine ⟨by omega, by simp only [List.length_cons]; omega, ?_⟩
   have e : n.toNat - i = (n.toNat - (i + 1)) + 1 := by omega
   rw [e, List.getD_cons_succ]
   exact h3
  simp only [Il] at h
  split at h
  ·rename_i hk
   rcases List.mem_cons.1 h with rfl | h
   ·refine ⟨by omega, by simp only [List.length_cons]; omega, ?_⟩
    have e : ((i : Int).toNat - i) = 0 := by omega
    rw [e, List.getD_cons_zero]
    exact hk
   ·exact tail h
  ·exact tail h
end Go.Lg
namespace Go.Lg
open Go
section
variable {P : Program} {Γ : Tables} {Q : AX → St → Prop} {s : St}
/- (probecard/probecardlaw03.C).Of (function 9) -/
abbrev q26 : IC := .gh (.seq (.seq (.reg [om 13 4, od 14 (fa 0 1), od 15 (ld 1 14), od 16 (.bin .rem (tm 15) (ku 4)), od 17 (.conv .i64 (tm 16)), od 18 (.bin .leq (tm 13) (tm 17))] [kp [1, 2, 3, 4, 18] [2, 3, 25, 144, 168]]) (.cond (tm 18) .skip
 (.exit 0))) (.seq (.block 1 (.reg [od 21 (fa 0 3), od 22 (ld 1 21), od 23 (.build [(1, (ku 0)), (1, kN), (1, (ki 0)), (1, (ki 0))]), od 24 (.bsl true 73 4 [(tm 23)]), od 25 (.app false 73 4 (tm 22) (tm 24)), od 26 (fa 0 3), on
 (.store 1 (tm 26) (tm 25))] [kp [1, 2, 3, 4] [2, 3, 25, 144, 168]])) (.reg [om 19 4, od 20 (.bin .add (tm 19) (ki 1)), om 4 20] [kp [1, 2, 3, 4] [2, 3, 25, 144, 168]]))) [kp [1, 2, 3, 4] [2, 3, 25, 144, 168]]
def Qv : IC := .loop q26
abbrev q27 : IC := .gh (.seq (.seq (.reg [om 34 7, om 35 6, od 36 (.bin .lss (tm 34) (tm 35))] [kp [1, 2, 3, 5, 6, 7, 36] [2, 3, 25, 144, 168]]) (.cond (tm 36) .skip (.exit 2))) (.seq (.block 3 (.reg [od 39 (fa 0 3), od 40 (ld 1 39), od 41 (.bsl true
 3 1 [(ki 0)]), od 42 (.build [(1, (ku 14)), (1, (tm 41)), (1, (ki 0)), (1, (ki 0))]), od 43 (.bsl true 73 4 [(tm 42)]), oz 44 (.app false 73 4 (tm 40) (tm 43)) 25, od 45 (fa 0 3), on (.store 1 (tm 45) (tm 44))] [kp [1, 2, 3, 5, 6,
 7] [2, 3, 25, 144, 168]])) (.reg [om 37 7, od 38 (.bin .add (tm 37) (ki 1)), om 7 38] [kp [1, 2, 3, 5, 6, 7] [2, 3, 25, 144, 168]]))) [kp [1, 2, 3, 5, 6, 7] [2, 3, 25, 144, 168]]
def Qw : IC := .loop q27
abbrev q28 : IC := .gh (.seq (.seq (.reg [om 55 8, od 56 (fa 10 1), od 57 (ld 1 56), od 58 (le 0 57), od 59 (.bin .lss (tm 55) (tm 58)), om 60 59, oT 61 (.mv (tm 8)) 60, oT 62 (.bin .lss (tm 61) (ki 8)) 60, od 63 (.pick (tm 60) (tm 62) kF)] [kp [1,
 2, 3, 5, 6, 8, 63] [2, 3, 25, 144, 168]]) (.cond (tm 63) .skip (.exit 4))) (.seq (.block 5 (.reg [od 66 (fa 0 3), od 67 (.ldR 3 1 false (tm 66)), od 68 (.ldT 12 true (tm 1)), od 69 (fa 10 1), od 70 (.ldT 1 false (tm 69)), om 71 8,
 od 72 (ia 4 70 71), od 73 (.ldT 4 true (tm 72)), od 74 (fa 0 3), od 75 (.ldR 3 1 false (tm 74)), od 76 (.call 33 [(tm 68), (tm 73), (tm 75)]), od 77 (.bsl true 73 4 [(tm 76)]), oz 78 (.app false 73 4 (tm 67) (tm 77)) 25, od 79 (fa
 0 3), on (.stR 3 1 (tm 79) (tm 78))] [kp [1, 2, 3, 5, 6, 8] [2, 3, 25, 144, 168]])) (.reg [om 64 8, od 65 (.bin .add (tm 64) (ki 1)), om 8 65] [kp [1, 2, 3, 5, 6, 8] [2, 3, 25, 144, 168]]))) [kp [1, 2, 3, 5, 6, 8] [2, 3, 25, 144,
 168]]
def Qx : IC := .loop q28
abbrev q29 : IC := .gh (.seq (.seq (.reg [om 83 10, om 84 6, od 85 (.bin .lss (tm 83) (tm 84))] [kp [1, 2, 3, 5, 6, 9, 10, 85] [2, 3, 25, 144, 168]]) (.cond (tm 85) .skip (.exit 6))) (.seq (.block 7 (.reg [od 88 (fa 0 3), od 89 (.ldR 3 1 false (tm
 88)), om 90 5, om 91 10, od 92 (.bin .add (tm 90) (tm 91)), om 93 10, od 94 (fa 2 1), od 95 (.iadrA 2 1 (tm 94) (tm 93)), od 96 (.ldT 1 false (tm 95)), od 97 (.conv .i64 (tm 96)), om 98 9, od 99 (.bin .rem (tm 97) (tm 98)), od 100
 (.bsl true 3 1 [(tm 99)]), od 101 (ia 4 89 92), od 102 (fa 1 101), on (.store 1 (tm 102) (tm 100))] [kp [1, 2, 3, 5, 6, 9, 10] [2, 3, 25, 144, 168]])) (.reg [om 86 10, od 87 (.bin .add (tm 86) (ki 1)), om 10 87] [kp [1, 2, 3, 5, 6,
 9, 10] [2, 3, 25, 144, 168]]))) [kp [1, 2, 3, 5, 6, 9, 10] [2, 3, 25, 144, 168]]
def Qy : IC := .loop q29
abbrev q2A : IC := .gh (.seq (.seq (.reg [om 134 11, om 135 9, od 136 (.bin .lss (tm 134) (tm 135))] [kp [1, 2, 3, 9, 11, 136] [2, 3, 25, 144, 168]]) (.cond (tm 136) .skip (.exit 8))) (.seq (.block 9 (.reg [od 139 (fa 1 3), od 140 (.ldR 3 1 false (tm
 139)), om 141 11, od 142 (.call 34 [(tm 141)]), od 143 (.bsl true 9 1 [(tm 142)]), od 144 (.app false 9 1 (tm 140) (tm 143)), od 145 (fa 1 3), on (.stR 3 1 (tm 145) (tm 144))] [kp [1, 2, 3, 9, 11] [2, 3, 25, 144, 168]])) (.reg [om
 137 11, od 138 (.bin .add (tm 137) (ki 1)), om 11 138] [kp [1, 2, 3, 9, 11] [2, 3, 25, 144, 168]]))) [kp [1, 2, 3, 9, 11] [2, 3, 25, 144, 168]]
def Qz : IC := .loop q2A
abbrev q0n : IC := .gh (.seq (.seq (.reg [om 146 12, od 147 (fa 11 1), od 148 (ld 1 147), od 149 (le 0 148), od 150 (.bin .lss (tm 146) (tm 149)), om 151 150, oT 152 (.mv (tm 12)) 151, oT 153 (.bin .lss (tm 152) (ki 3)) 151, od 154 (.pick (tm 151)
 (tm 153) kF)] [kp [1, 2, 3, 9, 12, 154] [2, 3, 25, 144, 168]]) (.cond (tm 154) .skip (.exit 10))) (.seq (.block 11 (.reg [od 157 (fa 3 3), od 158 (.ldR 3 1 false (tm 157)), od 159 (fa 11 1), od 160 (.ldT 1 false (tm 159)), om 161
 12, od 162 (ia 1 160 161), od 163 (.ldT 1 false (tm 162)), od 164 (.conv .i64 (tm 163)), om 165 9, od 166 (.bin .rem (tm 164) (tm 165)), od 167 (.bsl true 3 1 [(tm 166)]), od 168 (.app false 3 1 (tm 158) (tm 167)), od 169 (fa 3 3),
 on (.stR 3 1 (tm 169) (tm 168))] [kp [1, 2, 3, 9, 12] [2, 3, 25, 144, 168]])) (.reg [om 155 12, od 156 (.bin .add (tm 155) (ki 1)), om 12 156] [kp [1, 2, 3, 9, 12] [2, 3, 25, 144, 168]]))) [kp [1, 2, 3, 9, 12] [2, 3, 25, 144, 168]]
def Ob : IC := .loop q0n
abbrev q2B : IC := (.seq (.reg [od 1 (.box true (tm 0)), od 2 (.alloc false [(.slice none 0 0), (.slice none 0 0), (.slice none 0 0), (.slice none 0 0)])] [kp [1, 2] [2, 25, 144, 168]]) (.seq (.reg [od 3 (.alloc false [(.slice none 0 0), (.slice none
 0 0), (.slice none 0 0), (.slice none 0 0)])] [.nlb 3 0 25 73 4, .nlb 3 1 144 9 1, .nlb 3 3 168 3 1, kp [1, 2, 3] [2, 3, 25, 144, 168]]) (.seq (.seq (.reg [od 4 (.mv (ki 0))] [kp [1, 2, 3, 4] [2, 3, 25, 144, 168]]) (.block 0
 Qv)) (.seq (.reg [od 27 (fa 0 3), od 28 (ld 1 27), od 29 (le 0 28), om 5 29] [kp [1, 2, 3, 5] [2, 3, 25, 144, 168]]) (.seq (.reg [od 30 (fa 1 1), od 31 (ld 1 30), od 32 (.bin .rem (tm 31) (ku 3)), od 33 (.conv .i64 (tm
 32)), om 6 33] [kp [1, 2, 3, 5, 6] [2, 3, 25, 144, 168]]) (.seq (.seq (.reg [od 7 (.mv (ki 0))] [kp [1, 2, 3, 5, 6, 7] [2, 3, 25, 144, 168]]) (.block 2 Qw)) (.seq (.seq (.reg [od 46 (fa 5 1), od 47 (ld 1 46)] [kp [1, 2,
 3, 5, 6, 47] [2, 3, 25, 144, 168]]) (.cond (tm 47) (.reg [od 48 (fa 0 3), od 49 (ld 1 48), od 50 (.build [(1, (ku 15)), (1, kN), (1, (ki 0)), (1, (ki 0))]), od 51 (.build [(1, (ku 15)), (1, kN), (1, (ki 0)), (1, (ki 1))]), od 52
 (.bsl true 73 4 [(tm 50), (tm 51)]), oz 53 (.app false 73 4 (tm 49) (tm 52)) 25, od 54 (fa 0 3), on (.store 1 (tm 54) (tm 53))] [kp [1, 2, 3, 5, 6] [2, 3, 25, 144, 168]]) .skip)) (.seq (.seq (.reg [od 8 (.mv (ki 0))] [kp [1, 2, 3,
 5, 6, 8] [2, 3, 25, 144, 168]]) (.block 4 Qx)) (.seq (.reg [od 80 (fa 0 3), od 81 (ld 1 80), od 82 (le 0 81), om 9 82] [kp [1, 2, 3, 5, 6, 9] [2, 3, 25, 144, 168]]) (.seq (.seq (.reg [od 10 (.mv (ki 0))] [kp [1, 2, 3, 5,
 6, 9, 10] [2, 3, 25, 144, 168]]) (.block 6 Qy)) (.seq (.seq (.reg [od 103 (fa 5 1), od 104 (ld 1 103)] [kp [1, 2, 3, 9, 104] [2, 3, 25, 144, 168]]) (.cond (tm 104) (.reg [od 105 (fa 6 1), od 106 (.iadrA 4 1 (tm 105) (ki
 0)), od 107 (.ldT 1 false (tm 106)), od 108 (.conv .i64 (tm 107)), om 109 9, od 110 (.bin .rem (tm 108) (tm 109)), od 111 (.bsl true 3 1 [(tm 110)]), od 112 (fa 6 1), od 113 (.iadrA 4 1 (tm 112) (ki 1)), od 114 (.ldT 1 false (tm
 113)), od 115 (.conv .i64 (tm 114)), om 116 9, od 117 (.bin .rem (tm 115) (tm 116)), od 118 (fa 6 1), od 119 (.iadrA 4 1 (tm 118) (ki 2)), od 120 (.ldT 1 false (tm 119)), od 121 (.conv .i64 (tm 120)), om 122 9, od 123 (.bin .rem
 (tm 121) (tm 122)), od 124 (.bsl true 3 1 [(tm 117), (tm 123)]), od 125 (fa 6 1), od 126 (.iadrA 4 1 (tm 125) (ki 3)), od 127 (.ldT 1 false (tm 126)), od 128 (.conv .i64 (tm 127)), om 129 9, od 130 (.bin .rem (tm 128) (tm 129)), od
 131 (.build [(1, (tm 111)), (1, (tm 124)), (1, (tm 130))]), od 132 (.bsl true 100 3 [(tm 131)]), od 133 (fa 2 3), on (.stR 3 1 (tm 133) (tm 132))] [kp [1, 2, 3, 9] [2, 3, 25, 144, 168]]) .skip)) (.seq (.seq (.reg [od 11 (.mv (ki
 0))] [kp [1, 2, 3, 9, 11] [2, 3, 25, 144, 168]]) (.block 8 Qz)) (.seq (.seq (.reg [od 12 (.mv (ki 0))] [kp [1, 2, 3, 9, 12] [2, 3, 25, 144, 168]]) (.block 10 Ob)) (.seq (.reg [od 170 (fa 3 3), od 171 (ld 1
 170), om 172 9, od 173 (.bin .sub (tm 172) (ki 1)), od 174 (.bsl true 3 1 [(tm 173)]), oz 175 (.app false 3 1 (tm 171) (tm 174)) 168, od 176 (fa 3 3), on (.store 1 (tm 176) (tm 175))] [kp [2, 3] [2, 3, 25, 144, 168]]) (.seq (.reg
 [od 177 (lG 4 3), on (.store 4 (tm 2) (tm 177))] [kp [2] [2, 25, 144, 168]]) .ret)))))))))))))))
theorem Ws (h : ∀ K : St → Prop, K = run P Γ Qv Q → run P Γ q26 (Aq K Q) s) : run P Γ Qv Q s := Ac h
theorem Wt (h : ∀ K : St → Prop, K = run P Γ Qw Q → run P Γ q27 (Aq K Q) s) : run P Γ Qw Q s := Ac h
theorem Wu (h : ∀ K : St → Prop, K = run P Γ Qx Q → run P Γ q28 (Aq K Q) s) : run P Γ Qx Q s := Ac h
theorem Wv (h : ∀ K : St → Prop, K = run P Γ Qy Q → run P Γ q29 (Aq K Q) s) : run P Γ Qy Q s := Ac h
theorem Ww (h : ∀ K : St → Prop, K = run P Γ Qz Q → run P Γ q2A (Aq K Q) s) : run P Γ Qz Q s := Ac h
theorem Vj (h : ∀ K : St → Prop, K = run P Γ Ob Q → run P Γ q0n (Aq K Q) s) : run P Γ Ob Q s := Ac h
def Gu : List RV := [.cell 2 4 true]
/- (probecard/probecardlaw03.C).gate (function 33) -/
abbrev q06 : IC := .gh (.seq (.seq (.reg [om 37 12, om 38 7, od 39 (.bin .lss (tm 37) (tm 38))] [kp [2, 3, 4, 6, 7, 8, 9, 10, 11, 12, 39] [6, 51, 70, 79, 86, 94, 105, 126, 142, 156]]) (.cond (tm 39) .skip (.exit 0))) (.seq (.block 1 (.seq (.reg [om
 42 2, om 43 12, od 44 (ia 4 42 43), od 45 (fa 0 44), od 46 (ld 1 45), od 47 (.bin .eql (tm 46) (ku 12))] [kp [2, 3, 4, 6, 7, 8, 9, 10, 11, 12, 47] [6, 51, 70, 79, 86, 94, 105, 126, 142, 156]]) (.cond (tm 47) (.reg [om 48 11, om 49
 12, od 50 (.bsl true 3 1 [(tm 49)]), od 51 (.app false 3 1 (tm 48) (tm 50)), om 11 51] [kp [2, 3, 4, 6, 7, 8, 9, 10, 11, 12] [6, 51, 70, 79, 86, 94, 105, 126, 142, 156]]) .skip))) (.reg [om 40 12, od 41 (.bin .add (tm 40) (ki 1)),
 om 12 41] [kp [2, 3, 4, 6, 7, 8, 9, 10, 11, 12] [6, 51, 70, 79, 86, 94, 105, 126, 142, 156]]))) [kp [2, 3, 4, 6, 7, 8, 9, 10, 11, 12] [6, 51, 70, 79, 86, 94, 105, 126, 142, 156]]
def Lt : IC := .loop q06
abbrev q07 : IC := (.seq (.reg [od 3 (.box true (tm 0)), od 4 (.box true (tm 1)), od 6 (.alloc false [(.int .u8 0), (.slice none 0 0), (.int .i64 0), (.int .i64 0)])] [kp [2, 3, 4, 6] [6, 70, 79, 86, 94, 105, 126, 142, 156]]) (.seq (.reg [om 17 2, od
 18 (le 0 17), om 7 18] [kp [2, 3, 4, 6, 7] [6, 70, 79, 86, 94, 105, 126, 142, 156]]) (.seq (.reg [od 19 (fa 1 4), od 20 (.iadrA 3 1 (tm 19) (ki 0)), od 21 (ld 1 20), od 22 (.conv .i64 (tm 21)), om 23 7, od 24 (.bin .rem (tm 22) (tm
 23)), od 25 (fa 1 4), od 26 (.iadrA 3 1 (tm 25) (ki 1)), od 27 (ld 1 26), od 28 (.conv .i64 (tm 27)), om 29 7, od 30 (.bin .rem (tm 28) (tm 29)), od 31 (fa 1 4), od 32 (.iadrA 3 1 (tm 31) (ki 2)), od 33 (ld 1 32), od 34 (.conv .i64
 (tm 33)), om 35 7, od 36 (.bin .rem (tm 34) (tm 35)), om 8 24, om 9 30, om 10 36] [kp [2, 3, 4, 6, 7, 8, 9, 10] [6, 70, 79, 86, 94, 105, 126, 142, 156]]) (.seq (.reg [od 11 (.mv kN)] [.nl 11 51 3 1, kp [2, 3, 4, 6, 7, 8, 9, 10, 11]
 [6, 51, 70, 79, 86, 94, 105, 126, 142, 156]]) (.seq (.seq (.reg [od 12 (.mv (ki 0))] [kp [2, 3, 4, 6, 7, 8, 9, 10, 11, 12] [6, 51, 70, 79, 86, 94, 105, 126, 142, 156]]) (.block 0 Lt)) (.seq (.reg [od 52 (fa 0 4), od 53
 (ld 1 52), od 54 (.bin .rem (tm 53) (ku 9)), od 55 (.conv .i64 (tm 54)), om 13 55] [kp [3, 4, 6, 8, 9, 10, 11, 13] [6, 51, 70, 79, 86, 94, 105, 126, 142, 156]]) (.seq (.seq (.reg [od 56 (fa 4 3), od 57 (ld 1 56)] [kp [4, 6, 8, 9,
 10, 11, 13, 57] [6, 51, 70, 79, 86, 94, 105, 126, 142, 156]]) (.cond (tm 57) (.reg [od 58 (fa 0 4), od 59 (ld 1 58), od 60 (.bin .rem (tm 59) (ku 13)), od 61 (.conv .i64 (tm 60)), om 13 61] [kp [4, 6, 8, 9, 10, 11, 13] [6, 51, 70,
 79, 86, 94, 105, 126, 142, 156]]) .skip)) (.seq (.block 2 (.seq (.reg [om 63 13, od 64 (.bin .lss (tm 63) (ki 6)), om 62 64] [kp [4, 6, 8, 9, 10, 11, 13, 62] [6, 51, 70, 79, 86, 94, 105, 126, 142, 156]]) (.cond (tm 62) (.seq (.reg
 [om 65 13, od 66 (.conv .u8 (tm 65)), od 67 (.bin .add (ku 5) (tm 66)), om 68 8, om 69 9, od 70 (.bsl false 3 1 [(tm 68), (tm 69)]), od 71 (.build [(1, (tm 67)), (1, (tm 70)), (1, (ki 0)), (1, (ki 0))]), od 14 (.alloc false [(.int
 .u8 0), (.slice none 0 0), (.int .i64 0), (.int .i64 0)]), on (.store 4 (tm 14) (tm 71))] [kp [4, 6, 10, 14] [6, 14, 70, 79, 86, 94, 105, 126, 142, 156]]) (.seq (.seq (.reg [od 72 (fa 0 4), od 73 (ld 1 72), od 74 (.bin .geq (tm 73)
 (ku 128))] [kp [6, 10, 14, 74] [6, 14, 70, 79, 86, 94, 105, 126, 142, 156]]) (.cond (tm 74) (.reg [od 75 (fa 1 14), od 76 (ld 1 75), om 77 10, od 78 (.bsl true 3 1 [(tm 77)]), od 79 (.app false 3 1 (tm 76) (tm 78)), od 80 (fa 1
 14), on (.store 1 (tm 80) (tm 79))] [kp [6, 14] [6, 14, 70, 79, 86, 94, 105, 126, 142, 156]]) .skip)) (.seq (.reg [od 81 (lG 4 14), on (.store 4 (tm 6) (tm 81))] [kp [6] [6, 70, 79, 86, 94, 105, 126, 142, 156]]) .ret))) (.seq (.reg
 [om 83 13, od 84 (.bin .eql (tm 83) (ki 6)), om 82 84] [kp [4, 6, 8, 9, 10, 11, 13, 82] [6, 51, 70, 79, 86, 94, 105, 126, 142, 156]]) (.cond (tm 82) (.seq (.reg [om 85 8, od 86 (.bsl false 3 1 [(tm 85)]), od 87 (.build [(1, (ku
 4)), (1, (tm 86)), (1, (ki 0)), (1, (ki 0))]), on (.store 4 (tm 6) (tm 87))] [kp [6] [6, 70, 79, 86, 94, 105, 126, 142, 156]]) .ret) (.seq (.reg [om 89 13, od 90 (.bin .eql (tm 89) (ki 7)), om 88 90] [kp [4, 6, 8, 9, 10, 11, 13,
 88] [6, 51, 70, 79, 86, 94, 105, 126, 142, 156]]) (.cond (tm 88) (.seq (.reg [om 91 8, om 92 9, om 93 10, od 94 (.bsl false 3 1 [(tm 91), (tm 92), (tm 93)]), od 95 (.build [(1, (ku 11)), (1, (tm 94)), (1, (ki 0)), (1, (ki 0))]), on
 (.store 4 (tm 6) (tm 95))] [kp [6] [6, 70, 79, 86, 94, 105, 126, 142, 156]]) .ret) (.seq (.reg [om 97 13, od 98 (.bin .eql (tm 97) (ki 9)), om 99 98, oF 100 (.mv (tm 13)) 99, oF 101 (.bin .eql (tm 100) (ki 10)) 99, od 102 (.pick
 (tm 99) kT (tm 101)), om 96 102] [kp [4, 6, 8, 9, 11, 13, 96] [6, 51, 70, 79, 86, 94, 105, 126, 142, 156]]) (.cond (tm 96) (.seq (.reg [om 103 8, om 104 9, od 105 (.bsl false 3 1 [(tm 103), (tm 104)]), od 106 (.build [(1, (ku 12)),
 (1, (tm 105)), (1, (ki 0)), (1, (ki 0))]), on (.store 4 (tm 6) (tm 106))] [kp [6] [6, 70, 79, 86, 94, 105, 126, 142, 156]]) .ret) (.seq (.reg [om 108 13, od 109 (.bin .gtr (tm 108) (ki 10)), om 110 109, oT 111 (.mv (tm 11)) 110, oT
 112 (le 0 111) 110, oT 113 (.bin .gtr (tm 112) (ki 0)) 110, od 114 (.pick (tm 110) (tm 113) kF), om 107 114] [kp [4, 6, 8, 11, 107] [6, 51, 70, 79, 86, 94, 105, 126, 142, 156]]) (.cond (tm 107) (.seq (.reg [od 115 (fa 1 4), od 116
 (.iadrA 3 1 (tm 115) (ki 0)), od 117 (ld 1 116), od 118 (.conv .i64 (tm 117)), om 119 11, od 120 (le 0 119), od 121 (.bin .rem (tm 118) (tm 120)), om 15 121] [kp [6, 11, 15] [6, 51, 70, 79, 86, 94, 105, 126, 142, 156]]) (.seq (.reg
 [om 122 11, om 123 15, od 124 (ia 1 122 123), od 125 (ld 1 124), od 126 (.bsl false 3 1 [(tm 125)]), od 127 (.build [(1, (ku 13)), (1, (tm 126)), (1, (ki 0)), (1, (ki 0))]), od 16 (.alloc false [(.int .u8 0), (.slice none 0 0),
 (.int .i64 0), (.int .i64 0)]), on (.store 4 (tm 16) (tm 127))] [kp [6, 11, 15, 16] [6, 16, 51, 70, 79, 86, 94, 105, 126, 142, 156]]) (.seq (.seq (.reg [om 128 11, od 129 (le 0 128), od 130 (.bin .gtr (tm 129) (ki 1))] [kp [6, 11,
 15, 16, 130] [6, 16, 51, 70, 79, 86, 94, 105, 126, 142, 156]]) (.cond (tm 130) (.reg [od 131 (fa 1 16), od 132 (.ldR 16 1 false (tm 131)), om 133 11, om 134 15, od 135 (.bin .add (tm 134) (ki 1)), om 136 11, od 137 (le 0 136), od
 138 (.bin .rem (tm 135) (tm 137)), od 139 (ia 1 133 138), od 140 (.ldR 51 1 false (tm 139)), od 141 (.bsl true 3 1 [(tm 140)]), od 142 (.app false 3 1 (tm 132) (tm 141)), od 143 (fa 1 16), on (.stR 16 1 (tm 143) (tm 142))] [kp [6,
 16] [6, 16, 70, 79, 86, 94, 105, 126, 142, 156]]) .skip)) (.seq (.reg [od 144 (lG 4 16), on (.store 4 (tm 6) (tm 144))] [kp [6] [6, 70, 79, 86, 94, 105, 126, 142, 156]]) .ret)))) (.seq (.reg [od 146 (fa 0 4), od 147 (ld 1 146), od
 148 (.bin .gtr (tm 147) (ku 240)), om 145 148] [kp [4, 6, 8, 145] [6, 70, 79, 86, 94, 105, 126, 142, 156]]) (.cond (tm 145) (.seq (.reg [od 149 (fa 1 4), od 150 (.iadrA 3 1 (tm 149) (ki 0)), od 151 (ld 1 150), od 152 (.bin .rem (tm
 151) (ku 2)), od 153 (.bin .add (ku 1) (tm 152)), od 154 (.build [(1, (tm 153)), (1, kN), (1, (ki 0)), (1, (ki 0))]), on (.store 4 (tm 6) (tm 154))] [kp [6] [6, 70, 79, 86, 94, 105, 126, 142, 156]]) .ret) .skip))))))))))))) (.seq
 (.reg [om 155 8, od 156 (.bsl false 3 1 [(tm 155)]), od 157 (.build [(1, (ku 3)), (1, (tm 156)), (1, (ki 0)), (1, (ki 0))]), on (.store 4 (tm 6) (tm 157))] [kp [6] [6, 70, 79, 86, 94, 105, 126, 142, 156]]) .ret)))))))))
theorem Td (h : ∀ K : St → Prop, K = run P Γ Lt Q → run P Γ q06 (Aq K Q) s) : run P Γ Lt Q s := Ac h
def Ar : List RV := [.cell 6 4 true]
/- probecard/probecardlaw03.name (function 34) -/
abbrev q2C : IC := (.seq (.reg [od 2 (.mv (.const (sV [])))] [kp [0] []]) (.seq (.reg [om 3 0, od 4 (.bin .quo (tm 3) (ki 10)), od 5 (.bin .add (ki 48) (tm 4)), od 6 (.conv .u8 (tm 5)), om 7 0, od 8 (.bin .rem (tm 7) (ki 10)), od 9 (.bin .add (ki 48)
 (tm 8)), od 10 (.conv .u8 (tm 9)), od 11 (.bsl true 5 1 [(ku 110), (tm 6), (tm 10)]), od 12 (.bytesStr (tm 11)), om 2 12] [kp [2] []]) .ret))
def q2D : List RV := [.tmp 2]
end
end Go.Lg
namespace Go.Lg
open Go Go.Proofs
theorem q6U : As Tryz.prog 9 q2B 178 1 Gu = true := by kernel_rfl
theorem q4V : As Tryz.prog 33 q07 158 3 Ar = true := by kernel_rfl
theorem q6V : As Tryz.prog 34 q2C 13 1 q2D = true := by kernel_rfl
end Go.Lg
namespace Go.Lg
open Go Go.Proofs
variable {Γ : Tables}
structure Gd where
 k : Int
 a : Int
 b : Int
 d : Int
def tGd (g : Gd) : List T := [tK g.k, tK g.a, tK g.b, tK g.d]
structure CD where
 i : Int
 f : Int
 d0 : Int
 d1 : Int
 bus : Bool
 mem : Bool
 p0 : Int
 p1 : Int
 p2 : Int
 p3 : Int
 gates : Sl Gd
 outs : Sl Int
def L8 (x : CD) : List T := [tK x.i, tK x.f, tK x.d0, tK x.d1, tB x.bus, tB x.mem, tK x.p0, tK x.p1, tK x.p2, tK x.p3, .sl (Bc tGd x.gates.l) x.gates.cap x.gates.nl, .sl (Af tK x.outs.l) x.outs.cap x.outs.nl]
def Wx (n : Int) : Prop := 0 ≤ n ∧ n ≤ 255
def q6W (g : Gd) : Prop := Wx g.k ∧ Wx g.a ∧ Wx g.b ∧ Wx g.d
def Yj (i : Nat) : List UInt8 := [110, UInt8.ofNat (48 + i / 10), UInt8.ofNat (48 + i % 10)]
theorem qCU (i : Nat) (hi : i < 100) : A3 Tryz.prog Γ 34 [tI i] (tS (Yj i)) := by
 refine A7 q6V rfl ?_
 have h1 : (i : Int).tdiv 10 = ((i / 10 : Nat) : Int) := by rw [Int.tdiv_eq_ediv_of_nonneg (by omega)]; omega
 have h2 : (i : Int).tmod 10 = ((i % 10 : Nat) : Int) := by rw [Int.tmod_eq_emod_of_nonneg (by omega)]; omega
 have h3 : i / 10 < 10 := by omega
 have h4 : i % 10 < 10 := by omega
 generalize hq : i / 10 = q at *
 generalize hr : i % 10 = r at *
 have e1 : (48 + (q : Int)).toNat = 48 + q := by omega
 have e2 : (48 + (r : Int)).toNat = 48 + r := by omega
 simp (disch := omega) [q2C, sV, h1, h2, A4, B7, bytesOf]
 simp [q2D, Yj, hq, hr, tS, sV, e1, e2]
def q3b (nodes : List Nd) : List Int := Il [12] nodes 0
def q6X (bus : Bool) (g : Gd) (a b d : Int) (t : List Int) : Nd :=
 let kind := if bus then g.k.tmod 13 else g.k.tmod 9
 if kind < 6 then ⟨5 + kind, if 128 ≤ g.k then ⟨[a, b, d], none, none⟩ else ⟨[a, b], none, none⟩, 0, 0⟩
 else if kind = 6 then ⟨4, ⟨[a], none, none⟩, 0, 0⟩
 else if kind = 7 then ⟨11, ⟨[a, b, d], none, none⟩, 0, 0⟩
 else if kind = 9 ∨ kind = 10 then ⟨12, ⟨[a, b], none, none⟩, 0, 0⟩
 else if 10 < kind ∧ 0 < t.length then
  let k := g.a.tmod t.length
  ⟨13, if 1 < t.length then ⟨[t.getD k.toNat 0, t.getD ((k + 1).tmod t.length).toNat 0], none, none⟩ else ⟨[t.getD k.toNat 0], none, none⟩, 0, 0⟩
 else if 240 < g.k then ⟨1 + g.a.tmod 2, ⟨[], some 0, some true⟩, 0, 0⟩
 else ⟨3, ⟨[a], none, none⟩, 0, 0⟩
def q3c (bus : Bool) (g : Gd) (nodes : List Nd) : Nd := q6X bus g (g.a.tmod nodes.length) (g.b.tmod nodes.length) (g.d.tmod nodes.length) (q3b nodes)
theorem q7i {Q : AX → St → Prop} (nodes : List Nd) (cap : Option Nat) (nl : Option Bool) (hl : nodes.length ≤ 100) (a3 a4 a8 a9 a10 : T) (r6 : List T)
  (h0 : Q (.exit 0) ⟨[(2, .t (.sl (Bc Fg nodes) cap nl)), (3, .t a3), (4, .t a4), (6, .lp 6 0 0), (7, .t (tI nodes.length)), (8, .t a8), (9, .t a9), (10, .t a10), (11, .ls 51 0 (q3b nodes).length none), (12, .t (tI nodes.length)), (39, .t (tB false))], [(6, .bx (r6.map AV.t)), (51, .sl 3 1 (Bo (q3b nodes)))]⟩) : ∀ (k i : Nat), k + i = nodes.length →
  run Tryz.prog Γ Lt Q ⟨[(2, .t (.sl (Bc Fg nodes) cap nl)), (3, .t a3), (4, .t a4), (6, .lp 6 0 0), (7, .t (tI nodes.length)), (8, .t a8), (9, .t a9), (10, .t a10), (11, .ls 51 0 (q3b (nodes.take i)).length none), (12, .t (tI i))], [(6, .bx (r6.map AV.t)), (51, .sl 3 1 (Bo (q3b (nodes.take i))))]⟩
 | 0, i, h => by
  refine Td fun K hK => ?_
  have h2 : ¬ i < nodes.length := by omega
  have h3 : i = nodes.length := by omega
  simp [h2]
  subst h3
  simpa using h0
 | k + 1, i, h => by
  refine Td fun K hK => ?_
  have h2 : i < nodes.length := by omega
  have ht : nodes.take (i + 1) = nodes.take i ++ [nodes[i]] := by rw [List.take_add_one]; simp [h2]
  have hlen := Ua [12] (nodes.take i) 0
  have htl : (nodes.take i).length = i := by simp; omega
  have hal : q3b (nodes.take (i + 1)) = if nodes[i].k = 12 then q3b (nodes.take i) ++ [(i : Int)] else q3b (nodes.take i) := by
   simp only [q3b]
   rw [ht, q3W, htl]
   simp only [Il, Nat.zero_add, List.contains_cons, List.contains_nil, Bool.or_false, qEs, decide_eq_true_eq]
   split <;> simp
  have ih := q7i nodes cap nl hl a3 a4 a8 a9 a10 r6 h0 k (i + 1) (by omega)
  rw [hal] at ih
  simp only [q3b] at ih ⊢
  by_cases h5 : nodes[i].k = 12
  ·rw [if_pos h5] at ih
   have hw : E4 1 [[tI (i : Int)]] := by intro e he; simp at he; subst he; rfl
   simp (disch := omega) [h2, Aa, Dy Nd.d, Br, Fg, Bl, h5, A4, A1, A5, hw]
   rw [hK]
   simp at ih
   rw [E0 (f := tI) (x := (i : Int))]
   exact ⟨by omega, ih⟩
  ·rw [if_neg h5] at ih
   simp (disch := omega) [h2, Aa, Dy Nd.d, Br, Fg, Bl, h5, A4]
   rw [hK]
   simpa using ih
theorem C3 {a : Int} {n : Nat} (h0 : 0 ≤ a) (h1 : 0 < n) : 0 ≤ a.tmod n ∧ a.tmod n < n := by
 rw [Int.tmod_eq_emod_of_nonneg h0]
 exact ⟨Int.emod_nonneg _ (by omega), Int.emod_lt_of_pos _ (by omega)⟩
theorem C4 {ty s : Nat} {es : List (List T)} : Qs (.sl ty s es) = ∀ e ∈ es, ∀ t ∈ e, Am t = true := rfl
set_option maxHeartbeats 4000000 in
theorem qCV (x : CD) (g : Gd) (hg : q6W g) (nodes : List Nd) (cap : Option Nat) (nl : Option Bool) (h0 : 1 ≤ nodes.length) (h1 : nodes.length ≤ 100) :
  A3 Tryz.prog Γ 33 [.agg (L8 x), .agg (tGd g), .sl (Bc Fg nodes) cap nl] (.agg (Fg (q3c x.bus g nodes))) := by
 refine A7 q4V rfl ?_
 obtain ⟨⟨hk0, hk1⟩, ⟨ha0, ha1⟩, ⟨hb0, hb1⟩, ⟨hd0, hd1⟩⟩ := hg
 have hn0 : ¬ (nodes.length : Int) = 0 := by omega
 have hn1 : (nodes.length : Int) ≠ 0 := by omega
 have hne : ¬ nodes = [] := fun e => by subst e; simp at h0
 have hlp := fun Q a3 a4 a8 a9 a10 r6 h0 => q7i (Γ := Γ) (Q := Q) nodes cap nl h1 a3 a4 a8 a9 a10 r6 h0 nodes.length 0 (by omega)
 have ht := Ua [12] nodes 0
 simp only [q3b, List.take_zero, Il, List.length_nil, I8] at hlp
 simp (disch := omega) [q07, L8, tGd, Aa, A4, hn0]
 refine ⟨hne, hlp _ _ _ _ _ _ [_, _, _, _] ?_⟩
 clear hlp
 unfold q3c
 simp only [q3b]
 generalize Il [12] nodes 0 = t at *
 have m13 : 0 ≤ g.k.tmod 13 ∧ g.k.tmod 13 < 13 := C3 (n := 13) hk0 (by omega)
 have m9 : 0 ≤ g.k.tmod 9 ∧ g.k.tmod 9 < 9 := C3 (n := 9) hk0 (by omega)
 have ma : 0 ≤ g.a.tmod 2 ∧ g.a.tmod 2 < 2 := C3 (n := 2) ha0 (by omega)
 generalize g.a.tmod nodes.length = a
 generalize g.b.tmod nodes.length = b
 generalize g.d.tmod nodes.length = d
 unfold q6X
 cases x.bus
 ·generalize hkk : g.k.tmod 9 = kk at *
  by_cases k1 : kk < 6
  ·by_cases k2 : 128 ≤ g.k
   ·simp (disch := omega) [hkk, k1, k2, A4, B7, B6, Ar, Fg, Bl, Af, E4, Ag, C4]
   ·simp (disch := omega) [hkk, k1, k2, A4, B7, B6, Ar, Fg, Bl, Af, E4, Ag, C4]
  by_cases k3 : kk = 6
  ·simp (disch := omega) [hkk, k1, k3, A4, B7, B6, Ar, Fg, Bl, Af, E4, Ag, C4]
  by_cases k4 : kk = 7
  ·simp (disch := omega) [hkk, k1, k4, A4, B7, B6, Ar, Fg, Bl, Af, E4, Ag, C4]
  have k5 : kk = 8 := by omega
  by_cases k6 : 240 < g.k
  ·simp (disch := omega) [hkk, k5, k6, A4, B7, B6, Ar, Fg, Bl, Af, E4, Ag, C4]
  ·simp (disch := omega) [hkk, k5, k6, A4, B7, B6, Ar, Fg, Bl, Af, E4, Ag, C4]
 ·generalize hkk : g.k.tmod 13 = kk at *
  by_cases k1 : kk < 6
  ·by_cases k2 : 128 ≤ g.k
   ·simp (disch := omega) [hkk, k1, k2, A4, B7, B6, Ar, Fg, Bl, Af, E4, Ag, C4]
   ·simp (disch := omega) [hkk, k1, k2, A4, B7, B6, Ar, Fg, Bl, Af, E4, Ag, C4]
  by_cases k3 : kk = 6
  ·simp (disch := omega) [hkk, k1, k3, A4, B7, B6, Ar, Fg, Bl, Af, E4, Ag, C4]
  by_cases k4 : kk = 7
  ·simp (disch := omega) [hkk, k1, k4, A4, B7, B6, Ar, Fg, Bl, Af, E4, Ag, C4]
  by_cases k8 : kk = 9
  ·simp (disch := omega) [hkk, k8, A4, B7, B6, Ar, Fg, Bl, Af, E4, Ag, C4]
  by_cases k9 : kk = 10
  ·simp (disch := omega) [hkk, k9, A4, B7, B6, Ar, Fg, Bl, Af, E4, Ag, C4]
  by_cases k10 : 10 < kk ∧ 0 < t.length
  ·obtain ⟨k11, k10⟩ := k10
   have htn : ¬ (t.length : Int) = 0 := by omega
   have htne : ¬ t = [] := fun e => by subst e; simp at k10
   have htp : (0 : Int) < t.length := by omega
   have mt := C3 (n := t.length) ha0 k10
   generalize hq : g.a.tmod t.length = q at *
   have mt2 := C3 (a := q + 1) (n := t.length) (by omega) k10
   have hq0 : q.toNat < t.length := by omega
   generalize hq2 : (q + 1).tmod t.length = q2 at *
   have hq20 : q2.toNat < t.length := by omega
   have e1 := C2 (f := tI) 0 hq0
   have e2 := C2 (f := tI) 0 hq20
   by_cases k12 : 1 < t.length
   ·have k12' : (1 : Int) < t.length := by omega
    simp (disch := omega) [hkk, k1, k3, k4, k8, k9, k11, k10, htp, htn, k12, k12', hq, hq2, e1, e2, hq0, hq20, mt.1, mt.2, mt2.1, mt2.2, htne, A1, A5, A4, B7, B6, Fg, Bl, Ag, C4, Ar]
    simp [E4, Af]
   ·have k12' : ¬ (1 : Int) < t.length := by omega
    simp (disch := omega) [hkk, k1, k3, k4, k8, k9, k11, k10, htp, htn, k12, k12', hq, hq2, e1, e2, hq0, hq20, mt.1, mt.2, mt2.1, mt2.2, htne, A1, A5, A4, B7, B6, Fg, Bl, Ag, C4, Ar]
    simp [E4, Af]
  ·by_cases k11 : 10 < kk
   ·have k10' : t = [] := List.eq_nil_of_length_eq_zero (by omega)
    subst k10'
    by_cases k6 : 240 < g.k
    ·simp (disch := omega) [hkk, k1, k3, k4, k8, k9, k11, k6, A4, B7, B6, Ar, Fg, Bl, Af, E4, Ag, C4]
    ·simp (disch := omega) [hkk, k1, k3, k4, k8, k9, k11, k6, A4, B7, B6, Ar, Fg, Bl, Af, E4, Ag, C4]
   ·have k5 : kk = 8 := by omega
    by_cases k6 : 240 < g.k
    ·simp (disch := omega) [hkk, k5, k6, A4, B7, B6, Ar, Fg, Bl, Af, E4, Ag, C4]
    ·simp (disch := omega) [hkk, k5, k6, A4, B7, B6, Ar, Fg, Bl, Af, E4, Ag, C4]
def q0N : T := .sl [] (some 0) (some true)
def Qa (nodes : List Nd) (names : List (List UInt8)) (m : T) (outs : List Int) : List (Nat × B0) :=
 [(2, .bx [.t q0N, .t q0N, .t q0N, .t q0N]), (3, .bx [.ls 25 0 nodes.length none, .ls 144 0 names.length none, .t m, .ls 168 0 outs.length none]), (25, .sl 73 4 (Bc Fg nodes)), (144, .sl 9 1 (Af tS names)), (168, .sl 3 1 (Bo outs))]
def q5P : Nd := ⟨0, ⟨[], some 0, some true⟩, 0, 0⟩
def q4W (l : Int) : Nd := ⟨14, ⟨[l], some 1, some false⟩, 0, 0⟩
def q2v (b : Int) : Nd := ⟨15, ⟨[], some 0, some true⟩, 0, b⟩
theorem q7j {Q : AX → St → Prop} (x : CD) (hx : Wx x.i) (R : List Nd)
  (h0 : Q (.exit 0) ⟨[(1, .t (.ip (L8 x) 0)), (2, .lp 2 0 0), (3, .lp 3 0 0), (4, .t (tI (x.i.tmod 4 + 1))), (18, .t (tB false))], Qa R [] q0N []⟩) : ∀ (k : Nat) (i : Int) (ns : List Nd), k + i = x.i.tmod 4 + 1 → ns ++ List.replicate k q5P = R → ns.length + k ≤ 100 →
  run Tryz.prog Γ Qv Q ⟨[(1, .t (.ip (L8 x) 0)), (2, .lp 2 0 0), (3, .lp 3 0 0), (4, .t (tI i))], Qa ns [] q0N []⟩
 | 0, i, ns, h, hR, hl => by
  refine Ws fun K hK => ?_
  have m4 : 0 ≤ x.i.tmod 4 ∧ x.i.tmod 4 < 4 := C3 (n := 4) hx.1 (by omega)
  have h2 : ¬ i ≤ x.i.tmod 4 := by omega
  have h3 : i = x.i.tmod 4 + 1 := by omega
  simp only [List.replicate_zero, List.append_nil] at hR
  subst hR
  simp (disch := omega) [h2, L8, Qa, A4, B7]
  subst h3
  simpa [L8, Qa] using h0
 | k + 1, i, ns, h, hR, hl => by
  refine Ws fun K hK => ?_
  have m4 : 0 ≤ x.i.tmod 4 ∧ x.i.tmod 4 < 4 := C3 (n := 4) hx.1 (by omega)
  have h2 : i ≤ x.i.tmod 4 := by omega
  have ih := q7j x hx R h0 k (i + 1) (ns ++ [q5P]) (by omega) (by rw [← hR]; simp [List.replicate_succ]) (by simp; omega)
  have q : Bc Fg ns ++ [[tK 0, .sl [] (some 0) (some true), tI 0, tI 0]] = Bc Fg (ns ++ [q5P]) := q1a (f := Fg) (x := q5P)
  have hw4 : E4 4 [[tK 0, .sl [] (some 0) (some true), tI 0, tI 0]] := by intro e he; simp at he; subst he; rfl
  have ht : (Bc Fg ns).take ns.length = Bc Fg ns := List.take_of_length_le (by simp [Bc])
  simp (disch := omega) [h2, L8, Qa, A4, B7, Aa, hw4, Br, ht, q]
  rw [hK]
  simp [L8, Qa] at ih
  exact ⟨by omega, ih⟩
theorem qBX {Q : AX → St → Prop} (x : CD) (hx : Wx x.f) (first : Int) (R : List Nd)
  (h0 : Q (.exit 2) ⟨[(1, .t (.ip (L8 x) 0)), (2, .lp 2 0 0), (3, .lp 3 0 0), (5, .t (tI first)), (6, .t (tI (x.f.tmod 3))), (7, .t (tI (x.f.tmod 3))), (36, .t (tB false))], Qa R [] q0N []⟩) : ∀ (k : Nat) (i : Int) (ns : List Nd), k + i = x.f.tmod 3 → ns ++ List.replicate k (q4W 0) = R → ns.length + k ≤ 100 →
  run Tryz.prog Γ Qw Q ⟨[(1, .t (.ip (L8 x) 0)), (2, .lp 2 0 0), (3, .lp 3 0 0), (5, .t (tI first)), (6, .t (tI (x.f.tmod 3))), (7, .t (tI i))], Qa ns [] q0N []⟩
 | 0, i, ns, h, hR, hl => by
  refine Wt fun K hK => ?_
  have m3 : 0 ≤ x.f.tmod 3 ∧ x.f.tmod 3 < 3 := C3 (n := 3) hx.1 (by omega)
  have h2 : ¬ i < x.f.tmod 3 := by omega
  have h3 : i = x.f.tmod 3 := by omega
  simp only [List.replicate_zero, List.append_nil] at hR
  subst hR
  simp (disch := omega) [h2, L8, Qa, A4, B7]
  subst h3
  simpa [L8, Qa] using h0
 | k + 1, i, ns, h, hR, hl => by
  refine Wt fun K hK => ?_
  have m3 : 0 ≤ x.f.tmod 3 ∧ x.f.tmod 3 < 3 := C3 (n := 3) hx.1 (by omega)
  have h2 : i < x.f.tmod 3 := by omega
  have ih := qBX x hx first R h0 k (i + 1) (ns ++ [q4W 0]) (by omega) (by rw [← hR]; simp [List.replicate_succ]) (by simp; omega)
  have q : Bc Fg ns ++ [[tK 14, .sl [[tI 0]] (some 1) (some false), tI 0, tI 0]] = Bc Fg (ns ++ [q4W 0]) := q1a (f := Fg) (x := q4W 0)
  have hw4 : E4 4 [[tK 14, .sl [[tI 0]] (some 1) (some false), tI 0, tI 0]] := by intro e he; simp at he; subst he; rfl
  have ht : (Bc Fg ns).take ns.length = Bc Fg ns := List.take_of_length_le (by simp [Bc])
  simp (disch := omega) [h2, L8, Qa, A4, B7, Aa, hw4, Br, ht, q]
  rw [hK]
  simp [L8, Qa] at ih
  exact ⟨by omega, ih⟩
def Oc (bus : Bool) : List Gd → List Nd → List Nd
 | [], ns => ns
 | g :: l, ns => Oc bus l (ns ++ [q3c bus g ns])
theorem qF0 {l : List Gd} : E4 4 (Bc tGd l) := q3R fun _ => rfl
def Gd.z : Gd := ⟨0, 0, 0, 0⟩
theorem q9M {Q : AX → St → Prop} (x : CD) (hx : ∀ g ∈ x.gates.l, q6W g) (first dffs : Int) (R : List Nd)
  (h0 : Q (.exit 4) ⟨[(1, .t (.ip (L8 x) 0)), (2, .lp 2 0 0), (3, .lp 3 0 0), (5, .t (tI first)), (6, .t (tI dffs)), (8, .t (tI (min x.gates.l.length 8 : Nat))), (63, .t (tB false))], Qa R [] q0N []⟩) : ∀ (k i : Nat) (ns : List Nd), k + i = min x.gates.l.length 8 → Oc x.bus ((x.gates.l.take 8).drop i) ns = R → 1 ≤ ns.length → ns.length + k ≤ 100 →
  run Tryz.prog Γ Qx Q ⟨[(1, .t (.ip (L8 x) 0)), (2, .lp 2 0 0), (3, .lp 3 0 0), (5, .t (tI first)), (6, .t (tI dffs)), (8, .t (tI i))], Qa ns [] q0N []⟩
 | 0, i, ns, h, hR, hl1, hl => by
  refine Wu fun K hK => ?_
  rw [List.drop_of_length_le (by simp; omega)] at hR
  simp only [Oc] at hR
  subst hR
  have hi : i = min x.gates.l.length 8 := by omega
  by_cases h2 : i < x.gates.l.length
  ·have h3 : ¬ (i : Int) < 8 := by omega
   have h3' : ¬ i < 8 := by omega
   simp (disch := omega) [h2, h3, h3', L8, Qa, Aa]
   subst hi
   simpa [L8, Qa] using h0
  ·simp (disch := omega) [h2, L8, Qa, Aa]
   subst hi
   simpa [L8, Qa] using h0
 | k + 1, i, ns, h, hR, hl1, hl => by
  refine Wu fun K hK => ?_
  have h2 : i < x.gates.l.length := by omega
  have h3 : i < 8 := by omega
  have h3' : (i : Int) < 8 := by omega
  rw [List.drop_eq_getElem_cons (by simp; omega)] at hR
  simp only [Oc, List.getElem_take] at hR
  have ih := q9M x hx first dffs R h0 k (i + 1) (ns ++ [q3c x.bus x.gates.l[i] ns]) (by omega) hR (by simp) (by simp; omega)
  have hg := qCV (Γ := Γ) x x.gates.l[i] (hx _ (List.getElem_mem h2)) ns none none hl1 (by omega)
  generalize q3c x.bus x.gates.l[i] ns = gn at *
  have q : Bc Fg ns ++ [Fg gn] = Bc Fg (ns ++ [gn]) := q1a (f := Fg) (x := gn)
  have hw4 : E4 4 [Fg gn] := by intro e he; simp at he; subst he; rfl
  have ht : (Bc Fg ns).take ns.length = Bc Fg ns := List.take_of_length_le (by simp [Bc])
  have hget := Dy (f := tGd) Gd.z h2
  simp (disch := omega) [h2, h3, h3', L8, Qa, A4, Aa, hget, qF0, tGd]
  refine A0 hg (by simp [Ag, L8, ht, tGd]) ?_
  simp [Fg] at q hw4
  simp (disch := omega) [Fg, A4, Aa, hw4, Br, ht, q]
  rw [hK]
  simp [L8, Qa] at ih
  exact ⟨rfl, by omega, ih⟩
def ddN (x : CD) (i : Nat) : Int := if i = 0 then x.d0 else x.d1
def Tf (ns : List Nd) (j : Nat) (v : Int) : List Nd := ns.set j ⟨(ns.getD j Nd.d).k, ⟨[v], some 1, some false⟩, (ns.getD j Nd.d).mem, (ns.getD j Nd.d).bit⟩
def Yk (x : CD) (first : Nat) : Nat → Nat → List Nd → List Nd
 | 0, _, ns => ns
 | k + 1, i, ns => Yk x first k (i + 1) (Tf ns (first + i) ((ddN x i).tmod ns.length))
theorem Nl {ns : List Nd} {j : Nat} {v : Int} : (Tf ns j v).length = ns.length := by simp [Tf]
theorem q1e {x : CD} {f : Nat} : ∀ {k i : Nat} {ns : List Nd}, (Yk x f k i ns).length = ns.length
 | 0, _, _ => rfl
 | k + 1, i, ns => by simp only [Yk]; rw [q1e, Nl]
theorem qGq {ns : List Nd} {j : Nat} {v : Int} (hj : j < ns.length) : (Bc Fg ns).set j (((Bc Fg ns)[j]?.getD []).take 1 ++ T.sl [[tI v]] (some 1) (some false) :: ((Bc Fg ns)[j]?.getD []).drop 2) = Bc Fg (Tf ns j v) := by
 rw [Dy (f := Fg) Nd.d hj]
 unfold Tf Bc
 rw [List.map_set]
 rfl
theorem qBY {Q : AX → St → Prop} (x : CD) (h0' : Wx x.d0) (h1' : Wx x.d1) (first dn n : Nat) (hdn : dn ≤ 2) (hn : 1 ≤ n ∧ n ≤ 100) (hf : first + dn ≤ n) (R : List Nd)
  (h0 : Q (.exit 6) ⟨[(1, .t (.ip (L8 x) 0)), (2, .lp 2 0 0), (3, .lp 3 0 0), (5, .t (tI first)), (6, .t (tI dn)), (9, .t (tI n)), (10, .t (tI dn)), (85, .t (tB false))], Qa R [] q0N []⟩) : ∀ (k i : Nat) (ns : List Nd), k + i = dn → Yk x first k i ns = R → ns.length = n →
  run Tryz.prog Γ Qy Q ⟨[(1, .t (.ip (L8 x) 0)), (2, .lp 2 0 0), (3, .lp 3 0 0), (5, .t (tI first)), (6, .t (tI dn)), (9, .t (tI n)), (10, .t (tI i))], Qa ns [] q0N []⟩
 | 0, i, ns, h, hR, hl => by
  refine Wv fun K hK => ?_
  simp only [Yk] at hR
  subst hR
  have h2 : ¬ i < dn := by omega
  have h3 : i = dn := by omega
  simp (disch := omega) [h2, L8, Qa]
  subst h3
  simpa [L8, Qa] using h0
 | k + 1, i, ns, h, hR, hl => by
  refine Wv fun K hK => ?_
  have h2 : i < dn := by omega
  simp only [Yk] at hR
  have ih := qBY x h0' h1' first dn n hdn hn hf R h0 k (i + 1) _ (by omega) hR (by rw [Nl]; exact hl)
  have hi : i = 0 ∨ i = 1 := by omega
  have hj : first + i < ns.length := by omega
  have hn0 : ¬ (n : Int) = 0 := by omega
  have hget := Dy (f := Fg) Nd.d hj
  obtain ⟨h01, h02⟩ := h0'
  obtain ⟨h11, h12⟩ := h1'
  have hs := fun v => qGq (v := v) hj
  have hn' : ¬ n = 0 := by omega
  have hfi : first + i < n := by omega
  rcases hi with rfl | rfl
  ·have hdd : ddN x 0 = x.d0 := rfl
   have h2' : (0 : Int) < dn := by omega
   rw [hdd, hl] at ih
   simp only [Nat.add_zero] at hs hfi ih
   simp (disch := omega) [h2, h2', L8, Qa, A4, Aa, Br, hn0, hl, hs, hn', hfi]
   rw [hK]
   simp [L8, Qa, Nl, hl] at ih
   exact ih
  ·have hdd : ddN x 1 = x.d1 := rfl
   have h2' : (1 : Int) < dn := by omega
   rw [hdd, hl] at ih
   have hfn : ((first : Int) + 1).toNat = first + 1 := by omega
   have hfi' : (first : Int) + 1 < n := by omega
   simp (disch := omega) [h2, h2', L8, Qa, A4, Aa, Br, hn0, hl, hs, hn', hfi, hfn, hfi']
   rw [hK]
   simp [L8, Qa, Nl, hl] at ih
   exact ⟨by omega, ih⟩
theorem q9N {Q : AX → St → Prop} (x : CD) (n : Nat) (hn : n ≤ 100) (ns : List Nd) (m : T) (R : List (List UInt8))
  (h0 : Q (.exit 8) ⟨[(1, .t (.ip (L8 x) 0)), (2, .lp 2 0 0), (3, .lp 3 0 0), (9, .t (tI n)), (11, .t (tI n)), (136, .t (tB false))], Qa ns R m []⟩) : ∀ (k i : Nat) (nms : List (List UInt8)), k + i = n → nms ++ (List.range' i k).map Yj = R → nms.length = i →
  run Tryz.prog Γ Qz Q ⟨[(1, .t (.ip (L8 x) 0)), (2, .lp 2 0 0), (3, .lp 3 0 0), (9, .t (tI n)), (11, .t (tI i))], Qa ns nms m []⟩
 | 0, i, nms, h, hR, hl => by
  refine Ww fun K hK => ?_
  simp only [List.range'_zero, List.map_nil, List.append_nil] at hR
  subst hR
  have h2 : ¬ i < n := by omega
  have h3 : i = n := by omega
  simp (disch := omega) [h2, L8, Qa]
  subst h3
  simpa [L8, Qa] using h0
 | k + 1, i, nms, h, hR, hl => by
  refine Ww fun K hK => ?_
  have h2 : i < n := by omega
  rw [List.range'_succ, List.map_cons] at hR
  have ih := q9N x n hn ns m R h0 k (i + 1) (nms ++ [Yj i]) (by omega) (by rw [← hR]; simp) (by simp; omega)
  have e := qCU (Γ := Γ) i (by omega)
  have q : Af tS nms ++ [[tS (Yj i)]] = Af tS (nms ++ [Yj i]) := E0
  have ht : (Af tS nms).take i = Af tS nms := List.take_of_length_le (by simp [Af]; omega)
  generalize Yj i = nm at *
  have hw : E4 1 [[tS nm]] := by intro e he; simp at he; subst he; rfl
  simp (disch := omega) [h2, L8, Qa, A4, hl]
  refine A0 e rfl ?_
  simp only [tS, sV] at q hw
  simp (disch := omega) [tS, sV, A4, A1, hw, A5, ht, q, hl]
  rw [hK]
  simp [L8, Qa, hl] at ih
  exact ⟨by omega, ih⟩
theorem qBZ {Q : AX → St → Prop} (x : CD) (hx : ∀ b ∈ x.outs.l, Wx b) (n : Nat) (hn : 1 ≤ n ∧ n ≤ 100) (ns : List Nd) (nms : List (List UInt8)) (m : T) (R : List Int)
  (h0 : Q (.exit 10) ⟨[(1, .t (.ip (L8 x) 0)), (2, .lp 2 0 0), (3, .lp 3 0 0), (9, .t (tI n)), (12, .t (tI (min x.outs.l.length 3 : Nat))), (154, .t (tB false))], Qa ns nms m R⟩) : ∀ (k i : Nat) (os : List Int), k + i = min x.outs.l.length 3 → os ++ ((x.outs.l.take 3).drop i).map (fun b => b.tmod n) = R → os.length = i →
  run Tryz.prog Γ Ob Q ⟨[(1, .t (.ip (L8 x) 0)), (2, .lp 2 0 0), (3, .lp 3 0 0), (9, .t (tI n)), (12, .t (tI i))], Qa ns nms m os⟩
 | 0, i, os, h, hR, hl => by
  refine Vj fun K hK => ?_
  rw [List.drop_of_length_le (by simp; omega)] at hR
  simp only [List.map_nil, List.append_nil] at hR
  subst hR
  have hi : i = min x.outs.l.length 3 := by omega
  by_cases h2 : i < x.outs.l.length
  ·have h3 : ¬ (i : Int) < 3 := by omega
   have h3' : ¬ i < 3 := by omega
   simp (disch := omega) [h2, h3, h3', L8, Qa, A1]
   subst hi
   simpa [L8, Qa] using h0
  ·simp (disch := omega) [h2, L8, Qa, A1]
   subst hi
   simpa [L8, Qa] using h0
 | k + 1, i, os, h, hR, hl => by
  refine Vj fun K hK => ?_
  have h2 : i < x.outs.l.length := by omega
  have h3 : i < 3 := by omega
  have h3' : (i : Int) < 3 := by omega
  rw [List.drop_eq_getElem_cons (by simp; omega)] at hR
  simp only [List.map_cons, List.getElem_take] at hR
  have hb := hx _ (List.getElem_mem h2)
  obtain ⟨hb0, hb1⟩ := hb
  have hget := C2 (f := tK) 0 h2
  have hg2 : x.outs.l[i]?.getD 0 = x.outs.l[i] := by simp [h2]
  rw [hg2] at hget
  generalize x.outs.l[i] = b at *
  have hn0 : ¬ (n : Int) = 0 := by omega
  have hn0' : ¬ n = 0 := by omega
  have ih := qBZ x hx n hn ns nms m R h0 k (i + 1) (os ++ [b.tmod n]) (by omega) (by rw [← hR]; simp) (by simp; omega)
  have q : Af tI os ++ [[tI (b.tmod n)]] = Af tI (os ++ [b.tmod n]) := E0
  have ht : (Af tI os).take i = Af tI os := List.take_of_length_le (by simp [Af]; omega)
  have hw : E4 1 [[tI (b.tmod n)]] := by intro e he; simp at he; subst he; rfl
  simp (disch := omega) [h2, h3, h3', L8, Qa, A4, A1, A5, hget, hn0, hn0', hw, ht, q, hl]
  rw [hK]
  simp [L8, Qa, hl] at ih
  exact ⟨by omega, ih⟩
def Hg (x : CD) : List Nd := List.replicate (x.i.tmod 4 + 1).toNat q5P
def Et (x : CD) : List Nd := Hg x ++ List.replicate (x.f.tmod 3).toNat (q4W 0)
def E1 (x : CD) : List Nd := if x.mem then Et x ++ [q2v 0, q2v 1] else Et x
def Bn (x : CD) : List Nd := Oc x.bus (x.gates.l.take 8) (E1 x)
def Dm (x : CD) : List Nd := Yk x (Hg x).length (x.f.tmod 3).toNat 0 (Bn x)
def q5Q (x : CD) (n : Int) : List Mm := if x.mem then [⟨⟨[x.p0.tmod n], some 1, some false⟩, ⟨[x.p1.tmod n, x.p2.tmod n], some 2, some false⟩, x.p3.tmod n⟩] else []
def Jz (x : CD) : Ax :=
 ⟨⟨Dm x, none, none⟩, ⟨(List.range' 0 (Bn x).length).map Yj, none, none⟩, ⟨q5Q x (Bn x).length, some (if x.mem then 1 else 0), some (!x.mem)⟩, ⟨(x.outs.l.take 3).map (fun b => b.tmod (Bn x).length) ++ [((Bn x).length : Int) - 1], none, none⟩⟩
structure Yl (x : CD) : Prop where
 i : Wx x.i
 f : Wx x.f
 d0 : Wx x.d0
 d1 : Wx x.d1
 p0 : Wx x.p0
 p1 : Wx x.p1
 p2 : Wx x.p2
 p3 : Wx x.p3
 gates : ∀ g ∈ x.gates.l, q6W g
 outs : ∀ b ∈ x.outs.l, Wx b
theorem Zm {bus : Bool} : ∀ {l : List Gd} {ns : List Nd}, (Oc bus l ns).length = ns.length + l.length
 | [], ns => rfl
 | g :: l, ns => by simp only [Oc]; rw [Zm]; simp; omega
set_option maxHeartbeats 4000000 in
theorem qBa (x : CD) (hx : Yl x) : Ae Tryz.prog Γ 9 [.agg (L8 x)] (.agg (tC (Jz x))) := by
 refine B5 q6U rfl ?_
 have m4 : 0 ≤ x.i.tmod 4 ∧ x.i.tmod 4 < 4 := C3 (n := 4) hx.i.1 (by omega)
 have m3 : 0 ≤ x.f.tmod 3 ∧ x.f.tmod 3 < 3 := C3 (n := 3) hx.f.1 (by omega)
 have l1 : (Hg x).length = (x.i.tmod 4 + 1).toNat := by simp [Hg]
 have l2 : (Et x).length = (x.i.tmod 4 + 1).toNat + (x.f.tmod 3).toNat := by simp [Et, Hg]
 have l3 : (Et x).length ≤ (E1 x).length ∧ (E1 x).length ≤ 8 := by unfold E1; split <;> simp <;> omega
 have l4 : (Bn x).length = (E1 x).length + min 8 x.gates.l.length := by unfold Bn; rw [Zm]; simp
 have l5 : (Dm x).length = (Bn x).length := q1e
 have e1 := fun Q h0 => q7j (Γ := Γ) (Q := Q) x hx.i (Hg x) h0 (x.i.tmod 4 + 1).toNat 0 [] (by omega) rfl (by simp; omega)
 have e2 := fun Q h0 => qBX (Γ := Γ) (Q := Q) x hx.f (Hg x).length (Et x) h0 (x.f.tmod 3).toNat 0 (Hg x) (by omega) rfl (by omega)
 have e3 := fun Q h0 => q9M (Γ := Γ) (Q := Q) x hx.gates (Hg x).length (x.f.tmod 3) (Bn x) h0 (min x.gates.l.length 8) 0 (E1 x) (by omega) rfl (by omega) (by omega)
 have e4 := fun Q h0 => qBY (Γ := Γ) (Q := Q) x hx.d0 hx.d1 (Hg x).length (x.f.tmod 3).toNat (Bn x).length (by omega) (by omega) (by omega) (Dm x) h0 (x.f.tmod 3).toNat 0 (Bn x) (by omega) rfl rfl
 have e5 := fun Q m h0 => q9N (Γ := Γ) (Q := Q) x (Bn x).length (by omega) (Dm x) m _ h0 (Bn x).length 0 [] (by omega) rfl rfl
 have e6 := fun Q nms m h0 => qBZ (Γ := Γ) (Q := Q) x hx.outs (Bn x).length (by omega) (Dm x) nms m _ h0 (min x.outs.l.length 3) 0 [] (by omega) rfl rfl
 have hc : ((x.f.tmod 3).toNat : Int) = x.f.tmod 3 := by omega
 rw [hc] at e4
 have hk1 := fun {s : Nat} {e : List (List T)} {n : Nat} (h : e.length ≤ n) => List.take_of_length_le h
 have a33 : ∀ {os : List Int}, Af tI os ++ [[tI (((Bn x).length : Int) - 1)]] = Af tI (os ++ [((Bn x).length : Int) - 1]) := E0
 have hw1 : E4 1 [[tI (((Bn x).length : Int) - 1)]] := by intro e he; simp at he; subst he; rfl
 have hol : ((x.outs.l.take 3).map (fun b => b.tmod ((Bn x).length : Int))).length = min 3 x.outs.l.length := by simp
 have hnl : ((List.range' 0 (Bn x).length).map Yj).length = (Bn x).length := by simp
 simp only [List.nil_append, List.drop_zero] at e5 e6
 generalize hN : Bn x = N4 at *
 generalize hO : (x.outs.l.take 3).map (fun b => b.tmod (N4.length : Int)) = O at *
 generalize hNm : (List.range' 0 N4.length).map Yj = Nm at *
 simp (config := { maxSteps := 2000000 }) [q2B, L8]
 refine e1 _ ?_
 simp (config := { maxSteps := 2000000 }) (disch := omega) [L8, Qa, A4, B7, Aa]
 refine e2 _ ?_
 cases hm : x.mem
 ·have h3 : E1 x = Et x := by simp [E1, hm]
  rw [h3] at e3 l3 l4
  simp only [L8, Qa, hm] at e3 e4 e5 e6
  simp (config := { maxSteps := 2000000 }) (disch := omega) [L8, Qa, A4, B7, Aa, A1, q0c, Br, A5, hm]
  refine e3 _ ?_
  simp (config := { maxSteps := 2000000 }) (disch := omega) [L8, Qa, A4, B7, Aa, A1, q0c, Br, A5, hm]
  refine e4 _ ?_
  simp (config := { maxSteps := 2000000 }) (disch := omega) [L8, Qa, A4, B7, Aa, A1, q0c, Br, A5, hm]
  refine e5 _ _ ?_
  simp (config := { maxSteps := 2000000 }) (disch := omega) [L8, Qa, A4, B7, Aa, A1, q0c, Br, A5, hm]
  refine e6 _ _ _ ?_
  have ht : (Af tI O).take O.length = Af tI O := List.take_of_length_le (by simp [Af])
  simp (config := { maxSteps := 2000000 }) (disch := omega) [L8, Qa, A4, B7, Aa, A1, q0c, Br, A5, hm, ht, hw1, a33, Gu, Ag, q0N]
  have ht2 : (Af tI (O ++ [(N4.length : Int) - 1])).take (O.length + 1) = Af tI (O ++ [(N4.length : Int) - 1]) := List.take_of_length_le (by simp [Af])
  refine ⟨by omega, ?_⟩
  rw [ht2]
  simp [tC, Jz, q5Q, hm, A6, A8, Ad, Bl, hN, hO, hNm, Bc]
 ·have h3 : E1 x = Et x ++ [q2v 0, q2v 1] := by simp [E1, hm]
  have l3' : (E1 x).length = (Et x).length + 2 := by rw [h3]; simp
  have q : Bc Fg (Et x) ++ [[tK 15, .sl [] (some 0) (some true), tI 0, tI 0], [tK 15, .sl [] (some 0) (some true), tI 0, tI 1]] = Bc Fg (E1 x) := by rw [h3]; simp [Bc, q2v, Fg, Bl, Af]
  have hw4 : E4 4 [[tK 15, .sl [] (some 0) (some true), tI 0, tI 0], [tK 15, .sl [] (some 0) (some true), tI 0, tI 1]] := by intro e he; simp at he; rcases he with rfl | rfl <;> rfl
  have ht0 : (Bc Fg (Et x)).take (Et x).length = Bc Fg (Et x) := List.take_of_length_le (by simp [Bc])
  have ht : (Af tI O).take O.length = Af tI O := List.take_of_length_le (by simp [Af])
  have hn0 : ¬ (N4.length : Int) = 0 := by omega
  have hn0' : ¬ N4 = [] := fun e => by rw [e] at l4; simp at l4; omega
  obtain ⟨b00, b01⟩ := hx.p0
  obtain ⟨b10, b11⟩ := hx.p1
  obtain ⟨b20, b21⟩ := hx.p2
  obtain ⟨b30, b31⟩ := hx.p3
  simp only [L8, Qa, hm] at e3 e4 e5 e6
  simp (config := { maxSteps := 2000000 }) (disch := omega) [L8, Qa, A4, B7, Aa, A1, Br, A5, hm, ht, ht0, hw1, hw4, q, hn0, hn0', a33, Gu, Ag, q0N]
  refine ⟨by omega, ?_⟩
  rw [← l3']
  refine e3 _ ?_
  simp (config := { maxSteps := 2000000 }) (disch := omega) [L8, Qa, A4, B7, Aa, A1, Br, A5, hm, ht, ht0, hw1, hw4, q, hn0, hn0', a33, Gu, Ag, q0N]
  refine e4 _ ?_
  simp (config := { maxSteps := 2000000 }) (disch := omega) [L8, Qa, A4, B7, Aa, A1, Br, A5, hm, ht, ht0, hw1, hw4, q, hn0, hn0', a33, Gu, Ag, q0N]
  refine e5 _ _ ?_
  simp (config := { maxSteps := 2000000 }) (disch := omega) [L8, Qa, A4, B7, Aa, A1, Br, A5, hm, ht, ht0, hw1, hw4, q, hn0, hn0', a33, Gu, Ag, q0N]
  refine e6 _ _ _ ?_
  simp (config := { maxSteps := 2000000 }) (disch := omega) [L8, Qa, A4, B7, Aa, A1, Br, A5, hm, ht, ht0, hw1, hw4, q, hn0, hn0', a33, Gu, Ag, q0N]
  have ht2 : (Af tI (O ++ [(N4.length : Int) - 1])).take (O.length + 1) = Af tI (O ++ [(N4.length : Int) - 1]) := List.take_of_length_le (by simp [Af])
  refine ⟨by omega, ?_⟩
  rw [ht2]
  simp [tC, Jz, q5Q, hm, A6, A8, Ad, Bl, hN, hO, hNm, Bc, tMm, Af]
def q2w (x : Nd) : Prop := (0 ≤ x.k ∧ x.k ≤ 255) ∧ x.inn.l.length ≤ 1000000000
theorem qDX {bus : Bool} {g : Gd} {a b d : Int} {t : List Int} (hg : q6W g) : q2w (q6X bus g a b d t) := by
 have m13 : 0 ≤ g.k.tmod 13 ∧ g.k.tmod 13 < 13 := C3 (n := 13) hg.1.1 (by omega)
 have m9 : 0 ≤ g.k.tmod 9 ∧ g.k.tmod 9 < 9 := C3 (n := 9) hg.1.1 (by omega)
 have ma : 0 ≤ g.a.tmod 2 ∧ g.a.tmod 2 < 2 := C3 (n := 2) hg.2.1.1 (by omega)
 have hk : 0 ≤ (if bus then g.k.tmod 13 else g.k.tmod 9) ∧ (if bus then g.k.tmod 13 else g.k.tmod 9) < 13 := by cases bus <;> simp <;> omega
 unfold q6X
 simp only
 generalize (if bus = true then g.k.tmod 13 else g.k.tmod 9) = kk at *
 unfold q2w
 split
 ·refine ⟨⟨by simp; omega, by simp; omega⟩, ?_⟩
  simp only; split <;> simp
 split
 ·simp
 split
 ·simp
 split
 ·simp
 split
 ·simp only; split <;> simp
 split
 ·simp; omega
 ·simp
theorem q7k {bus : Bool} : ∀ {l : List Gd} {ns : List Nd}, (∀ g ∈ l, q6W g) → (∀ x ∈ ns, q2w x) → ∀ x ∈ Oc bus l ns, q2w x
 | [], ns, _, h => h
 | g :: l, ns, hg, h => by
  simp only [Oc]
  refine q7k (fun y hy => hg y (List.mem_cons_of_mem _ hy)) fun y hy => ?_
  rcases List.mem_append.1 hy with hy | hy
  ·exact h y hy
  ·simp at hy; subst hy; exact qDX (hg g List.mem_cons_self)
theorem qDY {ns : List Nd} {j : Nat} {v : Int} (h : ∀ x ∈ ns, q2w x) : ∀ x ∈ Tf ns j v, q2w x := by
 intro x hx
 unfold Tf at hx
 rcases List.mem_or_eq_of_mem_set hx with hx | rfl
 ·exact h x hx
 ·refine ⟨?_, by simp⟩
  simp only [List.getD_eq_getElem?_getD]
  by_cases hj : j < ns.length
  ·simp only [List.getElem?_eq_getElem hj, Option.getD_some]
   exact (h _ (List.getElem_mem hj)).1
  ·simp [List.getElem?_eq_none (Nat.le_of_not_lt hj), Nd.d]
theorem q9O {c : CD} {f : Nat} : ∀ {k i : Nat} {ns : List Nd}, (∀ x ∈ ns, q2w x) → ∀ x ∈ Yk c f k i ns, q2w x
 | 0, _, _, h => h
 | k + 1, i, ns, h => by simp only [Yk]; exact q9O (qDY h)
theorem qCW {x : CD} (hx : Yl x) : ∀ n ∈ Dm x, q2w n := by
 have h1 : ∀ n ∈ Hg x, q2w n := fun n hn => by rw [(List.mem_replicate.1 hn).2]; simp [q2w, q5P]
 have h2 : ∀ n ∈ Et x, q2w n := fun n hn => by
  rcases List.mem_append.1 hn with hn | hn
  ·exact h1 n hn
  ·rw [(List.mem_replicate.1 hn).2]; simp [q2w, q4W]
 have h3 : ∀ n ∈ E1 x, q2w n := by
  unfold E1
  split
  ·intro n hn
   rcases List.mem_append.1 hn with hn | hn
   ·exact h2 n hn
   ·simp at hn; rcases hn with rfl | rfl <;> simp [q2w, q2v]
  ·exact h2
 exact q9O (q7k (fun g hg => hx.gates g (List.mem_of_mem_take hg)) h3)
theorem Zn {x : CD} (hx : Yl x) : 1 ≤ (Bn x).length ∧ (Bn x).length ≤ 16 := by
 have m4 : 0 ≤ x.i.tmod 4 ∧ x.i.tmod 4 < 4 := C3 (n := 4) hx.i.1 (by omega)
 have m3 : 0 ≤ x.f.tmod 3 ∧ x.f.tmod 3 < 3 := C3 (n := 3) hx.f.1 (by omega)
 have l2 : (Et x).length = (x.i.tmod 4 + 1).toNat + (x.f.tmod 3).toNat := by simp [Et, Hg]
 have l3 : (Et x).length ≤ (E1 x).length ∧ (E1 x).length ≤ 8 := by unfold E1; split <;> simp <;> omega
 have l4 : (Bn x).length = (E1 x).length + min 8 x.gates.l.length := by unfold Bn; rw [Zm]; simp
 omega
theorem Zo {x : CD} (hx : Yl x) : (Dm x).length = (Bn x).length := q1e
theorem q8K {x : CD} (hx : Yl x) : COk (Jz x) := by
 have l := Zn hx
 have l5 := Zo hx
 have hn := qCW hx
 refine ⟨⟨?_, ?_, ?_, ?_, fun n h => (hn n h).1, fun n h => (hn n h).2, ?_⟩, ?_⟩
 ·simp only [Jz]; omega
 ·simp [Jz]; omega
 ·simp only [Jz, q5Q]; split <;> simp
 ·simp [Jz]; omega
 ·intro m hm
  simp only [Jz, q5Q] at hm
  split at hm
  ·simp at hm; subst hm; simp
  ·cases hm
 ·intro s hs b hb
  simp only [Jz] at hs
  obtain ⟨i, hi, rfl⟩ := List.mem_map.1 hs
  have := (List.mem_range'_1.1 hi).2
  have h1 : i / 10 < 10 := by omega
  have h2 : i % 10 < 10 := by omega
  have key : ∀ q : Nat, q < 10 → UInt8.ofNat (48 + q) < 128 := by decide
  simp only [Yj, List.mem_cons, List.not_mem_nil, or_false] at hb
  rcases hb with rfl | rfl | rfl
  ·decide
  ·exact key _ h1
  ·exact key _ h2
end Go.Lg
namespace Go.Lg
open Go Go.Proofs Go.Proofs.YtjcogpofldkniaaGreatDoor
def G0 (g : Nat) : Option (List T) := if g = 0 then some qCL else none
theorem qJY : GOk G0 := rfl
theorem qIa : Tryz.prog.globalNamed "probecard/logic.fanins" = some 0 := by kernel_rfl
theorem qGr : (Tryz.prog.globals[0]?).map (·.type) = some 179 := by kernel_rfl
theorem qGs : Tryz.prog.cellsOf 3 = 1 := by kernel_rfl
theorem qDZ : Tryz.prog.cellsOf 4 = 1 := by kernel_rfl
theorem q0o : Tryz.prog.cellsOf 5 = 1 := by kernel_rfl
theorem qBb : Tryz.prog.cellsOf 22 = 2 := by kernel_rfl
theorem qBc : Tryz.prog.cellsOf 23 = 4 := by kernel_rfl
theorem qF1 : Tryz.prog.cellsOf 24 = 1 := by kernel_rfl
theorem q1f : Tryz.prog.cellsOf 25 = 1 := by kernel_rfl
theorem qF2 : Tryz.prog.cellsOf 27 = 12 := by kernel_rfl
theorem qBd : Tryz.prog.cellsOf 96 = 3 := by kernel_rfl
theorem qBe : Tryz.prog.cellsOf 98 = 4 := by kernel_rfl
theorem qDa : Tryz.prog.cellsOf 178 = 2 := by kernel_rfl
theorem qDb : Tryz.prog.cellsOf 179 = 32 := by kernel_rfl
theorem qCX {W : World} (h : laidMet Tryz.prog [("probecard/logic.fanins", Rows.laid_probecard_logic_fanins)] W) : ∀ j, j < 32 → W.cell? ⟨0, j, none⟩ = (q6I.flatMap fun x => [Value.int .i64 x.1, Value.int .i64 x.2])[j]? := by
 obtain ⟨ps, ⟨g', t', cs, fuel, p, q, hg', ht', hvar, hd, _, _⟩, _⟩ := h
 obtain rfl := Option.some.inj (qIa.symm.trans hg')
 obtain rfl := Option.some.inj (qGr.symm.trans ht')
 have hc := qAa (l := q6I) Tryz.underlying179 Tryz.underlying178 Tryz.underlying3 qGs qDa qDb hd
 intro j hj
 have := World.var?_cell qIa hvar j
 rw [this, ← hc]
 simp
theorem qGt {W : World} (h : laidMet Tryz.prog [("probecard/logic.fanins", Rows.laid_probecard_logic_fanins)] W) : Gl G0 W (Old W) := by
 have hc := qCX h
 intro g cs hg
 unfold G0 at hg
 split at hg
 case isFalse => cases hg
 rename_i h0; subst h0
 simp only [Option.some.injEq] at hg
 subst hg
 have hlen : (q6I.flatMap fun x => [Value.int .i64 x.1, Value.int .i64 x.2]).length = 32 := rfl
 have hfc : qCL = (q6I.flatMap fun x => [Value.int .i64 x.1, Value.int .i64 x.2]).map T.v := rfl
 have hfl : qCL.length = 32 := rfl
 refine .ip qCL 0 0 0 (fun j => (q6I.flatMap fun x => [Value.int .i64 x.1, Value.int .i64 x.2])[j]?.getD .nilFunc) ?_ ?_ ?_ ?_
 ·intro j hj
  rw [Nat.zero_add, hc j (by omega)]
  rw [List.getElem?_eq_getElem (by omega)]; rfl
 ·intro j t ht
  rw [hfc, List.getElem?_map, Option.map_eq_some_iff] at ht
  obtain ⟨v, hv, rfl⟩ := ht
  simp only [hv, Option.getD_some]
  exact .v v
 ·intro j t ht
  rw [hfc, List.getElem?_map, Option.map_eq_some_iff] at ht
  obtain ⟨v, hv, rfl⟩ := ht
  have hm := List.mem_of_getElem? hv
  obtain ⟨x, _, hx⟩ := List.mem_flatMap.1 hm
  simp at hx
  rcases hx with rfl | rfl <;> rfl
 ·have := hc 0 (by omega)
  rw [List.getElem?_eq_getElem (by omega)] at this
  exact qBT this
theorem qGu {n : Int} (h : (Lit.int .u8 n).wf = true) : Wx n := by
 simp [Lit.wf, IntKind.min, IntKind.max, IntKind.signed, IntKind.bits] at h
 exact ⟨h.1, by omega⟩
theorem q9P : Rd Tryz.prog 5 fun ts => ∃ n, ts = [tK n] ∧ Wx n := (qGl Tryz.underlying5).mono fun ts ⟨n, h, hw⟩ => ⟨n, h, qGu hw⟩
theorem q5j {α : Type} {f : α → List T} {Q : α → Prop} : ∀ {es : List (List T)}, (∀ x ∈ es, ∃ a, x = f a ∧ Q a) → ∃ l : List α, es = l.map f ∧ ∀ a ∈ l, Q a
 | [], _ => ⟨[], rfl, by simp⟩
 | e :: es, h => by
  obtain ⟨a, ha, hq⟩ := h e List.mem_cons_self
  obtain ⟨l, hl, hql⟩ := q5j fun x hx => h x (List.mem_cons_of_mem _ hx)
  exact ⟨a :: l, by rw [ha, hl]; rfl, fun b hb => by rcases List.mem_cons.1 hb with rfl | hb; exact hq; exact hql b hb⟩
theorem qJS : Rd Tryz.prog 98 fun ts => ∃ g, ts = tGd g ∧ q6W g := by
 refine (Yc (l := [(1, fun ts => ∃ n, ts = [tK n] ∧ Wx n), (3, q4w (List.replicate 3 (1, fun ts => ∃ n, ts = [tK n] ∧ Wx n)))]) Tryz.underlying98 qBe (.cons rfl q0o q9P (.cons rfl qBd (q6H Tryz.underlying96 q0o qBd q9P) (.nil _)))).mono fun ts h => ?_
 obtain ⟨_, _, rfl, ⟨k, rfl, hk⟩, _, _, rfl, ⟨_, _, rfl, ⟨a, rfl, ha⟩, _, _, rfl, ⟨b, rfl, hb⟩, _, _, rfl, ⟨d, rfl, hd⟩, rfl⟩, rfl⟩ := h
 exact ⟨⟨k, a, b, d⟩, rfl, hk, ha, hb, hd⟩
theorem qJT : Rd Tryz.prog 27 fun ts => ∃ x, ts = L8 x ∧ Yl x := by
 refine (Yc (l := [(1, fun ts => ∃ n, ts = [tK n] ∧ Wx n), (1, fun ts => ∃ n, ts = [tK n] ∧ Wx n), (2, q4w (List.replicate 2 (1, fun ts => ∃ n, ts = [tK n] ∧ Wx n))), (1, fun ts => ∃ b, ts = [tB b]), (1, fun ts => ∃ b, ts = [tB b]), (4, q4w (List.replicate 4 (1, fun ts => ∃ n, ts = [tK n] ∧ Wx n))), (1, _), (1, _)]) Tryz.underlying27 qF2
  (.cons rfl q0o q9P (.cons rfl q0o q9P (.cons rfl qBb (q6H Tryz.underlying22 q0o qBb q9P) (.cons rfl qDZ (qBU Tryz.underlying4) (.cons rfl qDZ (qBU Tryz.underlying4) (.cons rfl qBc (q6H Tryz.underlying23 q0o qBc q9P)
   (.cons rfl qF1 (q6G Tryz.underlying24 qBe (by decide) qJS) (.cons rfl q1f (q6G Tryz.underlying25 q0o (by decide) q9P) (.nil _)))))))))).mono fun ts h => ?_
 obtain ⟨_, _, rfl, ⟨i, rfl, hi⟩, _, _, rfl, ⟨f, rfl, hf⟩, _, _, rfl, ⟨_, _, rfl, ⟨d0, rfl, hd0⟩, _, _, rfl, ⟨d1, rfl, hd1⟩, rfl⟩, _, _, rfl, ⟨bus, rfl⟩, _, _, rfl, ⟨mem, rfl⟩, _, _, rfl,
  ⟨_, _, rfl, ⟨p0, rfl, h0⟩, _, _, rfl, ⟨p1, rfl, h1⟩, _, _, rfl, ⟨p2, rfl, h2⟩, _, _, rfl, ⟨p3, rfl, h3⟩, rfl⟩, _, _, rfl, ⟨es, cap, nl, rfl, _, hes⟩, _, _, rfl, ⟨os, cap2, nl2, rfl, _, hos⟩, rfl⟩ := h
 obtain ⟨gs, rfl, hgs⟩ := q5j (f := tGd) (Q := q6W) fun x hx => (hes x hx).1
 obtain ⟨ol, rfl, hol⟩ := q5j (f := fun n => [tK n]) (Q := Wx) fun x hx => (hos x hx).1
 exact ⟨⟨i, f, d0, d1, bus, mem, p0, p1, p2, p3, ⟨gs, cap, nl⟩, ⟨ol, cap2, nl2⟩⟩, rfl, ⟨hi, hf, hd0, hd1, h0, h1, h2, h3, hgs, hol⟩⟩
end Go.Lg
namespace Go.Proofs.YtjcogpofldkniaaGreatDoor
open Go Go.Lg Go.ChangeShapes Go.WideShapes Go.ChangeAt Go.RowKit
theorem own : ownKnob Tryz.prog.godebug = none := by kernel_rfl
theorem qJH : laidOutB Tryz.prog = true := by kernel_rfl
theorem qJZ {W : World} (h : laidMetH Tryz.prog [("probecard/logic.fanins", Rows.laid_probecard_logic_fanins)] W) : Gl G0 W (Old W) := by
 rw [MakeChecks.laidMetH_plain _ _ _ (by kernel_rfl)] at h
 exact qGt h
theorem qJI {H : Type} {enc : TypeId × Value → H} {W : World} {base : Nat} {v : Value} {d : DataW H} {p : List MemPlace} (hval : Value.okWide Tryz.prog W .any base 27 v) (h : DataW.Trod enc Tryz.prog W 0 (fun _ => true) true 27 v d p) : ∃ x, Yl x ∧ TR W (Old W) (.agg (L8 x)) v := by
 simp only [Value.okWide, Tryz.underlying27] at hval
 obtain ⟨cs, rfl, _, _⟩ := hval
 obtain ⟨fuel, hf⟩ := h
 obtain ⟨ts, ⟨x, rfl, hx⟩, htr, ho⟩ := qJT H enc W true fuel _ _ hf
 exact ⟨x, hx, qDP htr ho⟩
noncomputable def qHq (os : Os) : World :=
 { World.holding Tryz.prog os ⟨#[], #[], []⟩ with heap := (World.holding Tryz.prog os ⟨#[], #[], []⟩).heap.modify 0 fun
   | .cells _ t frozen => .cells (q6I.flatMap fun x => [Value.int .i64 x.1, Value.int .i64 x.2]).toArray t frozen
   | o => o }
def c0 : Value := .agg #[.int .u8 0, .int .u8 0, .int .u8 0, .int .u8 0, .bool false, .bool false, .int .u8 0, .int .u8 0, .int .u8 0, .int .u8 0, .slice none 0 0, .slice none 0 0]
def d0 {H : Type} : DataW H := .agg [.lit (.int .u8 0), .lit (.int .u8 0), .agg [.lit (.int .u8 0), .lit (.int .u8 0)], .lit (.bool false), .lit (.bool false), .agg [.lit (.int .u8 0), .lit (.int .u8 0), .lit (.int .u8 0), .lit (.int .u8 0)], .nil, .nil]
end Go.Proofs.YtjcogpofldkniaaGreatDoor
namespace Go.Lg
open Go Go.Proofs
def Du (v : Int) : Int := if v < 2 then v else 2
def E2 (v : Int) : Int := if 3 < v then 2 else v
def Kz (v : Int) : Bool := decide (v ≤ 1)
def qDc (a b : Int) : Bool := decide (E2 a = E2 b ∨ E2 a = 2)
def Uc (v : Int) : Int := if v ≤ 1 then 1 - v else 2
def K1 (low high : Int) : Int → List Int → Int
 | out, [] => out
 | out, v :: l => if v = low then low else if v ≠ high then K1 low high 2 l else K1 low high out l
def qCY (a b : Int) : Int := if a = b then 0 else 1
def Ym : Int → List Int → Int
 | out, [] => out
 | out, v :: l => if v ≤ 1 then Ym (qCY out v) l else 2
def q6Y (s a b : Int) : Int := if s = 0 then Du a else if s = 1 then Du b else if a = b then Du a else 2
def q8L (e d : Int) : Int := if e = 0 then 3 else if e = 1 then Du d else 2
def q4X (l : List Int) : Bool := l.contains 0 && l.contains 1
def qCZ (v : Int) : Bool := decide (E2 v = 2)
def qDd (v : Int) : Bool := decide (v ≠ 3)
def q6Z (l : List Int) : Int := match l.findIdx? qDd with
 | none => 3
 | some i => if q4X l = true ∨ l.any qCZ = true then 2 else l.getD i 0
def Fa (k : Int) (l : List Int) : Int :=
 if k = 1 then 0 else if k = 2 then 1 else if k = 3 then Du (l.getD 0 0) else if k = 4 then Uc (l.getD 0 0) else
 if k = 5 then K1 0 1 1 l else if k = 6 then Uc (K1 0 1 1 l) else if k = 7 then K1 1 0 0 l else if k = 8 then Uc (K1 1 0 0 l) else
 if k = 9 then Ym 0 l else if k = 10 then Uc (Ym 0 l) else if k = 11 then q6Y (l.getD 0 0) (l.getD 1 0) (l.getD 2 0) else
 if k = 12 then q8L (l.getD 0 0) (l.getD 1 0) else if k = 13 then q6Z l else 2
def q4Y (k : Int) (n : Nat) : Bool := decide ((n : Int) < (Q8 k).1 ∨ (Q8 k).2 < (n : Int))
def Oe (k : Int) (l : List Int) : Int := if q4Y k l.length = true then 2 else Fa k l
theorem q7l (R : Int → Int → Prop) {k : Int} {l m : List Int} (h1 : k = 1 → R (0) (0)) (h2 : k = 2 → R (1) (1)) (h3 : k = 3 → R (Du (l.getD 0 0)) (Du (m.getD 0 0))) (h4 : k = 4 → R (Uc (l.getD 0 0)) (Uc (m.getD 0 0))) (h5 : k = 5 → R (K1 0 1 1 l) (K1 0 1 1 m)) (h6 : k = 6 → R (Uc (K1 0 1 1 l)) (Uc (K1 0 1 1 m))) (h7 : k = 7 → R (K1 1 0 0 l) (K1 1 0 0 m)) (h8 : k = 8 → R (Uc (K1 1 0 0 l)) (Uc (K1 1 0 0 m))) (h9 : k = 9 → R (Ym 0 l) (Ym 0 m)) (h10 : k = 10 → R (Uc (Ym 0 l)) (Uc (Ym 0 m))) (h11 : k = 11 → R (q6Y (l.getD 0 0) (l.getD 1 0) (l.getD 2 0)) (q6Y (m.getD 0 0) (m.getD 1 0) (m.getD 2 0))) (h12 : k = 12 → R (q8L (l.getD 0 0) (l.getD 1 0)) (q8L (m.getD 0 0) (m.getD 1 0))) (h13 : k = 13 → R (q6Z l) (q6Z m)) (h0 : k < 1 ∨ 13 < k → R 2 2) : R (Fa k l) (Fa k m) := by
 by_cases e1 : k = 1
 ·subst e1; exact h1 rfl
 by_cases e2 : k = 2
 ·subst e2; exact h2 rfl
 by_cases e3 : k = 3
 ·subst e3; exact h3 rfl
 by_cases e4 : k = 4
 ·subst e4; exact h4 rfl
 by_cases e5 : k = 5
 ·subst e5; exact h5 rfl
 by_cases e6 : k = 6
 ·subst e6; exact h6 rfl
 by_cases e7 : k = 7
 ·subst e7; exact h7 rfl
 by_cases e8 : k = 8
 ·subst e8; exact h8 rfl
 by_cases e9 : k = 9
 ·subst e9; exact h9 rfl
 by_cases e10 : k = 10
 ·subst e10; exact h10 rfl
 by_cases e11 : k = 11
 ·subst e11; exact h11 rfl
 by_cases e12 : k = 12
 ·subst e12; exact h12 rfl
 by_cases e13 : k = 13
 ·subst e13; exact h13 rfl
 unfold Fa
 rw [if_neg e1, if_neg e2, if_neg e3, if_neg e4, if_neg e5, if_neg e6, if_neg e7, if_neg e8, if_neg e9, if_neg e10, if_neg e11, if_neg e12, if_neg e13]
 rw [if_neg e1, if_neg e2, if_neg e3, if_neg e4, if_neg e5, if_neg e6, if_neg e7, if_neg e8, if_neg e9, if_neg e10, if_neg e11, if_neg e12, if_neg e13]
 exact h0 (by omega)
def V4 (v : Int) : Prop := 0 ≤ v ∧ v ≤ 3
theorem q3d {v : Int} (h : V4 v) : V4 (Du v) := by unfold Du V4 at *; split <;> omega
theorem q8M {v : Int} (h : V4 v) : V4 (Uc v) := by unfold Uc V4 at *; split <;> omega
theorem Vk {low high : Int} : ∀ {l : List Int} {out : Int}, out = 2 ∨ out = high → K1 low high out l = if low ∈ l then low else if out = high ∧ ∀ v ∈ l, v = high then high else 2
 | [], out, h => by
  simp only [K1, List.not_mem_nil, if_false]
  by_cases ho : out = high
  ·simp [ho]
  ·simp [ho]; omega
 | v :: l, out, h => by
  simp only [K1]
  by_cases h1 : v = low
  ·subst h1; simp
  have h1' : ¬ low = v := fun e => h1 e.symm
  by_cases h2 : v = high
  ·subst h2
   rw [if_neg h1, if_neg (by simp), Vk h]
   simp [h1']
  ·rw [if_neg h1, if_pos h2, Vk (.inl rfl)]
   by_cases hl : low ∈ l
   ·simp [hl]
   ·have : ¬ (out = high ∧ ∀ u ∈ v :: l, u = high) := fun ⟨_, h⟩ => h2 (h v List.mem_cons_self)
    have hlv : ¬ low ∈ v :: l := by simp [h1', hl]
    rw [if_neg hl, if_neg hlv, if_neg this]
    split
    ·rename_i h3; exact h3.1.symm
    ·rfl
theorem qAk : ∀ {l : List Int} {out : Int}, V4 out → (∀ v ∈ l, V4 v) → V4 (Ym out l)
 | [], out, h, _ => h
 | v :: l, out, h, hl => by
  simp only [Ym]
  split
  ·exact qAk (by unfold qCY; split <;> simp [V4]) fun u hu => hl u (List.mem_cons_of_mem _ hu)
  ·simp [V4]
theorem Y1 {l : List Int} (h : ∀ v ∈ l, V4 v) (i : Nat) : V4 (l.getD i 0) := by
 rw [List.getD_eq_getElem?_getD]
 by_cases hi : i < l.length
 ·rw [List.getElem?_eq_getElem hi]; exact h _ (List.getElem_mem hi)
 ·rw [List.getElem?_eq_none (Nat.le_of_not_lt hi)]; simp [V4]
theorem qF3 {k : Int} {l : List Int} (h : ∀ v ∈ l, V4 v) : V4 (Oe k l) := by
 have g := Y1 h
 have d1 : V4 (K1 0 1 1 l) := by rw [Vk (.inr rfl)]; split; simp [V4]; split <;> simp [V4]
 have d2 : V4 (K1 1 0 0 l) := by rw [Vk (.inr rfl)]; split; simp [V4]; split <;> simp [V4]
 have x := qAk (out := 0) (by simp [V4]) h
 unfold Oe
 by_cases hw : q4Y k l.length = true
 ·rw [if_pos hw]; simp [V4]
 rw [if_neg hw]
 refine q7l (fun a _ => V4 a) (l := l) (m := l) (fun _ => by simp [V4]) (fun _ => by simp [V4]) (fun _ => q3d (g 0)) (fun _ => q8M (g 0)) (fun _ => d1) (fun _ => q8M d1) (fun _ => d2) (fun _ => q8M d2) (fun _ => x) (fun _ => q8M x) (fun _ => ?_) (fun _ => ?_) (fun _ => ?_) (fun _ => by simp [V4])
 ·unfold q6Y; split
  ·exact q3d (g 1)
  split
  ·exact q3d (g 2)
  split
  ·exact q3d (g 1)
  ·simp [V4]
 ·unfold q8L; split
  ·simp [V4]
  split
  ·exact q3d (g 1)
  ·simp [V4]
 ·unfold q6Z; split
  ·simp [V4]
  split
  ·simp [V4]
  ·exact g _
def Blw (a b : Int) : Prop := a = b ∨ a = 2
def qDe (l m : List Int) : Prop := l.length = m.length ∧ ∀ i, Blw (l.getD i 0) (m.getD i 0)
theorem Blw.refl (a : Int) : Blw a a := .inl rfl
theorem qDe.cons {a b : Int} {l m : List Int} (h : qDe (a :: l) (b :: m)) : Blw a b ∧ qDe l m :=
 ⟨by simpa using h.2 0, by simpa using h.1, fun i => by simpa using h.2 (i + 1)⟩
theorem q9Q {k : Int} {l : List Int} (hk : 1 ≤ k ∧ k ≤ 11) (hn : (Q8 k).1 ≤ (l.length : Int) ∧ (l.length : Int) ≤ (Q8 k).2) (h : ∀ v ∈ l, 0 ≤ v ∧ v ≤ 1) : 0 ≤ Oe k l ∧ Oe k l ≤ 1 := by
 have g : ∀ i, 0 ≤ l.getD i 0 ∧ l.getD i 0 ≤ 1 := fun i => by
  rw [List.getD_eq_getElem?_getD]
  by_cases hi : i < l.length
  ·rw [List.getElem?_eq_getElem hi]; exact h _ (List.getElem_mem hi)
  ·rw [List.getElem?_eq_none (Nat.le_of_not_lt hi)]; simp
 have r : ∀ {v : Int}, 0 ≤ v ∧ v ≤ 1 → 0 ≤ Du v ∧ Du v ≤ 1 := fun h => by unfold Du; split <;> omega
 have n : ∀ {v : Int}, 0 ≤ v ∧ v ≤ 1 → 0 ≤ Uc v ∧ Uc v ≤ 1 := fun h => by unfold Uc; split <;> omega
 have d : ∀ {lo hi : Int}, (lo = 0 ∧ hi = 1 ∨ lo = 1 ∧ hi = 0) → 0 ≤ K1 lo hi hi l ∧ K1 lo hi hi l ≤ 1 := fun {lo hi} hc => by
  rw [Vk (.inr rfl)]
  split
  ·omega
  ·rename_i hl
   have h3 : hi = hi ∧ ∀ v ∈ l, v = hi := ⟨rfl, fun v hv => by
    have := h v hv
    have hne : ¬ v = lo := fun e => hl (e ▸ hv)
    omega⟩
   rw [if_pos h3]
   omega
 have x : ∀ {l : List Int} {o : Int}, (0 ≤ o ∧ o ≤ 1) → (∀ v ∈ l, 0 ≤ v ∧ v ≤ 1) → 0 ≤ Ym o l ∧ Ym o l ≤ 1 := by
  intro l
  induction l with
  | nil => intro o ho _; exact ho
  | cons v l ih =>
   intro o ho hl
   simp only [Ym]
   rw [if_pos (hl v List.mem_cons_self).2]
   exact ih (by unfold qCY; split <;> omega) fun u hu => hl u (List.mem_cons_of_mem _ hu)
 unfold Oe
 rw [if_neg (by unfold q4Y; simp only [decide_eq_true_eq]; omega)]
 have k1 := hk.1
 have k2 := hk.2
 refine q7l (fun a _ => 0 ≤ a ∧ a ≤ 1) (l := l) (m := l) (fun _ => by omega) (fun _ => by omega) (fun _ => r (g 0)) (fun _ => n (g 0)) (fun _ => d (.inl ⟨rfl, rfl⟩)) (fun _ => n (d (.inl ⟨rfl, rfl⟩))) (fun _ => d (.inr ⟨rfl, rfl⟩)) (fun _ => n (d (.inr ⟨rfl, rfl⟩))) (fun _ => x (by omega) h) (fun _ => n (x (by omega) h)) (fun _ => ?_) (fun _ => by omega) (fun _ => by omega) (fun _ => by omega)
 ·unfold q6Y
  have := g 0
  split
  ·exact r (g 1)
  split
  ·exact r (g 2)
  ·omega
def Qb (i : Nat) (r : L6) : Nat := r.countP fun p => decide (p.1 = (i : Int))
theorem qDf {i : Nat} {r q : L6} : Qb i (r ++ q) = Qb i r + Qb i q := by simp [Qb]
theorem qAl {rows : List L6} {n m i : Nat} {p : Int × Int} (hn : n < rows.length) : Qb i ((Ha rows n p).getD m []) = Qb i (rows.getD m []) + if m = n ∧ p.1 = (i : Int) then 1 else 0 := by
 unfold Ha
 simp only [List.getD_eq_getElem?_getD, List.getElem?_set]
 by_cases h : n = m
 ·subst h
  simp only [hn, if_true, Option.getD_some, qDf, true_and]
  congr 1
  by_cases h2 : p.1 = (i : Int) <;> simp [Qb, h2]
 ·have h' : ¬ m = n := fun e => h e.symm
  simp [h, h']
theorem q53 (c : Ax) (j i m : Nat) : ∀ (l : List Int) (k : Nat) (rows : List L6), rows.length = c.nodes.l.length → (∀ p ∈ l, 0 ≤ p ∧ p < c.nodes.l.length) → (Iy c j l k rows).length = c.nodes.l.length ∧ Qb i ((Iy c j l k rows).getD m []) = Qb i (rows.getD m []) + if j = i then l.count (m : Int) else 0
 | [], k, rows, hl, _ => ⟨hl, by simp [Iy]⟩
 | n :: l, k, rows, hl, hp => by
  have hn := hp n List.mem_cons_self
  have ho : Oa c n = false := by simp [Oa]; omega
  simp only [Iy, ho, Bool.false_eq_true, if_false]
  obtain ⟨h1, h2⟩ := q53 c j i m l (k + 1) (Ha rows n.toNat (j, k)) (by rw [q2p]; exact hl) (fun p h => hp p (List.mem_cons_of_mem _ h))
  refine ⟨h1, ?_⟩
  rw [h2, qAl (by omega)]
  by_cases hji : j = i
  ·subst hji
   simp only [and_true, if_true, List.count_cons]
   by_cases hm : (m : Int) = n
   ·have h5 : m = n.toNat := by omega
    have h6 : (n == (m : Int)) = true := by rw [hm]; simp
    rw [if_pos h5, h6]
    simp only [if_true]; omega
   ·have h5 : ¬ m = n.toNat := by omega
    have h6 : (n == (m : Int)) = false := by simp; omega
    rw [if_neg h5, h6]
    simp only [Bool.false_eq_true, if_false]; omega
  ·have : ¬ ((j : Int) = i) := by omega
   simp [hji, this]
theorem q3e (c : Ax) (i m : Nat) : ∀ (l : List Nd) (s : Nat) (rows : List L6), rows.length = c.nodes.l.length → (∀ x ∈ l, ∀ p ∈ x.inn.l, 0 ≤ p ∧ p < c.nodes.l.length) →
  Qb i ((Gn c l s rows).getD m []) = Qb i (rows.getD m []) + if s ≤ i then ((l.map fun x => x.inn.l.count (m : Int)).getD (i - s) 0) else 0
 | [], s, rows, hl, _ => by simp [Gn]
 | x :: l, s, rows, hl, hp => by
  obtain ⟨h1, h2⟩ := q53 c s i m x.inn.l 0 rows hl (hp x List.mem_cons_self)
  simp only [Gn]
  rw [q3e c i m l (s + 1) _ h1 (fun y hy => hp y (List.mem_cons_of_mem _ hy)), h2]
  by_cases hsi : s = i
  ·subst hsi
   have : ¬ s + 1 ≤ s := by omega
   simp [this]
  ·by_cases hlt : s ≤ i
   ·have e : i - s = (i - (s + 1)) + 1 := by omega
    have h3 : s + 1 ≤ i := by omega
    simp [hsi, hlt, h3, e]
   ·have h3 : ¬ s + 1 ≤ i := by omega
    simp [hsi, hlt, h3]
def G5 (c : Ax) (i : Nat) : List Int := (c.nodes.l.getD i Nd.d).inn.l
theorem q4Z (c : Ax) (hp : ∀ x ∈ c.nodes.l, ∀ p ∈ x.inn.l, 0 ≤ p ∧ p < c.nodes.l.length) (i m : Nat) (hi : i < c.nodes.l.length) : Qb i (G4 c m) = (G5 c i).count (m : Int) := by
 unfold G4 Em
 rw [q3e c i m c.nodes.l 0 _ (by simp) hp]
 have h0 : Qb i ((List.replicate c.nodes.l.length ([] : L6)).getD m []) = 0 := by
  simp only [List.getD_eq_getElem?_getD, List.getElem?_replicate]
  split <;> rfl
 rw [h0]
 simp [G5, hi]
theorem qBf (c : Ax) {i : Nat} (hi : i < c.nodes.l.length) : (c.nodes.l.map Db).getD i 0 = if Da (An c i) then ((G5 c i).length : Int) else 0 := by
 simp [An, G5, Db, hi]
theorem q4a {N M : Nat} {c : Ax} {n : Nat} : ∀ {r : L6} {s : LS}, s.left.length = N → (∀ p ∈ r, ∃ i : Nat, i < N ∧ p.1 = i) → (∀ i : Nat, i < N → s.left.getD i 0 ≤ 0 → (i : Int) ∈ s.rdy) →
  (∃ e, (r.foldl (Do c n) s).rdy = s.rdy ++ e) ∧ (r.foldl (Do c n) s).left.length = N ∧ (∀ i : Nat, i < N → (r.foldl (Do c n) s).left.getD i 0 = s.left.getD i 0 - if Da (An c i) then (Qb i r : Int) else 0) ∧ (∀ i : Nat, i < N → (r.foldl (Do c n) s).left.getD i 0 ≤ 0 → (i : Int) ∈ (r.foldl (Do c n) s).rdy)
 | [], s, hl, _, hb => ⟨⟨[], by simp⟩, hl, fun i hi => by simp [Qb], hb⟩
 | (p1, p2) :: r, s, hl, hr, hb => by
  obtain ⟨j, hj, he⟩ := hr (p1, p2) List.mem_cons_self
  simp only at he; subst he
  have key : (∃ e, (Do c n s (j, p2)).rdy = s.rdy ++ e) ∧ (Do c n s (j, p2)).left.length = N ∧ (∀ i : Nat, i < N → (Do c n s (j, p2)).left.getD i 0 = s.left.getD i 0 - if Da (An c i) then (if j = i then 1 else 0 : Int) else 0) ∧ (∀ i : Nat, i < N → (Do c n s (j, p2)).left.getD i 0 ≤ 0 → (i : Int) ∈ (Do c n s (j, p2)).rdy) := by
   unfold Do
   simp only [Int.toNat_natCast]
   by_cases hc : Da (An c j) = true
   ·simp only [hc, if_true]
    refine ⟨?_, by simp [hl], fun i hi => ?_, fun i hi h0 => ?_⟩
    ·split
     ·exact ⟨_, rfl⟩
     ·exact ⟨[], by simp⟩
    ·rw [Hf (by omega)]
     by_cases hij : i = j
     ·subst hij; simp [hc]
     ·have : ¬ j = i := fun e => hij e.symm
      simp [hij, this]
    ·rw [Hf (by omega)] at h0
     by_cases hij : i = j
     ·subst hij
      simp only [if_true] at h0
      by_cases h1 : s.left.getD i 0 - 1 = 0
      ·rw [if_pos h1]; simp
      ·rw [if_neg h1]
       exact hb i hi (by omega)
     ·simp only [hij, if_false] at h0
      have := hb i hi h0
      split
      ·exact List.mem_append_left _ this
      ·exact this
   ·simp only [hc]
    refine ⟨⟨[], by simp⟩, hl, fun i hi => ?_, hb⟩
    by_cases hij : j = i
    ·subst hij; simp [hc]
    ·simp [hij]
  obtain ⟨⟨e1, h1⟩, h2, h3, h4⟩ := key
  obtain ⟨⟨e2, g1⟩, g2, g3, g4⟩ := q4a (M := M) (n := n) (r := r) h2 (fun q hq => hr q (List.mem_cons_of_mem _ hq)) h4
  simp only [List.foldl_cons]
  refine ⟨⟨e1 ++ e2, by rw [g1, h1, List.append_assoc]⟩, g2, fun i hi => ?_, g4⟩
  rw [g3 i hi, h3 i hi]
  by_cases hc : Da (An c i) = true
  ·simp only [hc, if_true]
   have : Qb i ((↑j, p2) :: r) = Qb i r + if j = i then 1 else 0 := by
    by_cases hij : j = i
    ·subst hij; simp [Qb]
    ·have : ¬ ((j : Int) = i) := by omega
     simp [Qb, hij, this]
   rw [this]
   split <;> omega
  ·simp [hc]
structure JI (c : Ax) (d : Nat) (s : LS) : Prop where
 li : ∃ M, LI c.nodes.l.length M s
 le : d ≤ s.rdy.length
 a : ∀ i : Nat, i < c.nodes.l.length → s.left.getD i 0 = (c.nodes.l.map Db).getD i 0 - if Da (An c i) then (((s.rdy.take d).map fun x => (G5 c i).count x).sum : Int) else 0
 b : ∀ i : Nat, i < c.nodes.l.length → s.left.getD i 0 ≤ 0 → (i : Int) ∈ s.rdy
theorem JI.next {c : Ax} (hp : ∀ x ∈ c.nodes.l, ∀ p ∈ x.inn.l, 0 ≤ p ∧ p < c.nodes.l.length) {d : Nat} {s : LS} (h : JI c d s) (hd : d < s.rdy.length) : JI c (d + 1) ((G4 c (s.rdy.getD d 0).toNat).foldl (Do c (s.rdy.getD d 0).toNat) s) := by
 obtain ⟨M, hli⟩ := h.li
 have hg : s.rdy.getD d 0 = s.rdy[d] := by simp [hd]
 rw [hg]
 obtain ⟨n, hn, he, _⟩ := hli.rd _ (List.getElem_mem hd)
 rw [he]
 simp only [Int.toNat_natCast]
 have hr : ∀ p ∈ G4 c n, ∃ i : Nat, i < c.nodes.l.length ∧ p.1 = i := by
  intro p hpp
  have hl := Wn c
  have e : G4 c n = (Em c)[n]'(by omega) := by simp [G4, List.getD, List.getElem?_eq_getElem (show n < (Em c).length by omega)]
  rw [e] at hpp
  exact q2r c _ (List.getElem_mem _) p hpp
 obtain ⟨⟨e, h1⟩, h2, h3, h4⟩ := q4a (M := M) (c := c) (n := n) (r := G4 c n) hli.ll hr h.b
 refine ⟨⟨_, hli.fold hr⟩, by rw [h1]; simp; omega, fun i hi => ?_, h4⟩
 rw [h3 i hi, h.a i hi, h1]
 by_cases hc : Da (An c i) = true
 ·simp only [hc, if_true]
  have ht : (s.rdy ++ e).take (d + 1) = s.rdy.take d ++ [(n : Int)] := by
   rw [List.take_append_of_le_length (by omega), List.take_add_one, List.getElem?_eq_getElem hd, he]
   rfl
  rw [ht, q4Z c hp i n hi]
  simp
  omega
 ·simp [hc]
theorem q6a {c : Ax} (hp : ∀ x ∈ c.nodes.l, ∀ p ∈ x.inn.l, 0 ≤ p ∧ p < c.nodes.l.length) : ∀ (f d : Nat) (s : LS), JI c d s → c.nodes.l.length < f + d → JI c (Kp c f d s).1 (Kp c f d s).2 ∧ (Kp c f d s).2.rdy.length ≤ (Kp c f d s).1
 | 0, d, s, h, hf => by
  obtain ⟨M, hli⟩ := h.li
  have := hli.len
  exact ⟨h, by simp only [Kp]; omega⟩
 | f + 1, d, s, h, hf => by
  simp only [Kp]
  split
  ·rename_i hd
   exact q6a hp f (d + 1) _ (h.next hp hd) (by omega)
  ·exact ⟨h, by simp only; omega⟩
theorem q7m : ∀ (L R : List Int), (∀ p ∈ L, p ∈ R) → L.length ≤ (R.map fun x => L.count x).sum
 | [], R, _ => by simp
 | p :: L, R, h => by
  have ih := q7m L R fun q hq => h q (List.mem_cons_of_mem _ hq)
  have hpR := h p List.mem_cons_self
  have key : ∀ R : List Int, (R.map fun x => (p :: L).count x).sum = (R.map fun x => L.count x).sum + R.count p := by
   intro R
   induction R with
   | nil => rfl
   | cons a R ihR =>
    simp only [List.map_cons, List.sum_cons]
    rw [ihR, List.count_cons, List.count_cons]
    by_cases hpa : p = a
    ·subst hpa; simp only [BEq.rfl, if_true]; omega
    ·have h1 : (p == a) = false := by simpa using hpa
     have h2 : (a == p) = false := by simpa using fun e => hpa e.symm
     rw [h1, h2]; simp only [Bool.false_eq_true, if_false]; omega
  rw [key]
  have := List.count_pos_iff.2 hpR
  simp only [List.length_cons]; omega
theorem q0p : ∀ (l : List Nd) (s i : Nat), s ≤ i → i < s + l.length → (l.map Db).getD (i - s) 0 ≤ 0 → (i : Int) ∈ Df l s
 | [], s, i, h1, h2, _ => by simp at h2; omega
 | x :: l, s, i, h1, h2, h3 => by
  simp only [List.length_cons] at h2
  by_cases hsi : i = s
  ·subst hsi
   simp only [Nat.sub_self, List.map_cons, List.getD_cons_zero] at h3
   have h4 : 0 ≤ Db x := by unfold Db; split <;> omega
   have h5 : Db x = 0 := by omega
   simp [Df, h5]
  ·have e : i - s = (i - (s + 1)) + 1 := by omega
   rw [e, List.map_cons, List.getD_cons_succ] at h3
   have := q0p l (s + 1) i (by omega) (by omega) h3
   simp only [Df]
   split
   ·exact List.mem_cons_of_mem _ this
   ·exact this
theorem q9R (c : Ax) (h16 : ∀ x ∈ c.nodes.l, x.inn.l.length ≤ 16) (hp : ∀ x ∈ c.nodes.l, ∀ p ∈ x.inn.l, 0 ≤ p ∧ p < c.nodes.l.length) (ht : ∀ i : Nat, i < c.nodes.l.length → Da (An c i) = true → ∀ p ∈ G5 c i, p < i) : ¬ (M4 c).1 < c.nodes.l.length := by
 have h0 : JI c 0 (He c) := by
  refine ⟨⟨0, ?_⟩, by simp, fun i hi => ?_, fun i hi h => ?_⟩
  ·obtain ⟨r1, r2⟩ := q2s c.nodes.l 0
   refine ⟨by simp [He], by simp [He], ?_, r2, fun i => ?_, fun i => ?_⟩
   ·intro j hj
    obtain ⟨a, _, h2, h3, h4⟩ := r1 j hj
    exact ⟨a, by omega, h3, by simp only [He]; simp only [Nat.sub_zero] at h4; omega⟩
   ·simp only [He, List.getD_eq_getElem?_getD, List.getElem?_replicate]
    split <;> simp
   ·simp only [He]
    by_cases hi : i < c.nodes.l.length
    ·have := h16 _ (List.getElem_mem hi)
     simp [hi, Db]
     split <;> omega
    ·simp [hi]
  ·simp [He]
  ·simp only [He] at h
   exact q0p c.nodes.l 0 i (by omega) (by omega) (by simpa using h)
 obtain ⟨hJ, hle⟩ := q6a hp (c.nodes.l.length + 1) 0 (He c) h0 (by omega)
 show ¬ (Kp c (c.nodes.l.length + 1) 0 (He c)).1 < c.nodes.l.length
 generalize (Kp c (c.nodes.l.length + 1) 0 (He c)).1 = d at *
 generalize (Kp c (c.nodes.l.length + 1) 0 (He c)).2 = s at *
 have all : ∀ i : Nat, i < c.nodes.l.length → (i : Int) ∈ s.rdy := by
  intro i
  induction i using Nat.strongRecOn with
  | ind i ih =>
   intro hi
   refine hJ.b i hi ?_
   rw [hJ.a i hi, qBf c hi]
   by_cases hc : Da (An c i) = true
   ·simp only [hc, if_true]
    rw [List.take_of_length_le hle]
    have hm : G5 c i ∈ c.nodes.l.map fun x => x.inn.l := by
     simp only [G5, List.getD_eq_getElem?_getD, List.getElem?_eq_getElem hi, Option.getD_some]
     exact List.mem_map_of_mem (List.getElem_mem hi)
    obtain ⟨y, hy, hye⟩ := List.mem_map.1 hm
    have := q7m (G5 c i) s.rdy fun p hpp => by
     have h1 := ht i hi hc p hpp
     have h2 := (hp y hy p (by rw [hye]; exact hpp)).1
     obtain ⟨j, rfl⟩ : ∃ j : Nat, p = j := ⟨p.toNat, by omega⟩
     exact ih j (by omega) (by omega)
    omega
   ·simp [hc]
 have hnd : ((List.range c.nodes.l.length).map fun i : Nat => (i : Int)).Nodup := by
  rw [List.nodup_iff_pairwise_ne, List.pairwise_map]
  exact (List.nodup_iff_pairwise_ne.1 List.nodup_range).imp fun h e => h (by omega)
 have hsub : ((List.range c.nodes.l.length).map fun i : Nat => (i : Int)) ⊆ s.rdy := by
  intro x hx
  obtain ⟨i, hi, rfl⟩ := List.mem_map.1 hx
  exact all i (List.mem_range.1 hi)
 have := List.Nodup.length_le_of_subset hnd hsub
 simp at this
 omega
theorem q0q (p : Int) (L : List Int) : ∀ R : List Int, (R.map fun x => (p :: L).count x).sum = (R.map fun x => L.count x).sum + R.count p
 | [] => rfl
 | a :: R => by
  simp only [List.map_cons, List.sum_cons]
  rw [q0q p L R, List.count_cons, List.count_cons]
  by_cases hpa : p = a
  ·subst hpa; simp only [BEq.rfl, if_true]; omega
  ·have h1 : (p == a) = false := by simpa using hpa
   have h2 : (a == p) = false := by simpa using fun e => hpa e.symm
   rw [h1, h2]; simp only [Bool.false_eq_true, if_false]; omega
theorem q3f : ∀ (L R : List Int), R.Nodup → (R.map fun x => L.count x).sum ≤ L.length
 | [], R, _ => by
  have : ∀ R : List Int, (R.map fun x => ([] : List Int).count x).sum = 0 := by
   intro R
   induction R with
   | nil => rfl
   | cons a R ih => rw [List.map_cons, List.sum_cons, ih, List.count_nil]
  rw [this]; omega
 | p :: L, R, h => by
  have ih := q3f L R h
  have h1 := List.nodup_iff_count.1 h p
  rw [q0q]
  simp only [List.length_cons]; omega
theorem qDg {N n : Nat} {c : Ax} : ∀ {r : L6} {s : LS}, s.out.length = N → s.left.length = N → (∀ p ∈ r, ∃ i : Nat, i < N ∧ p.1 = i) → (∀ i : Nat, i < N → Da (An c i) = true → (Qb i r : Int) ≤ s.left.getD i 0) → s.left.getD n 0 ≤ 0 →
  (∀ i : Nat, i < N → s.left.getD i 0 ≤ 0 → (r.foldl (Do c n) s).out.getD i 0 = s.out.getD i 0) ∧ (∀ i : Nat, i < N → s.out.getD i 0 ≤ (r.foldl (Do c n) s).out.getD i 0) ∧ (∀ i : Nat, i < N → Da (An c i) = true → 0 < Qb i r → s.out.getD n 0 + 1 ≤ (r.foldl (Do c n) s).out.getD i 0)
 | [], s, ho, hl, _, _, _ => ⟨fun _ _ _ => rfl, fun _ _ => Int.le_refl _, fun i _ _ h => by simp [Qb] at h⟩
 | (p1, p2) :: r, s, ho, hl, hr, hc, hn => by
  obtain ⟨j, hj, he⟩ := hr (p1, p2) List.mem_cons_self
  simp only at he; subst he
  have cnt : ∀ i : Nat, Qb i ((↑j, p2) :: r) = Qb i r + if j = i then 1 else 0 := fun i => by
   by_cases hij : j = i
   ·subst hij; simp [Qb]
   ·have : ¬ ((j : Int) = i) := by omega
    simp [Qb, hij, this]
  simp only [List.foldl_cons]
  by_cases hcj : Da (An c j) = true
  case neg =>
   have hs : Do c n s (↑j, p2) = s := by unfold Do; simp [hcj]
   rw [hs]
   obtain ⟨a1, a2, a3⟩ := qDg (n := n) (c := c) (r := r) ho hl (fun p hp => hr p (List.mem_cons_of_mem _ hp)) (fun i hi hci => by have := hc i hi hci; rw [cnt] at this; omega) hn
   refine ⟨a1, a2, fun i hi hci h => a3 i hi hci ?_⟩
   rw [cnt] at h
   have : ¬ j = i := fun e => hcj (e ▸ hci)
   simpa [this] using h
  have hj1 := hc j hj hcj
  rw [cnt, if_pos rfl] at hj1
  have hnj : ¬ n = j := fun e => by subst e; omega
  have so : ∀ i : Nat, (Do c n s (↑j, p2)).out.getD i 0 = if i = j then max (s.out.getD j 0) (s.out.getD n 0 + 1) else s.out.getD i 0 := fun i => by
   unfold Do
   simp only [Int.toNat_natCast, hcj, if_true]
   rw [Hf (by omega)]
  have sl : ∀ i : Nat, (Do c n s (↑j, p2)).left.getD i 0 = if i = j then s.left.getD j 0 - 1 else s.left.getD i 0 := fun i => by
   unfold Do
   simp only [Int.toNat_natCast, hcj, if_true]
   rw [Hf (by omega)]
  have lo : (Do c n s (↑j, p2)).out.length = N := by unfold Do; simp [hcj, ho]
  have ll : (Do c n s (↑j, p2)).left.length = N := by unfold Do; simp [hcj, hl]
  obtain ⟨a1, a2, a3⟩ := qDg (n := n) (c := c) (r := r) lo ll (fun p hp => hr p (List.mem_cons_of_mem _ hp)) (fun i hi hci => by
   have := hc i hi hci
   rw [cnt] at this
   rw [sl]
   by_cases hij : i = j
   ·subst hij; simp only [if_true] at this ⊢; omega
   ·have h' : ¬ j = i := fun e => hij e.symm
    simp only [hij, h', if_false] at this ⊢; omega) (by rw [sl, if_neg hnj]; exact hn)
  refine ⟨fun i hi h0 => ?_, fun i hi => ?_, fun i hi hci h => ?_⟩
  ·have hij : ¬ i = j := fun e => by subst e; omega
   rw [a1 i hi (by rw [sl, if_neg hij]; exact h0), so, if_neg hij]
  ·have := a2 i hi
   rw [so] at this
   split at this
   ·rename_i e; subst e; omega
   ·exact this
  ·by_cases hij : i = j
   ·subst hij
    have := a2 i hi
    rw [so, if_pos rfl] at this
    omega
   ·have h' : ¬ j = i := fun e => hij e.symm
    rw [cnt, if_neg h'] at h
    have := a3 i hi hci (by omega)
    rw [so, if_neg hnj] at this
    exact this
def KI (c : Ax) (d : Nat) (s : LS) : Prop := ∀ i : Nat, i < c.nodes.l.length → Da (An c i) = true → ∀ q : Nat, (q : Int) ∈ G5 c i → (q : Int) ∈ s.rdy.take d → s.out.getD q 0 + 1 ≤ s.out.getD i 0
theorem KI.next {c : Ax} (hp : ∀ x ∈ c.nodes.l, ∀ p ∈ x.inn.l, 0 ≤ p ∧ p < c.nodes.l.length) {d : Nat} {s : LS} (h : JI c d s) (hk : KI c d s) (hd : d < s.rdy.length) : KI c (d + 1) ((G4 c (s.rdy.getD d 0).toNat).foldl (Do c (s.rdy.getD d 0).toNat) s) := by
 obtain ⟨M, hli⟩ := h.li
 have hg : s.rdy.getD d 0 = s.rdy[d] := by simp [hd]
 rw [hg]
 obtain ⟨n, hn, he, hn0⟩ := hli.rd _ (List.getElem_mem hd)
 rw [he]
 simp only [Int.toNat_natCast]
 have hr : ∀ p ∈ G4 c n, ∃ i : Nat, i < c.nodes.l.length ∧ p.1 = i := by
  intro p hpp
  have hl := Wn c
  have e : G4 c n = (Em c)[n]'(by omega) := by simp [G4, List.getD, List.getElem?_eq_getElem (show n < (Em c).length by omega)]
  rw [e] at hpp
  exact q2r c _ (List.getElem_mem _) p hpp
 have htk : s.rdy.take (d + 1) = s.rdy.take d ++ [(n : Int)] := by
  rw [List.take_add_one, List.getElem?_eq_getElem hd, he]; rfl
 have hnd : (s.rdy.take (d + 1)).Nodup := hli.nd.sublist (List.take_sublist _ _)
 have hcnt : ∀ i : Nat, i < c.nodes.l.length → Da (An c i) = true → (Qb i (G4 c n) : Int) ≤ s.left.getD i 0 := by
  intro i hi hci
  have := q3f (G5 c i) _ hnd
  rw [htk] at this
  simp only [List.map_append, List.sum_append, List.map_cons, List.map_nil, List.sum_cons, List.sum_nil] at this
  rw [h.a i hi, qBf c hi, q4Z c hp i n hi]
  simp only [hci, if_true]
  omega
 obtain ⟨⟨e, h1⟩, _, _, _⟩ := q4a (M := M) (c := c) (n := n) (r := G4 c n) hli.ll hr h.b
 obtain ⟨a1, a2, a3⟩ := qDg (n := n) (c := c) hli.lo hli.ll hr hcnt hn0
 intro i hi hci q hq hqt
 rw [h1, List.take_append_of_le_length (by omega), htk] at hqt
 rcases List.mem_append.1 hqt with hqt | hqt
 ·obtain ⟨q', hq1, hq2, hq3⟩ := hli.rd _ (List.mem_of_mem_take hqt)
  have : q = q' := by omega
  subst this
  rw [a1 q hq1 hq3]
  have h4 := hk i hi hci q hq hqt
  have h5 := a2 i hi
  omega
 ·have : q = n := by simp at hqt; omega
  subst this
  rw [a1 q hn hn0]
  refine a3 i hi hci ?_
  rw [q4Z c hp i q hi]
  exact List.count_pos_iff.2 hq
theorem qBg {c : Ax} (hp : ∀ x ∈ c.nodes.l, ∀ p ∈ x.inn.l, 0 ≤ p ∧ p < c.nodes.l.length) : ∀ (f d : Nat) (s : LS), JI c d s → KI c d s → KI c (Kp c f d s).1 (Kp c f d s).2
 | 0, d, s, _, hk => hk
 | f + 1, d, s, h, hk => by
  simp only [Kp]
  split
  ·rename_i hd
   exact qBg hp f (d + 1) _ (h.next hp hd) (hk.next hp h hd)
  ·exact hk
theorem qF4 (c : Ax) (h16 : ∀ x ∈ c.nodes.l, x.inn.l.length ≤ 16) : JI c 0 (He c) := by
 refine ⟨⟨0, q9K c h16⟩, by simp, fun i hi => ?_, fun i hi h => ?_⟩
 ·simp [He]
 ·simp only [He] at h
  exact q0p c.nodes.l 0 i (by omega) (by omega) (by simpa using h)
theorem q9S {c : Ax} (h : D1 c = 0) : ∀ x ∈ c.nodes.l, ∀ p ∈ x.inn.l, 0 ≤ p ∧ p < c.nodes.l.length := by
 intro x hx
 have h4 := (Eb h).2.2.1 x hx
 unfold Cc at h4
 split at h4
 ·cases h4
 split at h4
 ·cases h4
 split at h4
 ·cases h4
 rename_i h6
 exact Wm (by simpa using h6)
def Le (c : Ax) (i : Nat) : Int := (M4 c).2.out.getD i 0
theorem Fb {c : Ax} (h : Cj c = 0) : D1 c = 0 ∧ ¬ (M4 c).1 < c.nodes.l.length := by
 unfold Cj at h
 split at h
 ·rename_i h1; exact absurd h h1
 split at h
 ·cases h
 ·rename_i h1 h2; exact ⟨by simpa using h1, h2⟩
theorem qAm {c : Ax} (h : Cj c = 0) : (M4 c).2.out.length = c.nodes.l.length ∧ (∀ i, 0 ≤ Le c i) ∧ ∀ i : Nat, i < c.nodes.l.length → Da (An c i) = true → ∀ p ∈ G5 c i, (0 ≤ p ∧ p < c.nodes.l.length) ∧ Le c p.toNat < Le c i := by
 obtain ⟨hs, hd⟩ := Fb h
 have hp := q9S hs
 have h16 := (Eb hs).2.1
 have h0 := qF4 c h16
 obtain ⟨hJ, hle⟩ := q6a hp (c.nodes.l.length + 1) 0 (He c) h0 (by omega)
 have hK := qBg hp (c.nodes.l.length + 1) 0 (He c) h0 (fun i _ _ q _ hq => by simp at hq)
 obtain ⟨M, hli⟩ := hJ.li
 refine ⟨hli.lo, fun i => (hli.bo i).1, fun i hi hc p hpi => ?_⟩
 have hin : 0 ≤ p ∧ p < c.nodes.l.length := by
  simp only [G5, List.getD_eq_getElem?_getD, List.getElem?_eq_getElem hi, Option.getD_some] at hpi
  exact hp _ (List.getElem_mem hi) p hpi
 refine ⟨hin, ?_⟩
 have hpe : p = (p.toNat : Int) := by omega
 have hall : p ∈ (M4 c).2.rdy.take (M4 c).1 := by
  have hle' : (M4 c).2.rdy.length ≤ (M4 c).1 := hle
  rw [List.take_of_length_le hle']
  by_cases hm : p ∈ (M4 c).2.rdy
  ·exact hm
  exfalso
  have := q7f (N := c.nodes.l.length) (List.nodup_cons.2 ⟨hm, hli.nd⟩) fun j hj => by
   rcases List.mem_cons.1 hj with rfl | hj
   ·exact ⟨j.toNat, by omega, by omega⟩
   ·obtain ⟨i, h1, h2, _⟩ := hli.rd j hj; exact ⟨i, h1, h2⟩
  have h3 := hJ.le
  simp only [List.length_cons] at this
  have : (M4 c).1 ≤ (M4 c).2.rdy.length := h3
  have : (Kp c (c.nodes.l.length + 1) 0 (He c)).2 = (M4 c).2 := rfl
  simp only [this] at *
  omega
 have := hK i hi hc p.toNat (by rw [← hpe]; exact hpi) (by rw [← hpe]; exact hall)
 show (M4 c).2.out.getD p.toNat 0 < (M4 c).2.out.getD i 0
 have e : (Kp c (c.nodes.l.length + 1) 0 (He c)).2 = (M4 c).2 := rfl
 rw [e] at this
 omega
theorem qF5 {c : Ax} (h : Cj c = 0) {Q : Nat → Prop} (hq : ∀ i : Nat, i < c.nodes.l.length → (Da (An c i) = true → ∀ p ∈ G5 c i, (0 ≤ p ∧ p < c.nodes.l.length) ∧ Q p.toNat) → Q i) : ∀ i : Nat, i < c.nodes.l.length → Q i := by
 obtain ⟨_, h0, h1⟩ := qAm h
 have : ∀ (k : Nat) (i : Nat), i < c.nodes.l.length → (Le c i).toNat = k → Q i := by
  intro k
  induction k using Nat.strongRecOn with
  | ind k ih =>
   intro i hi hk
   refine hq i hi fun hc p hp => ?_
   obtain ⟨h2, h3⟩ := h1 i hi hc p hp
   have := h0 p.toNat
   exact ⟨h2, ih (Le c p.toNat).toNat (by omega) p.toNat (by omega) rfl⟩
 exact fun i hi => this _ i hi rfl
def q6b (lt : Int → Int → Bool) : Nat → List Int → List Int
 | 0, l => l
 | j + 1, l => if lt (l.getD (j + 1) 0) (l.getD j 0) then q6b lt j (Wq l (j + 1) j) else l
def q0r (lt : Int → Int → Bool) : Nat → Nat → List Int → List Int
 | 0, _, l => l
 | f + 1, i, l => q0r lt f (i + 1) (q6b lt i l)
theorem q1g {lt : Int → Int → Bool} : ∀ {j : Nat} {l : List Int}, j < l.length → (q6b lt j l).Perm l
 | 0, l, _ => List.Perm.refl l
 | j + 1, l, h => by
  simp only [q6b]
  split
  ·exact (q1g (by rw [q4U]; omega)).trans (q6T h (by omega))
  ·exact List.Perm.refl l
def q0s (key : Int → Int) (l : List Int) (n : Nat) : Prop := ∀ a b, a < b → b < n → key (l.getD a 0) ≤ key (l.getD b 0)
theorem q54 (key : Int → Int) (i : Nat) : ∀ (j : Nat) (l : List Int), j ≤ i → i < l.length → (∀ a b, a < b → b ≤ i → a ≠ j → b ≠ j → key (l.getD a 0) ≤ key (l.getD b 0)) → (∀ b, j < b → b ≤ i → key (l.getD j 0) ≤ key (l.getD b 0)) →
  q0s key (q6b (fun a b => decide (key a < key b)) j l) (i + 1)
 | 0, l, hj, hi, h1, h2 => by
  intro a b hab hb
  simp only [q6b]
  by_cases ha : a = 0
  ·subst ha; exact h2 b hab (by omega)
  ·exact h1 a b hab (by omega) ha (by omega)
 | j + 1, l, hj, hi, h1, h2 => by
  simp only [q6b]
  split
  ·rename_i hlt
   have hlt' : key (l.getD (j + 1) 0) < key (l.getD j 0) := by simpa using hlt
   have g : ∀ q, q < l.length → (Wq l (j + 1) j).getD q 0 = if q = j then l.getD (j + 1) 0 else if q = j + 1 then l.getD j 0 else l.getD q 0 := fun q hq => qCT (by omega) (by omega) hq
   refine q54 key i j _ (by omega) (by rw [q4U]; exact hi) (fun a b hab hb ha hb' => ?_) (fun b hb hbi => ?_)
   ·rw [g a (by omega), g b (by omega), if_neg ha, if_neg hb']
    by_cases ha1 : a = j + 1
    ·rw [if_pos ha1, if_neg (by omega)]
     exact h1 j b (by omega) hb (by omega) (by omega)
    ·rw [if_neg ha1]
     by_cases hb1 : b = j + 1
     ·rw [if_pos hb1]
      exact h1 a j (by omega) (by omega) ha1 (by omega)
     ·rw [if_neg hb1]
      exact h1 a b hab hb ha1 hb1
   ·rw [g j (by omega), g b (by omega), if_pos rfl, if_neg (by omega)]
    by_cases hb1 : b = j + 1
    ·rw [if_pos hb1]; omega
    ·rw [if_neg hb1]
     exact h2 b (by omega) hbi
  ·rename_i hlt
   have hlt' : key (l.getD j 0) ≤ key (l.getD (j + 1) 0) := by simpa using hlt
   intro a b hab hb
   by_cases ha1 : a = j + 1
   ·subst ha1; exact h2 b hab (by omega)
   ·by_cases hb1 : b = j + 1
    ·subst hb1
     by_cases haj : a = j
     ·subst haj; exact hlt'
     ·have := h1 a j (by omega) (by omega) ha1 (by omega)
      omega
    ·exact h1 a b hab (by omega) ha1 hb1
theorem qBh (key : Int → Int) : ∀ (f i : Nat) (l : List Int), i + f = l.length → q0s key l i → (q0r (fun a b => decide (key a < key b)) f i l).Perm l ∧ q0s key (q0r (fun a b => decide (key a < key b)) f i l) l.length
 | 0, i, l, h, hs => ⟨List.Perm.refl l, by have : i = l.length := (by omega); subst this; exact hs⟩
 | f + 1, i, l, h, hs => by
  simp only [q0r]
  have hp := q1g (lt := fun a b => decide (key a < key b)) (show i < l.length by omega)
  have hss := q54 key i i l (Nat.le_refl _) (by omega) (fun a b hab hb ha hb' => hs a b hab (by omega)) (fun b h1 h2 => by omega)
  obtain ⟨a1, a2⟩ := qBh key f (i + 1) _ (by rw [hp.length_eq]; omega) hss
  rw [hp.length_eq] at a2
  exact ⟨a1.trans hp, a2⟩
def rng (n : Nat) : List Int := (List.range n).map fun i : Nat => (i : Int)
theorem Og {n : Nat} : (rng n).length = n := by simp [rng]
theorem q3g {n : Nat} {x : Int} : x ∈ rng n ↔ 0 ≤ x ∧ x < n := by
 simp only [rng, List.mem_map, List.mem_range]
 constructor
 ·rintro ⟨i, hi, rfl⟩; omega
 ·intro h; exact ⟨x.toNat, by omega, by omega⟩
theorem qCa {n : Nat} : (rng n).Nodup := by
 rw [rng, List.nodup_iff_pairwise_ne, List.pairwise_map]
 exact (List.nodup_iff_pairwise_ne.1 List.nodup_range).imp fun h e => h (by omega)
def qBi (c : Ax) (a b : Int) : Bool := decide (Le c a.toNat < Le c b.toNat)
def L0 (c : Ax) : List Int := q0r (qBi c) (c.nodes.l.length - 1) 1 (rng c.nodes.l.length)
theorem Qc (c : Ax) : (L0 c).Perm (rng c.nodes.l.length) ∧ q0s (fun a => Le c a.toNat) (L0 c) c.nodes.l.length := by
 by_cases h : c.nodes.l.length = 0
 ·unfold L0
  rw [h]
  exact ⟨List.Perm.refl _, fun a b hab hb => by omega⟩
 ·have := qBh (fun a => Le c a.toNat) (c.nodes.l.length - 1) 1 (rng c.nodes.l.length) (by rw [Og]; omega) (fun a b hab hb => by omega)
  rw [Og] at this
  exact this
def Hh (c : Ax) (nets : List Int) (i : Nat) : List Int := (G5 c i).map fun k => nets.getD k.toNat 0
def Nn (c : Ax) (nets : List Int) (n : Int) : List Int := if Da (An c n.toNat) then nets.set n.toNat (Oe (An c n.toNat) (Hh c nets n.toNat)) else nets
def q2x (c : Ax) (order init : List Int) : List Int := order.foldl (Nn c) init
theorem q1h {c : Ax} {nets : List Int} {n : Int} : (Nn c nets n).length = nets.length := by unfold Nn; split <;> simp
theorem q3h {c : Ax} : ∀ {o nets : List Int}, (q2x c o nets).length = nets.length
 | [], nets => rfl
 | n :: o, nets => by
  show (q2x c o (Nn c nets n)).length = _
  rw [q3h, q1h]
def qGv (c : Ax) (init f : List Int) : Prop := f.length = c.nodes.l.length ∧ ∀ i : Nat, i < c.nodes.l.length → f.getD i 0 = if Da (An c i) then Oe (An c i) (Hh c f i) else init.getD i 0
theorem qBj {c : Ax} : ∀ {o nets : List Int}, nets.length = c.nodes.l.length → o.Nodup → (∀ n ∈ o, 0 ≤ n ∧ n < c.nodes.l.length) → o.Pairwise (fun x y => Da (An c x.toNat) = true → y ∉ G5 c x.toNat) → (∀ x ∈ o, Da (An c x.toNat) = true → x ∉ G5 c x.toNat ∧ ∀ p ∈ G5 c x.toNat, 0 ≤ p) →
  (∀ i : Nat, (i : Int) ∉ o → (q2x c o nets).getD i 0 = nets.getD i 0) ∧ (∀ i : Nat, (i : Int) ∈ o → (q2x c o nets).getD i 0 = if Da (An c i) then Oe (An c i) (Hh c (q2x c o nets) i) else nets.getD i 0)
 | [], nets, _, _, _, _, _ => ⟨fun i _ => rfl, fun i h => by cases h⟩
 | n :: o, nets, hl, hnd, hin, hpw, hself => by
  obtain ⟨hn1, hn2⟩ := List.nodup_cons.1 hnd
  obtain ⟨hp1, hp2⟩ := List.pairwise_cons.1 hpw
  have hnr := hin n List.mem_cons_self
  have hne : n = (n.toNat : Int) := by omega
  have key : ∀ i : Nat, i ≠ n.toNat → (Nn c nets n).getD i 0 = nets.getD i 0 := fun i hi => by
   unfold Nn
   split
   ·rw [Hf (by omega), if_neg hi]
   ·rfl
  obtain ⟨a1, a2⟩ := qBj (o := o) (nets := Nn c nets n) (by rw [q1h]; exact hl) hn2 (fun m hm => hin m (List.mem_cons_of_mem _ hm)) hp2 (fun x hx => hself x (List.mem_cons_of_mem _ hx))
  have hrun : q2x c (n :: o) nets = q2x c o (Nn c nets n) := rfl
  rw [hrun]
  refine ⟨fun i hi => ?_, fun i hi => ?_⟩
  ·have h1 : ¬ i = n.toNat := fun e => hi (by rw [e, ← hne]; exact List.mem_cons_self)
   rw [a1 i fun hm => hi (List.mem_cons_of_mem _ hm), key i h1]
  ·by_cases hio : (i : Int) ∈ o
   ·have h1 : ¬ i = n.toNat := fun e => hn1 (by rw [hne, ← e]; exact hio)
    rw [a2 i hio, key i h1]
   ·have h1 : i = n.toNat := by
     rcases List.mem_cons.1 hi with h | h
     ·omega
     ·exact absurd h hio
    subst h1
    rw [a1 _ hio]
    by_cases hc : Da (An c n.toNat) = true
    ·have h2 : (Nn c nets n).getD n.toNat 0 = Oe (An c n.toNat) (Hh c nets n.toNat) := by
      unfold Nn
      rw [if_pos hc, Hf (by omega), if_pos rfl]
     rw [h2, if_pos hc]
     congr 1
     unfold Hh
     refine List.map_congr_left fun p hp => ?_
     obtain ⟨hs1, hs2⟩ := hself n List.mem_cons_self hc
     have hp0 := hs2 p hp
     have hpe : p = (p.toNat : Int) := by omega
     have hpo : ((p.toNat : Nat) : Int) ∉ o := fun hm => hp1 _ hm hc (by rw [← hpe]; exact hp)
     have hpn : ¬ p.toNat = n.toNat := fun e => by
      have h9 : p = n := by omega
      rw [h9] at hp
      exact hs1 hp
     rw [a1 _ hpo, key _ hpn]
    ·rw [if_neg hc]
     unfold Nn
     rw [if_neg hc]
theorem qF6 {c : Ax} (h : Cj c = 0) {o init : List Int} (hp : o.Perm (rng c.nodes.l.length)) (hs : q0s (fun a => Le c a.toNat) o c.nodes.l.length) (hi : init.length = c.nodes.l.length) : qGv c init (q2x c o init) := by
 obtain ⟨_, h0, h1⟩ := qAm h
 have hlen : o.length = c.nodes.l.length := by rw [hp.length_eq, Og]
 have hmem : ∀ n, n ∈ o ↔ 0 ≤ n ∧ n < c.nodes.l.length := fun n => by rw [hp.mem_iff, q3g]
 have hpw : o.Pairwise (fun x y => Da (An c x.toNat) = true → y ∉ G5 c x.toNat) := by
  rw [List.pairwise_iff_getElem]
  intro i j hi hj hij hc hm
  have hx := (hmem o[i]).1 (List.getElem_mem hi)
  obtain ⟨_, h3⟩ := h1 o[i].toNat (by omega) hc _ hm
  have h4 := hs i j hij (by omega)
  simp only [Aw hi, Aw hj] at h4
  omega
 obtain ⟨_, a2⟩ := qBj (c := c) (o := o) (nets := init) hi (hp.nodup_iff.2 qCa) (fun n hn => (hmem n).1 hn) hpw (fun x hx hc => by
  have hx' := (hmem x).1 hx
  refine ⟨fun hm => ?_, fun p hpp => (h1 x.toNat (by omega) hc p hpp).1.1⟩
  have := (h1 x.toNat (by omega) hc x hm).2
  omega)
 exact ⟨by rw [q3h]; exact hi, fun i hi => a2 i ((hmem i).2 (by omega))⟩
def Dk : List Int → List Int → List Int → List Int
 | n :: ns, v :: vs, nets => Dk ns vs (nets.set n.toNat v)
 | _, _, nets => nets
theorem K2 : ∀ {ns vs nets : List Int}, (Dk ns vs nets).length = nets.length
 | [], vs, nets => by cases vs <;> rfl
 | _ :: _, [], nets => rfl
 | n :: ns, v :: vs, nets => by simp only [Dk]; rw [K2]; simp
theorem Yn : ∀ {ns vs nets : List Int} {i : Nat}, (∀ n ∈ ns, 0 ≤ n) → (i : Int) ∉ ns → (Dk ns vs nets).getD i 0 = nets.getD i 0
 | [], vs, nets, i, _, _ => by cases vs <;> rfl
 | _ :: _, [], nets, i, _, _ => rfl
 | n :: ns, v :: vs, nets, i, h0, h => by
  simp only [Dk]
  rw [Yn (fun m hm => h0 m (List.mem_cons_of_mem _ hm)) fun hm => h (List.mem_cons_of_mem _ hm)]
  have h1 : ¬ n.toNat = i := fun e => h (by have := h0 n List.mem_cons_self; rw [← e, Int.toNat_of_nonneg this]; exact List.mem_cons_self)
  simp [List.getD_eq_getElem?_getD, List.getElem?_set, h1]
theorem q3i : ∀ {ns vs nets : List Int} {j : Nat}, ns.Nodup → (∀ n ∈ ns, 0 ≤ n ∧ n < nets.length) → ns.length = vs.length → (h : j < ns.length) → (Dk ns vs nets).getD (ns[j]).toNat 0 = vs.getD j 0
 | n :: ns, v :: vs, nets, j, hnd, hr, hl, h => by
  obtain ⟨h1, h2⟩ := List.nodup_cons.1 hnd
  have hn := hr n List.mem_cons_self
  simp only [Dk]
  cases j with
  | zero =>
   simp only [List.getElem_cons_zero, List.getD_cons_zero]
   rw [Yn (fun m hm => (hr m (List.mem_cons_of_mem _ hm)).1) (by rw [Int.toNat_of_nonneg hn.1]; exact h1), Hf (by omega), if_pos rfl]
  | succ j =>
   simp only [List.getElem_cons_succ, List.getD_cons_succ]
   exact q3i h2 (fun m hm => by have := hr m (List.mem_cons_of_mem _ hm); simpa using this) (by simpa using hl) (by simpa using h)
 | [], vs, nets, j, _, _, _, h => by simp at h
 | _ :: _, [], nets, j, _, _, hl, h => by simp at hl
def Be (c : Ax) : List Int := Il [0] c.nodes.l 0
def Yo (c : Ax) (pin pst : List Int) : List Int := Dk (Ap c) pst (Dk (Be c) pin (List.replicate c.nodes.l.length 0))
def Ti (c : Ax) (pin pst : List Int) : List Int := q2x c (L0 c) (Yo c pin pst)
theorem Yp {c : Ax} {pin pst : List Int} : (Yo c pin pst).length = c.nodes.l.length := by unfold Yo; rw [K2, K2]; simp
def Np (k : Int) (c : Ax) (i : Nat) : Nat := (Il [k] (c.nodes.l.take i) 0).length
theorem q7n {k : Int} {c : Ax} {i : Nat} (hi : i < c.nodes.l.length) (hk : An c i = k) : Il [k] c.nodes.l 0 = Il [k] (c.nodes.l.take i) 0 ++ (i : Int) :: Il [k] (c.nodes.l.drop (i + 1)) (i + 1) := by
 have e : c.nodes.l = c.nodes.l.take i ++ c.nodes.l[i] :: c.nodes.l.drop (i + 1) := by rw [List.getElem_cons_drop, List.take_append_drop]
 have hk' : c.nodes.l[i].k = k := by simpa [An, hi] using hk
 have hm : (c.nodes.l.take i).length = i := by rw [List.length_take]; omega
 conv => lhs; rw [e, q3W, hm]
 simp [Il, hk']
theorem q5k {k : Int} {c : Ax} {i : Nat} (hi : i < c.nodes.l.length) (hk : An c i = k) : Np k c i < (Il [k] c.nodes.l 0).length ∧ (Il [k] c.nodes.l 0).getD (Np k c i) 0 = i := by
 have e := q7n hi hk
 constructor
 ·rw [e]; simp [Np]
 ·rw [e]; simp [Np, List.getD_eq_getElem?_getD]
theorem Gv {k : Int} {c : Ax} : ∀ n ∈ Il [k] c.nodes.l 0, 0 ≤ n ∧ n < c.nodes.l.length ∧ An c n.toNat = k := by
 intro n hn
 obtain ⟨a, b, h⟩ := q0m [k] c.nodes.l 0 n hn
 refine ⟨by omega, by omega, ?_⟩
 simpa [An] using h
theorem q3j {k : Int} {c : Ax} {i : Nat} (hi : i < c.nodes.l.length) : (i : Int) ∈ Il [k] c.nodes.l 0 ↔ An c i = k := by
 constructor
 ·intro h
  have := (Gv _ h).2.2
  simpa using this
 ·intro h
  rw [q7n hi h]
  simp
theorem qF7 {c : Ax} {pin pst : List Int} (h1 : pin.length = (Be c).length) (h2 : pst.length = (Ap c).length) {i : Nat} (hi : i < c.nodes.l.length) :
  (Yo c pin pst).getD i 0 = if An c i = 0 then pin.getD (Np 0 c i) 0 else if An c i = 14 then pst.getD (Np 14 c i) 0 else 0 := by
 have n0 := (q1d [0] c.nodes.l 0).2
 have n14 := (q1d [14] c.nodes.l 0).2
 have r14 : ∀ n ∈ Ap c, 0 ≤ n := fun n hn => (Gv n hn).1
 have r0 : ∀ n ∈ Be c, 0 ≤ n := fun n hn => (Gv n hn).1
 unfold Yo
 by_cases hk : An c i = 14
 ·obtain ⟨a, b⟩ := q5k hi hk
  have e : (Il [14] c.nodes.l 0)[Np 14 c i] = (i : Int) := by rw [← b, Aw a]
  have := q3i (ns := Ap c) (vs := pst) (nets := Dk (Be c) pin (List.replicate c.nodes.l.length 0)) (j := Np 14 c i) n14 (fun n hn => by rw [K2]; have := Gv n hn; simp; omega) h2.symm a
  have e' : (Ap c)[Np 14 c i] = (i : Int) := e
  rw [e'] at this
  simp only [Int.toNat_natCast] at this
  rw [this, if_neg (by omega), if_pos hk]
 ·have : (i : Int) ∉ Ap c := fun hm => hk ((q3j hi).1 hm)
  rw [Yn r14 this]
  by_cases hk0 : An c i = 0
  ·obtain ⟨a, b⟩ := q5k hi hk0
   have e : (Be c)[Np 0 c i]'a = (i : Int) := by show (Il [0] c.nodes.l 0)[Np 0 c i] = _; rw [← b, Aw a]
   have := q3i (ns := Be c) (vs := pin) (nets := List.replicate c.nodes.l.length 0) (j := Np 0 c i) n0 (fun n hn => by have := Gv n hn; simp; omega) h1.symm a
   rw [e] at this
   simp only [Int.toNat_natCast] at this
   rw [this, if_pos hk0]
  ·have : (i : Int) ∉ Be c := fun hm => hk0 ((q3j hi).1 hm)
   rw [Yn r0 this, if_neg hk0, if_neg hk]
   simp [List.getD_eq_getElem?_getD, List.getElem?_replicate]
   split <;> rfl
end Go.Lg
