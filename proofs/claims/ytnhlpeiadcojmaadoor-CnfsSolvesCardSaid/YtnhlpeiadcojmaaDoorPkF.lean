/- Plain data as trees, and how calls are taken. Conditions: none. -/
import Derived.Test.YtnhlpeiadcojmaaDoorPkD
import Derived.Test.YtnhlpeiadcojmaaDoorPkE
import Derived.Test.YtnhlpeiadcojmaaDoorProg
import Derived.KernelRfl
import Derived.Lib.Bytealg
import Derived.Test.YtnhlpeiadcojmaaDoorRows
import Derived.Test.YtnhlpeiadcojmaaDoorCards
import Derived.Test.YtnhlpeiadcojmaaDoorTie
import Derived.ProofKit
import Derived.Deep.DeepHandedRow
import Derived.SevenTiedAt
import Derived.Test.YtnhlpeiadcojmaaDoorPkA
set_option linter.unusedSimpArgs false
set_option linter.unusedVariables false
namespace Go.Lg
open Go
attribute [simp] Bf Ao T.one AV.one Value.oneCell' E6 Hv G3 D2 Qo ret qBU
@[simp] theorem qHH (a b : Int) : (a == b) = decide (a = b) := rfl
@[simp] theorem qHI (a b : Int) : (a != b) = !decide (a = b) := rfl
@[simp] theorem qHJ (s : List UInt8) : (ByteArray.mk s.toArray).size = s.length := by simp [ByteArray.size]
def Dc {α : Type} (f : α → T) (l : List α) : List (List T) := l.map fun n => [f n]
theorem A3 {α : Type} {f : α → T} {l : List α} : (Dc f l).length = l.length := by simp [Dc]
theorem He {α : Type} {f : α → T} {l : List α} {i : Nat} (d : α) (h : i < l.length) : (Dc f l)[i]?.getD [] = [f (l[i]?.getD d)] := by simp [Dc, h]
theorem Ad {α : Type} {f : α → T} {l : List α} : Gk 1 (Dc f l) := by
 intro e he; obtain ⟨x, _, rfl⟩ := List.mem_map.1 he; rfl
theorem T8 {α : Type} {f : α → T} {l : List α} {n : Nat} {x : α} : (Dc f l).set n [f x] = Dc f (l.set n x) := by simp [Dc, List.map_set]
theorem q5x {α : Type} {f : α → T} : Dc f [] = [] := rfl
@[simp] theorem qBi {s : Nat} : Gk s [] := fun e h => by cases h
def Jh {α : Type} (f : α → List T) (l : List α) : List (List T) := l.map f
theorem Bg {α : Type} {f : α → List T} {l : List α} : (Jh f l).length = l.length := by simp [Jh]
theorem Ji {α : Type} {f : α → List T} {l : List α} {i : Nat} (d : α) (h : i < l.length) : (Jh f l)[i]?.getD [] = f (l[i]?.getD d) := by simp [Jh, h]
theorem q30 {α : Type} {f : α → List T} {l : List α} {s : Nat} (h : ∀ x, (f x).length = s) : Gk s (Jh f l) := by
 intro e he; obtain ⟨x, _, rfl⟩ := List.mem_map.1 he; exact h x
@[simp] theorem qB3 {α : Type} {f : α → T} {l : List α} : (Dc f l).take l.length = Dc f l := by rw [List.take_of_length_le (by simp [Dc])]
theorem J4 {α : Type} {f : α → T} {l : List α} {x : α} : Dc f l ++ [[f x]] = Dc f (l ++ [x]) := by simp [Dc]
@[simp] theorem qB4 {α : Type} {f : α → List T} {l : List α} : (Jh f l).take l.length = Jh f l := by rw [List.take_of_length_le (by simp [Jh])]
theorem q8o {α : Type} {f : α → List T} {l : List α} {x : α} : Jh f l ++ [f x] = Jh f (l ++ [x]) := by simp [Jh]
structure Sl (α : Type) where
 l : List α
 cap : Option Nat
 nl : Option Bool
abbrev tI (n : Int) : T := .v (.int .i64 n)
abbrev tK (n : Int) : T := .v (.int .u8 n)
abbrev tB (b : Bool) : T := .v (.bool b)
abbrev D9 (l : List Int) : List (List T) := Dc tI l
def C5 (s : Sl Int) : T := .sl (D9 s.l) s.cap s.nl
@[simp] theorem qDu {cs : List AV} : Nr (.bx cs) = ∀ c ∈ cs, G3 c := rfl
@[simp] theorem qDv {s : ByteArray} {p : Nat} : Nr (.it s p) = True := rfl
@[simp] theorem qCW {ty s : Nat} : Nr (.sl ty s []) = True := by simp [Nr]
theorem Ut {α : Type} {f : α → T} {l : List α} {ty s : Nat} (h : ∀ x, D2 (f x) = true) : Nr (.sl ty s (Dc f l)) := by
 intro e he t ht
 obtain ⟨x, _, rfl⟩ := List.mem_map.1 he
 simp only [List.mem_singleton] at ht; subst ht; exact h x
@[simp] theorem qF8 {l : List Int} {ty s : Nat} : Nr (.sl ty s (Dc tI l)) = True := eq_true (Ut fun _ => rfl)
@[simp] theorem qF9 {l : List Int} {ty s : Nat} : Nr (.sl ty s (Dc tK l)) = True := eq_true (Ut fun _ => rfl)
@[simp] theorem qFA {l : List Bool} {ty s : Nat} : Nr (.sl ty s (Dc tB l)) = True := eq_true (Ut fun _ => rfl)
def I64 (n : Int) : Prop := -9223372036854775808 ≤ n ∧ n ≤ 9223372036854775807
section
variable {P : Program} {Γ : Tables} {hp : List (Nat × Ak)} {f : FuncId} {avs : List AV} {K : T → Prop} {ts : List T} {res : T}
theorem Ie (h : Aw P Γ f ts res) (ht : Aa (avs.map toT) = some ts) (hk : K res) : q2s P Γ hp f avs K ⟨⟩ := ⟨res, .inl ⟨ts, ht, h⟩, hk⟩
theorem A4 (h : A5 P Γ f ts res) (ht : Aa (avs.map (An hp 4)) = some ts) (hk : K res) : q2s P Γ hp f avs K ⟨⟩ := ⟨res, .inr ⟨ts, ht, h⟩, hk⟩
theorem P8 {ic : IC} {N n : Nat} {rvs : List RV} {args : List T} (hc : Ax P f ic N n rvs = true) (hn : args.length = n) (h : run P Γ ic (ret false rvs fun r => r = res) ⟨params 0 args, []⟩) : Aw P Γ f args res := by
 obtain ⟨r, h1, rfl⟩ := run_pure hc hn h; exact h1
theorem Ah {ic : IC} {N n : Nat} {rvs : List RV} {args : List T} (hc : Ax P f ic N n rvs = true) (hn : args.length = n) (h : run P Γ ic (ret true rvs fun r => r = res) ⟨params 0 args, []⟩) : A5 P Γ f args res := by
 obtain ⟨r, h1, rfl⟩ := q4L hc hn h; exact h1
theorem T9 {ic : IC} {N n : Nat} {rvs : List RV} {args : List AV} {r0 : AV} {hp' : List (Nat × Ak)} (hc : Ax P f ic N n rvs = true) (hn : args.length = n) (h : run P Γ ic (qBU rvs fun r h => r = r0 ∧ h = hp') ⟨Xy 0 args, hp⟩) : C3 P Γ f hp args r0 hp' := by
 obtain ⟨r, h', h1, rfl, rfl⟩ := q9k hc hn h; exact h1
end
end Go.Lg
namespace Go.Lg
open Go
section
variable {P : Program} {Γ : Tables} {Q : AX → St → Prop} {s : St}
/- probecard/netlists.Check (function 29) -/
abbrev Lh : IC := (.seq (.reg [od 1 (.box true (tm 0)), od 2 (.mv (ki 0))] [kp [1] []]) (.seq (.reg [od 6 (lG 4 1), od 7 (.call 53 [(tm 6)]), om 5 7, od 8 (ex 5 0), od 9 (ex 5 1), om 3 8, om 4 9] [kp [4] []]) (.seq (.reg [om 10 4, om 2 10] [kp [2]
 []]) .ret)))
def Lj : List RV := [.tmp 2]
/- probecard/netlists.Of (function 30) -/
abbrev q31 : IC := .gh (.seq (.reg [od 12 (.bin .lss (tm 11) (tm 10))] [kp [1, 5, 9, 10, 11, 12] [23]]) (.seq (.cond (tm 12) .skip (.exit 0)) (.seq (.block 1 (.seq (.reg [om 13 11, od 14 (ia 4 9 11), od 15 (lG 4 14), od 7 (.alloc false [(.int .u8 0),
 (.slice none 0 0), (.int .i64 0), (.int .i64 0)]), om 6 13, on (.store 4 (tm 7) (tm 15))] [kp [1, 5, 6, 7, 9, 10, 11] [7, 23]]) (.seq (.reg [om 16 1, od 17 (fa 0 7), od 18 (ld 1 17), od 19 (.call 54 [(tm 16), (tm 18)])] [kp [1, 5,
 6, 9, 10, 11, 19] [23]]) (.cond (tm 19) (.reg [om 20 5, om 21 6, od 22 (.bsl true 3 1 [(tm 21)]), od 23 (.app false 3 1 (tm 20) (tm 22)), om 5 23] [kp [1, 5, 9, 10, 11] [23]]) .skip)))) (.reg [od 24 (.bin .add (tm 11) (ki 1)), om
 11 24] [kp [1, 5, 9, 10, 11] [23]])))) [kp [1, 5, 9, 10, 11] [23]]
def q32 : IC := .loop q31
abbrev Wj : IC := (.seq (.reg [od 2 (.box true (tm 0)), od 4 (.mv kN)] [kp [1, 2] []]) (.seq (.reg [od 5 (.mv kN)] [.nl 5 23 3 1, kp [1, 2, 5] [23]]) (.seq (.seq (.reg [od 8 (fa 0 2), od 9 (ld 1 8), od 10 (le 0 9), od 11 (.mv (ki 0))] [kp [1, 5, 9,
 10, 11] [23]]) (.block 0 q32)) (.seq (.reg [om 25 5, od 26 (.hcall 55 [(tm 25)] [23] 26000), om 4 26] [kp [4] [23]]) .ret))))
def Wl : List RV := [.tmp 4]
/- probecard/netlists.States (function 44) -/
abbrev Pl : IC := (.seq (.reg [od 1 (.box true (tm 0)), od 2 (.mv kN)] [kp [1] []]) (.seq (.reg [od 3 (lG 4 1), od 4 (.bsl true 69 1 [(ku 14)]), od 5 (.call 30 [(tm 3), (tm 4)]), om 2 5] [kp [2] []]) .ret))
def Pm : List RV := [.tmp 2]
/- probecard/netlists.Comb (function 65) -/
abbrev Nb : IC := (.seq (.reg [od 2 (.mv kF)] [kp [0] []]) (.seq (.reg [om 3 0, od 4 (.bin .geq (tm 3) (ku 1)), om 5 4, oT 6 (.mv (tm 0)) 5, oT 7 (.bin .leq (tm 6) (ku 13)) 5, od 8 (.pick (tm 5) (tm 7) kF), om 2 8] [kp [2] []]) .ret))
def Nc : List RV := [.tmp 2]
/- slices.Clip[[]int,int] (function 55) -/
abbrev Pn : IC := (.seq (.reg [od 2 (.mv kN)] [kp [0] [1000000]]) (.seq (.reg [om 3 0, om 4 0, od 5 (le 0 4), om 6 0, od 7 (le 0 6), od 8 (.slice 1 (tm 3) none (some (tm 5)) (some (tm 7))), om 2 8] [kp [2] [1000000]]) .ret))
def Po : List RV := [.tmp 2]
/- probecard/netlists.Levels (function 53) -/
def E4 : List RO := [om 45 6, om 46 8, od 47 (ia 1 45 46), od 48 (ld 1 47), od 49 (.bin .eql (tm 48) (ki 0))]
def J7 : List RO := [om 50 7, om 51 8, od 52 (.bsl true 3 1 [(tm 51)]), od 53 (.app false 3 1 (tm 50) (tm 52)), om 7 53]
def J8 : List RO := [od 54 (.bin .add (tm 31) (ki 1)), om 31 54]
abbrev Pq : IC := .gh (.seq (.reg [od 32 (.bin .lss (tm 31) (tm 30))] [kp [1, 5, 6, 7, 29, 30, 31, 32] [23, 27, 53]]) (.seq (.cond (tm 32) .skip (.exit 0)) (.seq (.block 1 (.seq (.reg [om 33 31, od 34 (ia 4 29 31), od 35 (lG 4 34), od 9 (.alloc
 false [(.int .u8 0), (.slice none 0 0), (.int .i64 0), (.int .i64 0)]), om 8 33, on (.store 4 (tm 9) (tm 35))] [kp [1, 5, 6, 7, 8, 9, 29, 30, 31] [9, 23, 27, 53]]) (.seq (.seq (.reg [od 36 (fa 0 9), od 37 (ld 1 36), od 38 (.call 65
 [(tm 37)])] [kp [1, 5, 6, 7, 8, 9, 29, 30, 31, 38] [9, 23, 27, 53]]) (.cond (tm 38) (.reg [om 39 6, om 40 8, od 41 (fa 1 9), od 42 (ld 1 41), od 43 (le 0 42), od 44 (ia 1 39 40), on (.store 1 (tm 44) (tm 43))] [kp [1, 5, 6, 7, 8,
 29, 30, 31] [23, 27, 53]]) .skip)) (.seq (.reg E4 [kp [1, 5, 6, 7, 8, 29, 30, 31, 49] [23, 27, 53]]) (.cond (tm 49) (.reg J7 [kp [1, 5, 6, 7, 29, 30, 31] [23, 27, 53]]) .skip))))) (.reg
 J8 [kp [1, 5, 6, 7, 29, 30, 31] [23, 27, 53]])))) [kp [1, 5, 6, 7, 29, 30, 31] [23, 27, 53]]
def Gv : IC := .loop Pq
abbrev Pv : IC := .gh (.seq (.reg [od 79 (.bin .lss (tm 78) (tm 77))] [kp [1, 5, 6, 7, 10, 11, 12, 76, 77, 78, 79] [23, 27, 53]]) (.seq (.cond (tm 79) .skip (.exit 4)) (.seq (.block 5 (.seq (.reg [od 80 (ia 2 76 78), od 81 (lG 2 80), od 14 (.alloc
 false [(.int .i64 0), (.int .i64 0)]), on (.store 2 (tm 14) (tm 81))] [kp [1, 5, 6, 7, 10, 11, 12, 14, 76, 77, 78] [14, 23, 27, 53]]) (.seq (.seq (.reg [od 82 (fa 0 1), od 83 (ld 1 82), od 84 (fa 0 14), od 85 (ld 1 84), od 86 (ia 4
 83 85), od 87 (fa 0 86), od 88 (ld 1 87), od 89 (.call 65 [(tm 88)]), od 90 (.un .not (tm 89))] [kp [1, 5, 6, 7, 10, 11, 12, 14, 76, 77, 78, 90] [14, 23, 27, 53]]) (.cond (tm 90) (.exit 5) .skip)) (.seq (.reg [om 91 5, od 92 (fa 0
 14), od 93 (.ldR 14 1 false (tm 92)), om 94 5, od 95 (fa 0 14), od 96 (.ldR 14 1 false (tm 95)), od 97 (ia 1 94 96), od 98 (.ldR 23 1 false (tm 97)), om 99 5, om 100 12, od 101 (ia 1 99 100), od 102 (.ldR 23 1 false (tm 101)), od
 103 (.bin .add (tm 102) (ki 1)), od 104 (.mmx true [(tm 98), (tm 103)]), od 105 (ia 1 91 93), on (.stR 23 1 (tm 105) (tm 104))] [kp [1, 5, 6, 7, 10, 11, 12, 14, 76, 77, 78] [14, 23, 27, 53]]) (.seq (.reg [om 106 6, od 107 (fa 0
 14), od 108 (ld 1 107), od 109 (ia 1 106 108), od 110 (ld 1 109), od 111 (.bin .sub (tm 110) (ki 1)), od 112 (ia 1 106 108), on (.store 1 (tm 112) (tm 111))] [kp [1, 5, 6, 7, 10, 11, 12, 14, 76, 77, 78] [14, 23, 27, 53]]) (.seq
 (.reg [om 113 6, od 114 (fa 0 14), od 115 (ld 1 114), od 116 (ia 1 113 115), od 117 (ld 1 116), od 118 (.bin .eql (tm 117) (ki 0))] [kp [1, 5, 6, 7, 10, 11, 12, 14, 76, 77, 78, 118] [14, 23, 27, 53]]) (.cond (tm 118) (.reg [om 119
 7, od 120 (fa 0 14), od 121 (ld 1 120), od 122 (.bsl true 3 1 [(tm 121)]), oz 123 (.app false 3 1 (tm 119) (tm 122)) 53, om 7 123] [kp [1, 5, 6, 7, 10, 11, 12, 76, 77, 78] [23, 27, 53]]) .skip))))))) (.reg [od 124 (.bin .add (tm
 78) (ki 1)), om 78 124] [kp [1, 5, 6, 7, 10, 11, 12, 76, 77, 78] [23, 27, 53]])))) [kp [1, 5, 6, 7, 10, 11, 12, 76, 77, 78] [23, 27, 53]]
def Gw : IC := .loop Pv
abbrev Px : IC := .gh (.seq (.seq (.reg [om 57 11, om 58 7, od 59 (le 0 58), od 60 (.bin .lss (tm 57) (tm 59))] [kp [1, 5, 6, 7, 10, 11, 60] [23, 27, 53]]) (.cond (tm 60) .skip (.exit 2))) (.block 3 (.seq (.reg [om 61 7, om 62 11, od 63 (ia 1 61
 62), od 64 (ld 1 63), om 12 64] [kp [1, 5, 6, 7, 10, 11, 12] [23, 27, 53]]) (.seq (.reg [om 65 11, od 66 (.bin .add (tm 65) (ki 1)), om 11 66] [kp [1, 5, 6, 7, 10, 11, 12] [23, 27, 53]]) (.seq (.seq (.reg [om 67 10, om 68 12, od 69
 (ia 1 67 68), od 70 (ld 1 69), od 71 (le 0 70), od 72 (.bin .eql (tm 71) (ki 0))] [kp [1, 5, 6, 7, 10, 11, 12, 72] [23, 27, 53]]) (.cond (tm 72) (.exit 3) .skip)) (.seq (.reg [om 73 10, om 74 12, od 75 (ia 1 73 74), od 76 (ld 1
 75), od 77 (le 0 76), od 78 (.mv (ki 0))] [kp [1, 5, 6, 7, 10, 11, 12, 76, 77, 78] [23, 27, 53]]) (.block 4 Gw))))))) [kp [1, 5, 6, 7, 10, 11] [23, 27, 53]]
def Gx : IC := .loop Px
abbrev K6 : IC := (.seq (.reg [od 1 (.box true (tm 0)), od 2 (.mv kN), od 3 (.mv (ki 0))] [kp [1] []]) (.scope (.seq (.seq (.reg [od 15 (lG 4 1), od 16 (.call 64 [(tm 15)]), om 4 16] [kp [1, 4] []]) (.seq (.reg [om 17 4, od 18 (.bin .neq (tm 17) (ki
 0))] [kp [1, 4, 18] []]) (.cond (tm 18) (.seq (.reg [om 19 4, od 2 (.mv kN), om 3 19] [kp [2, 3] [23]]) .ret) .skip))) (.seq (.reg [od 20 (fa 0 1), od 21 (ld 1 20), od 22 (le 0 21), od 23 (.mk 3 1 [(.int .i64 0)] (tm 22) (tm 22)),
 om 5 23] [kp [1, 5] [23]]) (.seq (.reg [od 24 (fa 0 1), od 25 (ld 1 24), od 26 (le 0 25), od 27 (.mk 3 1 [(.int .i64 0)] (tm 26) (tm 26)), om 6 27] [kp [1, 5, 6] [23, 27]]) (.seq (.reg [od 7 (.mv kN)] [.nl 7 53 3 1, kp [1, 5, 6, 7]
 [23, 27, 53]]) (.seq (.seq (.reg [od 28 (fa 0 1), od 29 (ld 1 28), od 30 (le 0 29), od 31 (.mv (ki 0))] [kp [1, 5, 6, 7, 29, 30, 31] [23, 27, 53]]) (.block 0 Gv)) (.seq (.reg [od 55 (lG 4 1), od 56 (.call 66 [(tm
 55)]), om 10 56] [kp [1, 5, 6, 7, 10] [23, 27, 53]]) (.seq (.reg [od 11 (.mv (ki 0))] [kp [1, 5, 6, 7, 10, 11] [23, 27, 53]]) (.seq .skip (.seq (.block 2 Gx) (.seq (.seq (.reg [om 125 11, od 126 (fa 0 1), od 127 (ld
 1 126), od 128 (le 0 127), od 129 (.bin .lss (tm 125) (tm 128))] [kp [5, 129] [23]]) (.cond (tm 129) (.seq (.reg [od 2 (.mv kN), od 3 (.mv (ki 6))] [kp [2, 3] [23]]) .ret) .skip)) (.seq (.reg [om 130 5, om 2 130, od 3 (.mv (ki 0))]
 [kp [2, 3] [23]]) .ret)))))))))))))
theorem Ll (h : ∀ K : St → Prop, K = run P Γ Gv Q → run P Γ Pq (B5 K Q) s) : run P Γ Gv Q s := Au h
theorem Lm (h : ∀ K : St → Prop, K = run P Γ Gw Q → run P Γ Pv (B5 K Q) s) : run P Γ Gw Q s := Au h
theorem Ln (h : ∀ K : St → Prop, K = run P Γ Gx Q → run P Γ Px (B5 K Q) s) : run P Γ Gx Q s := Au h
attribute [simp] E4 J7 J8
def Eh : List RV := [.tmp 2, .tmp 3]
/- slices.Contains[[]probecard/api.Kind,probecard/api.Kind] (function 54) -/
abbrev Hw : IC := (.seq (.reg [od 4 (.mv kF)] [kp [0, 1] []]) (.seq (.reg [om 5 0, om 6 1, od 7 (.call 67 [(tm 5), (tm 6)]), od 8 (.bin .geq (tm 7) (ki 0)), om 4 8] [kp [4] []]) .ret))
def Hy : List RV := [.tmp 4]
/- probecard/netlists.shape (function 64) -/
abbrev Qr : IC := .gh (.seq (.reg [od 39 (.bin .lss (tm 38) (tm 37))] [kp [1, 36, 37, 38, 39] []]) (.seq (.cond (tm 39) .skip (.exit 1)) (.seq (.block 2 (.seq (.reg [od 40 (ia 4 36 38), od 41 (lG 4 40), od 4 (.alloc false [(.int .u8 0), (.slice none
 0 0), (.int .i64 0), (.int .i64 0)]), on (.store 4 (tm 4) (tm 41))] [kp [1, 4, 36, 37, 38] [4]]) (.seq (.reg [od 42 (lG 4 1), od 43 (lG 4 4), od 44 (.call 72 [(tm 42), (tm 43)]), om 5 44] [kp [1, 5, 36, 37, 38] []]) (.seq (.reg [om
 45 5, od 46 (.bin .neq (tm 45) (ki 0))] [kp [1, 5, 36, 37, 38, 46] []]) (.cond (tm 46) (.seq (.reg [om 47 5, om 2 47] [kp [2] []]) .ret) .skip))))) (.reg [od 48 (.bin .add (tm 38) (ki 1)), om 38 48] [kp [1, 36, 37, 38] []])))) [kp
 [1, 36, 37, 38] []]
def Hz : IC := .loop Qr
abbrev Qs : IC := .gh (.seq (.reg [od 58 (.bin .lss (tm 57) (tm 56))] [kp [1, 55, 56, 57, 58] []]) (.seq (.cond (tm 58) .skip (.exit 3)) (.seq (.block 4 (.seq (.reg [od 59 (ia 3 55 57), od 60 (lG 3 59), od 8 (.alloc false [(.slice none 0 0), (.slice
 none 0 0), (.int .i64 0)]), on (.store 3 (tm 8) (tm 60))] [kp [1, 8, 55, 56, 57] [8]]) (.seq (.reg [od 61 (lG 4 1), od 62 (lG 3 8), od 63 (.call 74 [(tm 61), (tm 62)]), om 9 63] [kp [1, 9, 55, 56, 57] []]) (.seq (.reg [om 64 9, od
 65 (.bin .neq (tm 64) (ki 0))] [kp [1, 9, 55, 56, 57, 65] []]) (.cond (tm 65) (.seq (.reg [om 66 9, om 2 66] [kp [2] []]) .ret) .skip))))) (.reg [od 67 (.bin .add (tm 57) (ki 1)), om 57 67] [kp [1, 55, 56, 57] []])))) [kp [1, 55,
 56, 57] []]
def I0 : IC := .loop Qs
abbrev Cd : IC := (.seq (.reg [od 1 (.box true (tm 0)), od 2 (.mv (ki 0))] [kp [1] []]) (.seq (.block 0 (.seq (.reg [od 11 (fa 0 1), od 12 (ld 1 11), od 13 (le 0 12), od 14 (.bin .gtr (tm 13) (ki 16384)), om 15 14, oF 16 (fa 2 1) 15, oF 17 (ld 1 16)
 15, oF 18 (le 0 17) 15, oF 19 (.bin .gtr (tm 18) (ki 16)) 15, od 20 (.pick (tm 15) kT (tm 19)), om 21 20, oF 22 (fa 3 1) 21, oF 23 (ld 1 22) 21, oF 24 (le 0 23) 21, oF 25 (.bin .gtr (tm 24) (ki 16384)) 21, od 26 (.pick (tm 21) kT
 (tm 25)), om 10 26] [kp [1, 10] []]) (.cond (tm 10) (.seq (.reg [od 2 (.mv (ki 3))] [kp [2] []]) .ret) (.seq (.reg [od 28 (fa 1 1), od 29 (ld 1 28), od 30 (le 0 29), od 31 (fa 0 1), od 32 (ld 1 31), od 33 (le 0 32), od 34 (.bin
 .neq (tm 30) (tm 33)), om 27 34] [kp [1, 27] []]) (.cond (tm 27) (.seq (.reg [od 2 (.mv (ki 8))] [kp [2] []]) .ret) .skip))))) (.seq (.seq (.reg [od 35 (fa 0 1), od 36 (ld 1 35), od 37 (le 0 36), od 38 (.mv (ki 0))] [kp [1, 36, 37,
 38] []]) (.block 1 Hz)) (.seq (.seq (.reg [od 49 (lG 4 1), od 50 (.call 73 [(tm 49)]), om 6 50] [kp [1, 6] []]) (.seq (.reg [om 51 6, od 52 (.bin .neq (tm 51) (ki 0))] [kp [1, 6, 52] []]) (.cond (tm 52) (.seq (.reg
 [om 53 6, om 2 53] [kp [2] []]) .ret) .skip))) (.seq (.seq (.reg [od 54 (fa 2 1), od 55 (ld 1 54), od 56 (le 0 55), od 57 (.mv (ki 0))] [kp [1, 55, 56, 57] []]) (.block 3 I0)) (.seq (.seq (.reg [od 68 (fa 3 1), od 69
 (ld 1 68), od 70 (lG 4 1), od 71 (.call 76 [(tm 70)]), od 72 (.call 75 [(tm 69), (tm 71)])] [kp [72] []]) (.cond (tm 72) (.seq (.reg [od 2 (.mv (ki 1))] [kp [2] []]) .ret) .skip)) (.seq (.reg [od 2 (.mv (ki 0))] [kp [2] []])
 .ret)))))))
theorem M9 (h : ∀ K : St → Prop, K = run P Γ Hz Q → run P Γ Qr (B5 K Q) s) : run P Γ Hz Q s := Au h
theorem Mc (h : ∀ K : St → Prop, K = run P Γ I0 Q → run P Γ Qs (B5 K Q) s) : run P Γ I0 Q s := Au h
def Bc : List RV := [.tmp 2]
/- probecard/netlists.Fanout (function 66) -/
def Cj : List RO := [om 37 3, om 38 8, om 39 3, om 40 8, od 41 (ia 1 39 40), od 42 (ld 1 41), om 43 5, om 44 7, od 45 (.build [(1, (tm 43)), (1, (tm 44))]), od 46 (.bsl true 45 2 [(tm 45)]), od 47 (.app false 45 2 (tm 42) (tm 46)), od 48 (ia 1 37 38),
 on (.store 1 (tm 48) (tm 47))]
def J9 : List RO := [od 49 (.bin .add (tm 28) (ki 1)), om 28 49]
abbrev Py : IC := .gh (.seq (.reg [od 29 (.bin .lss (tm 28) (tm 27))] [.keepB [3, 4, 5, 18, 19, 20, 26, 27, 28, 29] [14] 100000 16384]) (.seq (.cond (tm 29) .skip (.exit 2)) (.seq (.block 3 (.seq (.reg [om 30 28, od 31 (ia 1 26 28), od 32 (ld 1 31),
 om 7 30, om 8 32] [.keepB [3, 4, 5, 7, 8, 18, 19, 20, 26, 27, 28] [14] 100000 16384]) (.seq (.reg [om 33 4, om 34 8, od 35 (.callv (tm 33) [(tm 34)]), od 36 (.un .not (tm 35))] [.keepB [3, 4, 5, 7, 8, 18, 19, 20, 26, 27, 28, 36]
 [14] 100000 16384]) (.cond (tm 36) (.reg Cj [.renS 47 100000 8, .keepB [3, 4, 5, 18, 19, 20, 26, 27, 28] [14] 100000 16384]) .skip)))) (.reg J9 [.keepB [3, 4, 5, 18, 19, 20, 26, 27, 28] [14] 100000
 16384])))) [.keepB [3, 4, 5, 18, 19, 20, 26, 27, 28] [14] 100000 16384]
def Gy : IC := .loop Py
abbrev Pz : IC := .gh (.seq (.reg [od 21 (.bin .lss (tm 20) (tm 19))] [.keepB [3, 4, 18, 19, 20, 21] [14] 100000 16384]) (.seq (.cond (tm 21) .skip (.exit 0)) (.seq (.block 1 (.seq (.reg [om 22 20, od 23 (ia 4 18 20), od 24 (lG 4 23), od 6 (.alloc
 false [(.int .u8 0), (.slice none 0 0), (.int .i64 0), (.int .i64 0)]), om 5 22, on (.store 4 (tm 6) (tm 24))] [.keepB [3, 4, 5, 6, 18, 19, 20] [6, 14] 100000 16384]) (.seq (.reg [od 25 (fa 1 6), od 26 (ld 1 25), od 27 (le 0 26),
 od 28 (.mv (ki 0))] [.keepB [3, 4, 5, 18, 19, 20, 26, 27, 28] [14] 100000 16384]) (.block 2 Gy)))) (.reg [od 50 (.bin .add (tm 20) (ki 1)), om 20 50] [.keepB [3, 4, 18, 19, 20] [14] 100000 16384])))) [.keepB [3, 4,
 18, 19, 20] [14] 100000 16384]
def Gz : IC := .loop Pz
abbrev Q0 : IC := .gh (.seq (.reg [od 54 (.bin .lss (tm 53) (tm 52))] [kp [3, 51, 52, 53, 54] [14, 47]]) (.seq (.cond (tm 54) .skip (.exit 4)) (.seq (.block 5 (.seq (.reg [om 55 53, od 56 (ia 1 51 53), od 57 (ld 1 56), om 9 55, om 10 57] [kp [3, 9,
 10, 51, 52, 53] [14, 47]]) (.reg [om 58 3, om 59 9, om 60 10, od 61 (.call 77 [(tm 60)]), od 62 (ia 1 58 59), on (.store 1 (tm 62) (tm 61))] [kp [3, 51, 52, 53] [14, 47]]))) (.reg [od 63 (.bin .add (tm 53) (ki 1)), om 53 63] [kp
 [3, 51, 52, 53] [14, 47]])))) [kp [3, 51, 52, 53] [14, 47]]
def H2 : IC := .loop Q0
abbrev K7 : IC := (.seq (.reg [od 1 (.box true (tm 0)), od 2 (.mv kN)] [kp [1] []]) (.seq (.reg [od 11 (fa 0 1), od 12 (ld 1 11), od 13 (le 0 12), od 14 (.mkB 128 [(.slice none 0 0)] (tm 13) (tm 13)), om 3 14] [.keepB [1, 3] [14] 100000 16384])
 (.seq (.reg [od 15 (lG 4 1), od 16 (.call 76 [(tm 15)]), om 4 16] [.keepB [1, 3, 4] [14] 100000 16384]) (.seq (.seq (.reg [od 17 (fa 0 1), od 18 (ld 1 17), od 19 (le 0 18), od 20 (.mv (ki 0))] [.keepB [3, 4, 18, 19, 20] [14] 100000
 16384]) (.block 0 Gz)) (.seq (.seq (.reg [om 51 3, od 52 (le 0 51), od 53 (.mv (ki 0))] [.frzs 100000 16384, kp [3, 51, 52, 53] [14, 47]]) (.block 4 H2)) (.seq (.reg [om 64 3, om 2 64] [kp [2] [14,
 47]]) .ret))))))
theorem Lo (h : ∀ K : St → Prop, K = run P Γ Gy Q → run P Γ Py (B5 K Q) s) : run P Γ Gy Q s := Au h
theorem Lp (h : ∀ K : St → Prop, K = run P Γ Gz Q → run P Γ Pz (B5 K Q) s) : run P Γ Gz Q s := Au h
theorem Lq (h : ∀ K : St → Prop, K = run P Γ H2 Q → run P Γ Q0 (B5 K Q) s) : run P Γ H2 Q s := Au h
attribute [simp] Cj J9
def K8 : List RV := [.tmp 2]
/- slices.Index[[]probecard/api.Kind,probecard/api.Kind] (function 67) -/
abbrev S1 : IC := .gh (.seq (.reg [od 9 (.bin .lss (tm 8) (tm 7))] [kp [0, 1, 7, 8, 9] []]) (.seq (.cond (tm 9) .skip (.exit 0)) (.seq (.block 1 (.seq (.reg [om 10 8, om 5 10] [kp [0, 1, 5, 7, 8] []]) (.seq (.reg [om 11 1, om 12 0, om 13 5, od 14
 (ia 1 12 13), od 15 (ld 1 14), od 16 (.bin .eql (tm 11) (tm 15))] [kp [0, 1, 5, 7, 8, 16] []]) (.cond (tm 16) (.seq (.reg [om 17 5, om 4 17] [kp [4] []]) .ret) .skip)))) (.reg [od 18 (.bin .add (tm 8) (ki 1)), om 8 18] [kp [0, 1,
 7, 8] []])))) [kp [0, 1, 7, 8] []]
def S3 : IC := .loop S1
def Jj : List RO := [od 4 (.mv (.const (.int .i64 (-1))))]
abbrev Jk : IC := (.seq (.reg [od 4 (.mv (ki 0))] [kp [0, 1] []]) (.seq (.seq (.reg [om 6 0, od 7 (le 0 6), od 8 (.mv (ki 0))] [kp [0, 1, 7, 8] []]) (.block 0 S3)) (.seq (.reg Jj [kp [4] []]) .ret)))
attribute [simp] Jj
def Jl : List RV := [.tmp 4]
/- probecard/logic.Fanin (function 83) -/
abbrev Lr : IC := (.seq (.reg [od 2 (.mv (ki 0)), od 3 (.mv (ki 0))] [kp [0] []]) (.seq (.seq (.reg [om 4 0, od 5 (.conv .i64 (tm 4)), od 6 (.bin .geq (tm 5) (ki 16))] [kp [0, 6] []]) (.cond (tm 6) (.seq (.reg [od 2 (.mv (ki 0)), od 3 (.mv (.const
 (.int .i64 (-1))))] [kp [2, 3] []]) .ret) .skip)) (.seq (.reg [om 7 0, od 8 (.iadrA 16 2 (.global 1) (tm 7)), od 9 (.iadrA 2 1 (tm 8) (ki 0)), od 10 (ld 1 9), om 11 0, od 12 (.iadrA 16 2 (.global 1) (tm 11)), od 13 (.iadrA 2 1 (tm
 12) (ki 1)), od 14 (ld 1 13), om 2 10, om 3 14] [kp [2, 3] []]) .ret)))
def Ls : List RV := [.tmp 2, .tmp 3]
/- strings.IndexByte (function 97) -/
abbrev Ig : IC := (.seq (.reg [od 4 (.mv (ki 0))] [kp [0, 1] []]) (.seq (.reg [om 5 0, om 6 1, od 7 (.call 102 [(tm 5), (tm 6)]), om 4 7] [kp [4] []]) .ret))
def Ih : List RV := [.tmp 4]
/- probecard/netlists.node (function 72) -/
abbrev Nh : IC := (.seq (.reg [od 2 (.box true (tm 0)), od 3 (.box true (tm 1)), od 4 (.mv (ki 0))] [kp [2, 3] []]) (.seq (.reg [od 9 (fa 0 3), od 10 (ld 1 9), od 11 (.call 83 [(tm 10)]), om 8 11, od 12 (ex 8 0), od 13 (ex 8 1), om 5 12, om 6 13]
 [kp [2, 3, 5, 6] []]) (.seq (.reg [od 14 (.mkf 84 [(tm 2)]), om 7 14] [kp [2, 3, 5, 6, 7] []]) (.seq (.block 0 (.seq (.reg [od 16 (fa 0 3), od 17 (ld 1 16), od 18 (.bin .gtr (tm 17) (ku 15)), om 15 18] [kp [2, 3, 5, 6, 7, 15] []])
 (.cond (tm 15) (.seq (.reg [od 4 (.mv (ki 7))] [kp [4] []]) .ret) (.seq (.reg [od 20 (fa 1 3), od 21 (ld 1 20), od 22 (le 0 21), om 23 5, od 24 (.bin .lss (tm 22) (tm 23)), om 25 24, oF 26 (fa 1 3) 25, oF 27 (ld 1 26) 25, oF 28 (le
 0 27) 25, oF 29 (.mv (tm 6)) 25, oF 30 (.bin .gtr (tm 28) (tm 29)) 25, od 31 (.pick (tm 25) kT (tm 30)), om 19 31] [kp [2, 3, 7, 19] []]) (.cond (tm 19) (.seq (.reg [od 4 (.mv (ki 8))] [kp [4] []]) .ret) (.seq (.reg [od 33 (fa 1
 3), od 34 (ld 1 33), od 35 (lG 4 2), od 36 (.call 76 [(tm 35)]), od 37 (.call 75 [(tm 34), (tm 36)]), om 32 37] [kp [2, 3, 7, 32] []]) (.cond (tm 32) (.seq (.reg [od 4 (.mv (ki 1))] [kp [4] []]) .ret) (.seq (.reg [od 39 (fa 0 3),
 od 40 (ld 1 39), od 41 (.bin .eql (tm 40) (ku 13)), om 42 41, oT 43 (fa 1 3) 42, oT 44 (ld 1 43) 42, oT 45 (.mv (tm 7)) 42, oT 46 (.call 75 [(tm 44), (tm 45)]) 42, od 47 (.pick (tm 42) (tm 46) kF), om 38 47] [kp [2, 3, 38] []])
 (.cond (tm 38) (.seq (.reg [od 4 (.mv (ki 7))] [kp [4] []]) .ret) (.seq (.reg [od 49 (lG 4 2), od 50 (lG 4 3), od 51 (.call 85 [(tm 49), (tm 50)]), od 52 (.un .not (tm 51)), om 48 52] [kp [48] []]) (.cond (tm 48) (.seq (.reg [od 4
 (.mv (ki 1))] [kp [4] []]) .ret) .skip))))))))))) (.seq (.reg [od 4 (.mv (ki 0))] [kp [4] []]) .ret)))))
def Br : List RV := [.tmp 4]
/- probecard/netlists.names (function 73) -/
abbrev Qu : IC := .gh (.seq (.reg [od 11 (.bin .lss (tm 10) (tm 9))] [kp [3, 8, 9, 10, 11] [6]]) (.seq (.cond (tm 11) .skip (.exit 0)) (.seq (.block 1 (.seq (.reg [od 12 (ia 1 8 10), od 13 (ld 1 12), om 5 13] [kp [3, 5, 8, 9, 10] [6]]) (.seq (.seq
 (.reg [om 14 5, od 15 (.call 86 [(tm 14)]), od 16 (.un .not (tm 15)), om 17 16, oF 18 (.mv (tm 3)) 17, oF 19 (.mv (tm 5)) 17, oF 20 (.lkup .str (.bool false) false (tm 18) (tm 19)) 17, od 21 (.pick (tm 17) kT (tm 20))] [kp [3, 5,
 8, 9, 10, 21] [6]]) (.cond (tm 21) (.seq (.reg [od 2 (.mv (ki 5))] [kp [2] []]) .ret) .skip)) (.reg [om 22 3, om 23 5, on (.mup .str (tm 22) (tm 23) kT)] [kp [3, 8, 9, 10] [6]])))) (.reg [od 24 (.bin .add (tm 10) (ki 1)), om 10 24]
 [kp [3, 8, 9, 10] [6]])))) [kp [3, 8, 9, 10] [6]]
def I1 : IC := .loop Qu
abbrev Lt : IC := (.seq (.reg [od 1 (.box true (tm 0)), od 2 (.mv (ki 0))] [kp [1] []]) (.seq (.reg [od 6 (.mkmap), om 3 6] [kp [1, 3] [6]]) (.seq (.seq (.reg [od 7 (fa 1 1), od 8 (ld 1 7), od 9 (le 0 8), od 10 (.mv (ki 0))] [kp [3, 8, 9, 10] [6]])
 (.block 0 I1)) (.seq (.reg [od 2 (.mv (ki 0))] [kp [2] []]) .ret))))
theorem Md (h : ∀ K : St → Prop, K = run P Γ I1 Q → run P Γ Qu (B5 K Q) s) : run P Γ I1 Q s := Au h
def I2 : List RV := [.tmp 2]
/- probecard/netlists.memory (function 74) -/
abbrev K9 : IC := (.seq (.reg [od 2 (.box true (tm 0)), od 3 (.box true (tm 1)), od 4 (.mv (ki 0))] [kp [2, 3] []]) (.seq (.reg [od 5 (.mv (.func 87))] [kp [2, 3, 5] []]) (.seq (.reg [od 7 (lG 4 2), od 8 (.call 76 [(tm 7)]), om 6 8] [kp [3, 5, 6]
 []]) (.seq (.block 0 (.seq (.reg [om 10 5, od 11 (fa 0 3), od 12 (ld 1 11), od 13 (.callv (tm 10) [(tm 12), (ki 8)]), om 14 13, oF 15 (.mv (tm 5)) 14, oF 16 (fa 1 3) 14, oF 17 (ld 1 16) 14, oF 18 (.callv (tm 15) [(tm 17), (ki 32)])
 14, od 19 (.pick (tm 14) kT (tm 18)), om 9 19] [kp [3, 6, 9] []]) (.cond (tm 9) (.seq (.reg [od 4 (.mv (ki 8))] [kp [4] []]) .ret) (.seq (.reg [od 21 (fa 0 3), od 22 (ld 1 21), om 23 6, od 24 (.call 75 [(tm 22), (tm 23)]), om 25
 24, oF 26 (fa 1 3) 25, oF 27 (ld 1 26) 25, oF 28 (.mv (tm 6)) 25, oF 29 (.call 75 [(tm 27), (tm 28)]) 25, od 30 (.pick (tm 25) kT (tm 29)), om 31 30, oF 32 (.mv (tm 6)) 31, oF 33 (fa 2 3) 31, oF 34 (ld 1 33) 31, oF 35 (.callv (tm
 32) [(tm 34)]) 31, od 36 (.pick (tm 31) kT (tm 35)), om 20 36] [kp [20] []]) (.cond (tm 20) (.seq (.reg [od 4 (.mv (ki 1))] [kp [4] []]) .ret) .skip))))) (.seq (.reg [od 4 (.mv (ki 0))] [kp [4] []]) .ret)))))
def Bn : List RV := [.tmp 4]
/- slices.ContainsFunc[[]int,int] (function 75) -/
abbrev Ei : IC := (.seq (.reg [od 4 (.mv kF)] [kp [0, 1] []]) (.seq (.reg [om 5 0, om 6 1, od 7 (.call 88 [(tm 5), (tm 6)]), od 8 (.bin .geq (tm 7) (ki 0)), om 4 8] [kp [4] []]) .ret))
def Ej : List RV := [.tmp 4]
/- probecard/netlists.outside (function 76) -/
abbrev Ja : IC := (.seq (.reg [od 1 (.box true (tm 0)), od 2 (.mv (.const .nilFunc))] [kp [1] []]) (.seq (.reg [od 3 (.mkf 89 [(tm 1)]), om 2 3] [kp [2] []]) .ret))
def Jb : List RV := [.tmp 2]
/- slices.Clip[[]probecard/api.Line,probecard/api.Line] (function 77) -/
abbrev G4 : IC := (.seq (.reg [od 2 (.mv kN)] [kp [0] []]) (.seq (.reg [om 3 0, om 4 0, od 5 (le 0 4), om 6 0, od 7 (le 0 6), od 8 (.slice 2 (tm 3) none (some (tm 5)) (some (tm 7))), om 2 8] [kp [2] []]) .ret))
def G5 : List RV := [.tmp 2]
/- internal/stringslite.IndexByte (function 102) -/
abbrev Ek : IC := (.seq (.reg [od 4 (.mv (ki 0))] [kp [0, 1] []]) (.seq (.reg [om 5 0, om 6 1, od 7 (.call 103 [(tm 5), (tm 6)]), om 4 7] [kp [4] []]) .ret))
def Em : List RV := [.tmp 4]
/- probecard/netlists.node$1 (function 84) -/
abbrev Ko : IC := (.seq (.reg [od 3 (.mv kF)] [kp [0, 1] []]) (.seq (.reg [od 4 (fa 0 1), od 5 (ld 1 4), om 6 0, od 7 (ia 4 5 6), od 8 (fa 0 7), od 9 (ld 1 8), od 10 (.bin .neq (tm 9) (ku 12)), om 3 10] [kp [3] []]) .ret))
def Kp : List RV := [.tmp 3]
/- probecard/netlists.bit (function 85) -/
abbrev D5 : IC := (.seq (.reg [od 2 (.box true (tm 0)), od 3 (.box true (tm 1)), od 4 (.mv kF)] [kp [2, 3] []]) (.seq (.seq (.reg [od 5 (fa 0 3), od 6 (ld 1 5), od 7 (.bin .neq (tm 6) (ku 15))] [kp [2, 3, 7] []]) (.cond (tm 7) (.seq (.reg [od 8 (fa
 2 3), od 9 (ld 1 8), od 10 (.bin .eql (tm 9) (ki 0)), om 11 10, oT 12 (fa 3 3) 11, oT 13 (ld 1 12) 11, oT 14 (.bin .eql (tm 13) (ki 0)) 11, od 15 (.pick (tm 11) (tm 14) kF), om 4 15] [kp [4] []]) .ret) .skip)) (.seq (.reg [od 16
 (fa 2 3), od 17 (ld 1 16), od 18 (.bin .geq (tm 17) (ki 0)), om 19 18, oT 20 (fa 2 3) 19, oT 21 (ld 1 20) 19, oT 22 (fa 2 2) 19, oT 23 (ld 1 22) 19, oT 24 (le 0 23) 19, oT 25 (.bin .lss (tm 21) (tm 24)) 19, od 26 (.pick (tm 19) (tm
 25) kF), om 27 26, oT 28 (fa 3 3) 27, oT 29 (ld 1 28) 27, oT 30 (.bin .geq (tm 29) (ki 0)) 27, od 31 (.pick (tm 27) (tm 30) kF), om 32 31, oT 33 (fa 3 3) 32, oT 34 (ld 1 33) 32, oT 35 (fa 2 2) 32, oT 36 (ld 1 35) 32, oT 37 (fa 2 3)
 32, oT 38 (ld 1 37) 32, oT 39 (ia 3 36 38) 32, oT 40 (fa 1 39) 32, oT 41 (ld 1 40) 32, oT 42 (le 0 41) 32, oT 43 (.bin .lss (tm 34) (tm 42)) 32, od 44 (.pick (tm 32) (tm 43) kF), om 4 44] [kp [4] []]) .ret)))
def D6 : List RV := [.tmp 4]
/- probecard/netlists.IsName (function 86) -/
abbrev En : IC := (.seq (.reg [od 2 (.mv kF)] [kp [0] []]) (.seq (.reg [od 3 (.mv (.func 92))] [kp [0, 3] []]) (.seq (.reg [om 4 0, od 5 (.bin .neq (tm 4) (.const (sV []))), om 6 5, oT 7 (.mv (tm 0)) 6, oT 8 (le 1 7) 6, oT 9 (.bin .leq (tm 8) (ki
 32)) 6, od 10 (.pick (tm 6) (tm 9) kF), om 11 10, oT 12 (.mv (tm 0)) 11, oT 13 (.mv (tm 3)) 11, oT 14 (.call 94 [(tm 12), (tm 13)]) 11, oT 15 (.un .not (tm 14)) 11, od 16 (.pick (tm 11) (tm 15) kF), om 2 16] [kp [2] []]) .ret)))
def Eo : List RV := [.tmp 2]
/- probecard/netlists.memory$1 (function 87) -/
abbrev Ii : IC := (.seq (.reg [od 4 (.mv kF)] [kp [0, 1] []]) (.seq (.reg [om 5 0, od 6 (le 0 5), od 7 (.bin .eql (tm 6) (ki 0)), om 8 7, oF 9 (.mv (tm 0)) 8, oF 10 (le 0 9) 8, oF 11 (.mv (tm 1)) 8, oF 12 (.bin .gtr (tm 10) (tm 11)) 8, od 13 (.pick
 (tm 8) kT (tm 12)), om 4 13] [kp [4] []]) .ret))
def Ij : List RV := [.tmp 4]
/- slices.IndexFunc[[]int,int] (function 88) -/
abbrev Kz : IC := .gh (.seq (.reg [od 9 (.bin .lss (tm 8) (tm 7))] [kp [0, 1, 7, 8, 9] []]) (.seq (.cond (tm 9) .skip (.exit 0)) (.seq (.block 1 (.seq (.reg [om 10 8, om 5 10] [kp [0, 1, 5, 7, 8] []]) (.seq (.reg [om 11 1, om 12 0, om 13 5, od 14
 (ia 1 12 13), od 15 (ld 1 14), od 16 (.callv (tm 11) [(tm 15)])] [kp [0, 1, 5, 7, 8, 16] []]) (.cond (tm 16) (.seq (.reg [om 17 5, om 4 17] [kp [4] []]) .ret) .skip)))) (.reg [od 18 (.bin .add (tm 8) (ki 1)), om 8 18] [kp [0, 1, 7,
 8] []])))) [kp [0, 1, 7, 8] []]
def Du : IC := .loop Kz
abbrev G6 : IC := (.seq (.reg [od 4 (.mv (ki 0))] [kp [0, 1] []]) (.seq (.seq (.reg [om 6 0, od 7 (le 0 6), od 8 (.mv (ki 0))] [kp [0, 1, 7, 8] []]) (.block 0 Du)) (.seq (.reg [od 4 (.mv (.const (.int .i64 (-1))))] [kp [4] []])
 .ret)))
theorem I3 (h : ∀ K : St → Prop, K = run P Γ Du Q → run P Γ Kz (B5 K Q) s) : run P Γ Du Q s := Au h
def Dv : List RV := [.tmp 4]
/- probecard/netlists.outside$1 (function 89) -/
abbrev Hn : IC := (.seq (.reg [od 3 (.mv kF)] [kp [0, 1] []]) (.seq (.reg [om 4 0, od 5 (.bin .lss (tm 4) (ki 0)), om 6 5, oF 7 (.mv (tm 0)) 6, oF 8 (fa 0 1) 6, oF 9 (ld 1 8) 6, oF 10 (le 0 9) 6, oF 11 (.bin .geq (tm 7) (tm 10)) 6, od 12 (.pick (tm
 6) kT (tm 11)), om 3 12] [kp [3] []]) .ret))
def Ho : List RV := [.tmp 3]
/- probecard/netlists.IsName$1 (function 92) -/
abbrev Dn : IC := (.seq (.reg [od 2 (.mv kF)] [kp [0] []]) (.seq (.reg [om 3 0, od 4 (.bin .leq (tm 3) (.const (.int .i32 32))), om 5 4, oF 6 (.mv (tm 0)) 5, oF 7 (.bin .gtr (tm 6) (.const (.int .i32 126))) 5, od 8 (.pick (tm 5) kT (tm 7)), om 9 8,
 oF 10 (.mv (tm 0)) 9, oF 11 (.call 93 [(.const (sV [40, 41, 61, 44, 35])), (tm 10)]) 9, od 12 (.pick (tm 9) kT (tm 11)), om 2 12] [kp [2] []]) .ret))
def Do : List RV := [.tmp 2]
/- strings.ContainsRune (function 93) -/
abbrev G7 : IC := (.seq (.reg [od 4 (.mv kF)] [kp [0, 1] []]) (.seq (.reg [om 5 0, om 6 1, od 7 (.call 95 [(tm 5), (tm 6)]), od 8 (.bin .geq (tm 7) (ki 0)), om 4 8] [kp [4] []]) .ret))
def G8 : List RV := [.tmp 4]
/- strings.ContainsFunc (function 94) -/
abbrev G9 : IC := (.seq (.reg [od 4 (.mv kF)] [kp [0, 1] []]) (.seq (.reg [om 5 0, om 6 1, od 7 (.call 96 [(tm 5), (tm 6)]), od 8 (.bin .geq (tm 7) (ki 0)), om 4 8] [kp [4] []]) .ret))
def Ge : List RV := [.tmp 4]
/- strings.IndexRune (function 95) -/
abbrev Ik : IC := (.seq (.reg [od 4 (.mv (ki 0))] [kp [0, 1] []]) (.block 0 (.seq (.reg [om 161 1, od 162 (.bin .leq (.const (.int .i32 0)) (tm 161)), om 163 162, oT 164 (.mv (tm 1)) 163, oT 165 (.bin .lss (tm 164) (.const (.int .i32 128))) 163, od
 166 (.pick (tm 163) (tm 165) kF), om 160 166] [kp [0, 1, 160] []]) (.cond (tm 160) (.seq (.reg [om 167 0, om 168 1, od 169 (.conv .u8 (tm 168)), od 170 (.call 97 [(tm 167), (tm 169)]), om 4 170] [kp [4] []]) .ret) (.seq (.reg [om
 172 1, od 173 (.bin .eql (tm 172) (.const (.int .i32 65533))), om 171 173] [kp [1, 171] []]) (.cond (tm 171) .dead (.seq (.reg [om 184 1, od 185 (.call 98 [(tm 184)]), od 186 (.un .not (tm 185)), om 183 186] [kp [183] []]) (.cond
 (tm 183) .dead .dead))))))))
def Il : List RV := [.tmp 4]
/- strings.IndexFunc (function 96) -/
abbrev Im : IC := (.seq (.reg [od 4 (.mv (ki 0))] [kp [0, 1] []]) (.seq (.reg [om 5 0, om 6 1, od 7 (.call 101 [(tm 5), (tm 6), kT]), om 4 7] [kp [4] []]) .ret))
def Ip : List RV := [.tmp 4]
/- unicode/utf8.ValidRune (function 98) -/
abbrev Qv : IC := (.seq (.reg [od 2 (.mv kF)] [kp [0] []]) (.seq (.block 0 (.seq (.reg [om 4 0, od 5 (.bin .leq (.const (.int .i32 0)) (tm 4)), om 6 5, oT 7 (.mv (tm 0)) 6, oT 8 (.bin .lss (tm 7) (.const (.int .i32 55296))) 6, od 9 (.pick (tm 6) (tm
 8) kF), om 3 9] [kp [0, 3] []]) (.cond (tm 3) (.seq (.reg [od 2 (.mv kT)] [kp [2] []]) .ret) (.seq (.reg [om 11 0, od 12 (.bin .lss (.const (.int .i32 57343)) (tm 11)), om 13 12, oT 14 (.mv (tm 0)) 13, oT 15 (.bin .leq (tm 14)
 (.const (.int .i32 1114111))) 13, od 16 (.pick (tm 13) (tm 15) kF), om 10 16] [kp [10] []]) (.cond (tm 10) (.seq (.reg [od 2 (.mv kT)] [kp [2] []]) .ret) .skip))))) (.seq (.reg [od 2 (.mv kF)] [kp [2] []]) .ret)))
def Qw : List RV := [.tmp 2]
/- strings.indexFunc (function 101) -/
abbrev O7 : IC := .gh (.seq (.reg [od 11 (.nxt (tm 10)), od 12 (ex 11 0)] [kp [1, 2, 10, 11, 12] [10]]) (.seq (.cond (tm 12) .skip (.exit 0)) (.block 1 (.seq (.reg [od 13 (ex 11 1), od 14 (ex 11 2), om 7 13, om 8 14] [kp [1, 2, 7, 8, 10] [10]])
 (.seq (.reg [om 15 1, om 16 8, od 17 (.callv (tm 15) [(tm 16)]), om 18 2, od 19 (.eqb true (tm 17) (tm 18))] [kp [1, 2, 7, 10, 19] [10]]) (.cond (tm 19) (.seq (.reg [om 20 7, om 6 20] [kp [6] []]) .ret) .skip)))))) [kp [1, 2, 10]
 [10]]
def F5 : IC := .loop O7
abbrev Iq : IC := (.seq (.reg [od 6 (.mv (ki 0))] [kp [0, 1, 2] []]) (.seq (.seq (.reg [om 9 0, od 10 (.rng (tm 9))] [kp [1, 2, 10] [10]]) (.block 0 F5)) (.seq (.reg [od 6 (.mv (.const (.int .i64 (-1))))] [kp [6] []]) .ret)))
theorem Jm (h : ∀ K : St → Prop, K = run P Γ F5 Q → run P Γ O7 (B5 K Q) s) : run P Γ F5 Q s := Au h
def F6 : List RV := [.tmp 6]
end
end Go.Lg
namespace Go.Lg
open Go Go.Proofs
theorem Q1 : Ax Tryd.prog 29 Lh 11 1 Lj = true := by kernel_rfl
theorem q1x : Ax Tryd.prog 30 Wj 27 2 Wl = true := by kernel_rfl
theorem Y0 : Ax Tryd.prog 44 Pl 6 1 Pm = true := by kernel_rfl
theorem Qx : Ax Tryd.prog 65 Nb 9 1 Nc = true := by kernel_rfl
theorem Y1 : Ax Tryd.prog 55 Pn 9 1 Po = true := by kernel_rfl
theorem Oj : Ax Tryd.prog 53 K6 131 1 Eh = true := by kernel_rfl
theorem Og : Ax Tryd.prog 54 Hw 9 2 Hy = true := by kernel_rfl
theorem Q2 : Ax Tryd.prog 64 Cd 73 1 Bc = true := by kernel_rfl
theorem Ol : Ax Tryd.prog 66 K7 65 1 K8 = true := by kernel_rfl
theorem Qj : Ax Tryd.prog 67 Jk 19 2 Jl = true := by kernel_rfl
theorem V6 : Ax Tryd.prog 83 Lr 15 1 Ls = true := by kernel_rfl
theorem Me : Ax Tryd.prog 97 Ig 8 2 Ih = true := by kernel_rfl
theorem Qy : Ax Tryd.prog 72 Nh 53 2 Br = true := by kernel_rfl
theorem Q3 : Ax Tryd.prog 73 Lt 25 1 I2 = true := by kernel_rfl
theorem Om : Ax Tryd.prog 74 K9 37 2 Bn = true := by kernel_rfl
theorem I4 : Ax Tryd.prog 75 Ei 9 2 Ej = true := by kernel_rfl
theorem O8 : Ax Tryd.prog 76 Ja 4 1 Jb = true := by kernel_rfl
theorem Jn : Ax Tryd.prog 77 G4 9 1 G5 = true := by kernel_rfl
theorem I5 : Ax Tryd.prog 102 Ek 8 2 Em = true := by kernel_rfl
theorem On : Ax Tryd.prog 84 Ko 11 2 Kp = true := by kernel_rfl
theorem Ta : Ax Tryd.prog 85 D5 45 2 D6 = true := by kernel_rfl
theorem Oo : Ax Tryd.prog 86 En 17 1 Eo = true := by kernel_rfl
theorem N1 : Ax Tryd.prog 87 Ii 14 2 Ij = true := by kernel_rfl
theorem Jo : Ax Tryd.prog 88 G6 19 2 Dv = true := by kernel_rfl
theorem Lu : Ax Tryd.prog 89 Hn 13 2 Ho = true := by kernel_rfl
theorem N2 : Ax Tryd.prog 92 Dn 13 1 Do = true := by kernel_rfl
theorem Jp : Ax Tryd.prog 93 G7 9 2 G8 = true := by kernel_rfl
theorem Jq : Ax Tryd.prog 94 G9 9 2 Ge = true := by kernel_rfl
theorem N3 : Ax Tryd.prog 95 Ik 187 2 Il = true := by kernel_rfl
theorem N4 : Ax Tryd.prog 96 Im 8 2 Ip = true := by kernel_rfl
theorem Z9 : Ax Tryd.prog 98 Qv 17 1 Qw = true := by kernel_rfl
theorem N5 : Ax Tryd.prog 101 Iq 21 3 F6 = true := by kernel_rfl
end Go.Lg
set_option maxRecDepth 100000
namespace Go.Lg
open Go Go.Proofs
variable {Γ : Tables}
theorem q4Q (es : List (List T)) (cap : Option Nat) (nl : Option Bool) (hw : Gk 2 es) : Aw Tryd.prog Γ 77 [.sl es cap nl] (.sl es (some es.length) nl) := by
 refine P8 Jn rfl ?_
 simp [G4, G5, ret, hw]
def qBj {α : Type} (p : α → Bool) (l : List α) : Int := match l.findIdx? p with | some i => i | none => -1
theorem q72 {α : Type} {p : α → Bool} {l : List α} {i : Nat} (hp : ∀ j, j < i → ∀ x, l[j]? = some x → p x = false) (x : α) (hx : l[i]? = some x) (h : p x = true) : l.findIdx? p = some i := by
 rw [List.findIdx?_eq_some_iff_getElem]
 have hi := (List.getElem?_eq_some_iff.1 hx).1
 refine ⟨hi, ?_, fun j hj => ?_⟩
 ·have := (List.getElem?_eq_some_iff.1 hx).2; rw [this]; exact h
 ·have := hp j hj l[j] (List.getElem?_eq_getElem (by omega))
  simp [this]
theorem q1g {cs : List T} : Aa (cs.map fun t => some t) = some cs := by
 induction cs with
 | nil => rfl
 | cons t cs ih => simp only [List.map_cons, Aa, ih, Option.map_some]
theorem Za {hp : List (Nat × Ak)} {f : FuncId} {K : T → Prop} {cs : List T} {t res : T} (h : A5 Tryd.prog Γ f (t :: cs) res) (hk : K res) : q2s Tryd.prog Γ hp f (.t t :: cs.map .t) K ⟨⟩ :=
 A4 h (by simp only [List.map_cons, List.map_map, Function.comp_def, Aa, An]; rw [q1g]; rfl) hk
theorem Wm {Q : AX → St → Prop} (l : List Int) (c : Option Nat) (nl : Option Bool) (f : FuncId) (cs : List T) (p : Int → Bool) (hp : ∀ x ∈ l, A5 Tryd.prog Γ f (tI x :: cs) (tB (p x))) (hl : l.length ≤ 1000000000)
  (h0 : (∀ x ∈ l, p x = false) → Q (.exit 0) ⟨[(0, .t (.sl (D9 l) c nl)), (1, .t (.fn f cs)), (7, .t (tI l.length)), (8, .t (tI l.length)), (9, .t (tB false))], []⟩)
  (h1 : ∀ i : Nat, l.findIdx? p = some i → Q .ret ⟨[(4, .t (tI i))], []⟩) : ∀ (k i : Nat), k + i = l.length → (∀ j, j < i → ∀ y, l[j]? = some y → p y = false) →
  run Tryd.prog Γ Du Q ⟨[(0, .t (.sl (D9 l) c nl)), (1, .t (.fn f cs)), (7, .t (tI l.length)), (8, .t (tI i))], []⟩
 | 0, i, h, hq => by
  refine I3 fun K hK => ?_
  have h2 : ¬ i < l.length := by omega
  simp (disch := omega) [A3, He (0 : Int), Ad, A7, h2]
  have h3 : i = l.length := by omega
  subst h3
  refine h0 fun y hy => ?_
  obtain ⟨j, hj, rfl⟩ := List.getElem_of_mem hy
  exact hq j (by omega) _ (List.getElem?_eq_getElem hj)
 | k + 1, i, h, hq => by
  refine I3 fun K hK => ?_
  have h2 : i < l.length := by omega
  simp (disch := omega) [A3, He (0 : Int), Ad, A7, h2]
  refine Za (hp l[i] (List.getElem_mem h2)) ?_
  simp
  refine ⟨fun hc => ?_, fun hc => ?_⟩
  ·simp [Fh]
   exact h1 i (q72 hq l[i] (List.getElem?_eq_getElem h2) hc)
  ·simp (disch := omega) [Fh, A7]
   rw [hK]
   exact_mod_cast Wm l c nl f cs p hp hl h0 h1 k (i + 1) (by omega) (fun j hj y hy => by
    rcases Nat.lt_succ_iff_lt_or_eq.1 hj with hj | rfl
    ·exact hq j hj y hy
    ·rw [List.getElem?_eq_getElem h2] at hy; simp at hy; subst hy; exact hc)
theorem q3g (l : List Int) (c : Option Nat) (nl : Option Bool) (f : FuncId) (cs : List T) (p : Int → Bool) (hp : ∀ x ∈ l, A5 Tryd.prog Γ f (tI x :: cs) (tB (p x))) (hl : l.length ≤ 1000000000) : A5 Tryd.prog Γ 88 [.sl (D9 l) c nl, .fn f cs] (tI (qBj p l)) := by
 refine Ah Jo rfl ?_
 simp (disch := omega) [G6, A3, A7]
 refine Wm l c nl f cs p hp hl (fun h => ?_) (fun i h => ?_) l.length 0 (by omega) (by simp)
 ·have : l.findIdx? p = none := List.findIdx?_eq_none_iff.2 h
  simp [ret, Dv, E6, Hv, G3, D2, qBj, this]
 ·simp [ret, Dv, E6, Hv, G3, D2, qBj, h]
theorem Tc (l : List Int) (c : Option Nat) (nl : Option Bool) (f : FuncId) (cs : List T) (p : Int → Bool) (hp : ∀ x ∈ l, A5 Tryd.prog Γ f (tI x :: cs) (tB (p x))) (hl : l.length ≤ 1000000000) : A5 Tryd.prog Γ 75 [.sl (D9 l) c nl, .fn f cs] (tB (l.any p)) := by
 refine Ah I4 rfl ?_
 simp (disch := omega) [Ei, A3, A7]
 refine A4 (q3g l c nl f cs p hp hl) rfl ?_
 simp [ret, Ej, E6, Hv, G3, D2]
 unfold qBj
 cases h : l.findIdx? p with
 | none =>
  rw [List.findIdx?_eq_none_iff] at h
  have : l.any p = false := by rw [List.any_eq_false]; intro x hx; simp [h x hx]
  simp [this]
 | some i =>
  rw [List.findIdx?_eq_some_iff_getElem] at h
  obtain ⟨hi, h1, _⟩ := h
  have : l.any p = true := List.any_eq_true.2 ⟨_, List.getElem_mem hi, h1⟩
  simp [this]
theorem q4R (k : Int) : A5 Tryd.prog Γ 65 [tK k] (tB (decide (1 ≤ k ∧ k ≤ 13))) := by
 refine Ah Qx rfl ?_
 by_cases h1 : 1 ≤ k <;> by_cases h2 : k ≤ 13 <;> simp [Nb, ret, Nc, E6, Hv, G3, D2, h1, h2]
structure Nd where
 k : Int
 inn : Sl Int
 mem : Int
 bit : Int
structure Mm where
 addr : Sl Int
 data : Sl Int
 write : Int
structure E5 where
 nodes : Sl Nd
 names : Sl (List UInt8)
 mems : Sl Mm
 outs : Sl Int
def tNd (x : Nd) : List T := [tK x.k, C5 x.inn, tI x.mem, tI x.bit]
def tMm (m : Mm) : List T := [C5 m.addr, C5 m.data, tI m.write]
def tS (l : List UInt8) : T := .v (sV l)
def B1 (s : Sl Nd) : T := .sl (Jh tNd s.l) s.cap s.nl
def Dp (s : Sl (List UInt8)) : T := .sl (Dc tS s.l) s.cap s.nl
def Gm (s : Sl Mm) : T := .sl (Jh tMm s.l) s.cap s.nl
def tC (c : E5) : List T := [B1 c.nodes, Dp c.names, Gm c.mems, C5 c.outs]
def Nd.d : Nd := ⟨0, ⟨[], none, none⟩, 0, 0⟩
def Mm.d : Mm := ⟨⟨[], none, none⟩, ⟨[], none, none⟩, 0⟩
theorem q04 {l : List Nd} : Gk 4 (Jh tNd l) := q30 fun _ => rfl
theorem q05 {l : List Mm} : Gk 3 (Jh tMm l) := q30 fun _ => rfl
structure CirOk (c : E5) : Prop where
 nodes : c.nodes.l.length ≤ 1000000000
 names : c.names.l.length ≤ 1000000000
 mems : c.mems.l.length ≤ 1000000000
 outs : c.outs.l.length ≤ 1000000000
 kind : ∀ x ∈ c.nodes.l, 0 ≤ x.k ∧ x.k ≤ 255
 inn : ∀ x ∈ c.nodes.l, x.inn.l.length ≤ 1000000000
 addr : ∀ m ∈ c.mems.l, m.addr.l.length ≤ 1000000000 ∧ m.data.l.length ≤ 1000000000
def Oh (c : E5) (n : Int) : Bool := decide (n < 0 ∨ (c.nodes.l.length : Int) ≤ n)
theorem S4 (c : E5) (n : Int) (hc : c.nodes.l.length ≤ 1000000000) : A5 Tryd.prog Γ 89 [tI n, .ip (tC c) 0] (tB (Oh c n)) := by
 refine Ah Lu rfl ?_
 by_cases h1 : n < 0 <;> simp (disch := omega) [Hn, ret, Ho, E6, Hv, G3, D2, h1, tC, B1, Bg, A7, Oh]
theorem P0 (c : E5) : Aw Tryd.prog Γ 76 [.agg (tC c)] (.fn 89 [.ip (tC c) 0]) := by
 refine P8 O8 rfl ?_
 simp [Ja, ret, Jb, tC, Bf, Ao, T.one, AV.one, B1, Dp, Gm, C5]
theorem Qz (c : E5) (hc : c.nodes.l.length ≤ 1000000000) (l : List Int) (cap : Option Nat) (nl : Option Bool) (hl : l.length ≤ 1000000000) : A5 Tryd.prog Γ 75 [.sl (D9 l) cap nl, .fn 89 [.ip (tC c) 0]] (tB (l.any (Oh c))) :=
 Tc l cap nl _ _ _ (fun x _ => S4 c x hc) hl
def q1y : List (Int × Int) := [(0, 0), (0, 0), (0, 0), (1, 1), (1, 1), (2, 16), (2, 16), (2, 16), (2, 16), (2, 16), (2, 16), (3, 3), (2, 2), (1, 16), (1, 1), (0, 0)]
def q73 : List T := q1y.flatMap fun p => [tI p.1, tI p.2]
def fan (k : Int) : Int × Int := if 16 ≤ k then (0, -1) else q1y.getD k.toNat (0, 0)
def GOk (Γ : Tables) : Prop := Γ 1 = some q73
theorem q74 (hΓ : GOk Γ) (k : Int) (h0 : 0 ≤ k) (h1 : k ≤ 255) : A5 Tryd.prog Γ 83 [tK k] (.tup [tI (fan k).1, tI (fan k).2]) := by
 unfold GOk at hΓ
 refine Ah V6 rfl ?_
 by_cases h2 : 16 ≤ k
 ·simp (disch := omega) [Lr, ret, Ls, E6, Hv, G3, D2, h2, A7, fan]
 ·have h3 : k = 0 ∨ k = 1 ∨ k = 2 ∨ k = 3 ∨ k = 4 ∨ k = 5 ∨ k = 6 ∨ k = 7 ∨ k = 8 ∨ k = 9 ∨ k = 10 ∨ k = 11 ∨ k = 12 ∨ k = 13 ∨ k = 14 ∨ k = 15 := by omega
  rcases h3 with rfl | rfl | rfl | rfl | rfl | rfl | rfl | rfl | rfl | rfl | rfl | rfl | rfl | rfl | rfl | rfl <;>
  simp (disch := omega) [Lr, ret, Ls, E6, Hv, G3, D2, A7, fan, hΓ, q73, q1y] <;> exact ⟨rfl, rfl⟩
def Y7 (c : E5) (x : Nd) : Bool :=
 if x.k ≠ 15 then decide (x.mem = 0 ∧ x.bit = 0)
 else decide (0 ≤ x.mem ∧ x.mem < c.mems.l.length ∧ 0 ≤ x.bit ∧ x.bit < ((c.mems.l.getD x.mem.toNat Mm.d).data.l.length))
theorem qA6 (c : E5) (x : Nd) (hc : CirOk c) : A5 Tryd.prog Γ 85 [.agg (tC c), .agg (tNd x)] (tB (Y7 c x)) := by
 refine Ah Ta rfl ?_
 have hm := hc.mems
 by_cases h1 : x.k = 15
 ·by_cases h2 : 0 ≤ x.mem
  ·by_cases h3 : x.mem < c.mems.l.length
   ·have h3' : x.mem.toNat < c.mems.l.length := by omega
    by_cases h4 : 0 ≤ x.bit
    ·simp (disch := omega) [D5, ret, D6, E6, Hv, G3, D2, Bf, Ao, T.one, AV.one, tC, tNd, B1, Dp, Gm, C5, h1, h2, h3, h4, h3', Bg, Ji Mm.d, A7, q05, tMm, A3, Y7]
    ·simp (disch := omega) [D5, ret, D6, E6, Hv, G3, D2, Bf, Ao, T.one, AV.one, tC, tNd, B1, Dp, Gm, C5, h1, h2, h3, h4, h3', Bg, Ji Mm.d, A7, q05, tMm, A3, Y7]
   ·simp (disch := omega) [D5, ret, D6, E6, Hv, G3, D2, Bf, Ao, T.one, AV.one, tC, tNd, B1, Dp, Gm, C5, h1, h2, h3, Bg, Ji Mm.d, A7, q05, tMm, A3, Y7]
  ·simp (disch := omega) [D5, ret, D6, E6, Hv, G3, D2, Bf, Ao, T.one, AV.one, tC, tNd, B1, Dp, Gm, C5, h1, h2, Bg, Ji Mm.d, A7, q05, tMm, A3, Y7]
 ·by_cases h2 : x.mem = 0
  ·simp (disch := omega) [Fh, D5, D6, tC, tNd, B1, Dp, Gm, C5, h1, h2, Y7, -decide_eq_decide]
  ·have h2' : (x.mem == 0) = false := by simpa using h2
   simp (disch := omega) [Fh, D5, D6, tC, tNd, B1, Dp, Gm, C5, h1, h2, h2', Y7]
def Q4 (l : List Int) (most : Int) : Bool := decide (l.length = 0 ∨ most < l.length)
theorem q06 (l : List Int) (cap : Option Nat) (nl : Option Bool) (most : Int) (hl : l.length ≤ 1000000000) : A5 Tryd.prog Γ 87 [.sl (D9 l) cap nl, tI most] (tB (Q4 l most)) := by
 refine Ah N1 rfl ?_
 by_cases h : l.length = 0 <;> simp (disch := omega) [Ii, ret, Ij, E6, Hv, G3, D2, A3, h, Q4, A7]
def q0z (c : E5) (n : Int) : Bool := decide ((c.nodes.l.getD n.toNat Nd.d).k ≠ 12)
theorem q75 (c : E5) (n : Int) (h0 : 0 ≤ n) (h1 : n < c.nodes.l.length) : A5 Tryd.prog Γ 84 [tI n, .ip (tC c) 0] (tB (q0z c n)) := by
 refine Ah On rfl ?_
 have h2 : n.toNat < c.nodes.l.length := by omega
 simp (disch := omega) [Ko, ret, Kp, E6, Hv, G3, D2, tC, B1, Bg, Ji Nd.d, q04, h0, h1, h2, q0z, tNd]
def Dw (c : E5) (x : Nd) : Int :=
 if 15 < x.k then 7 else if (x.inn.l.length : Int) < (fan x.k).1 ∨ (fan x.k).2 < x.inn.l.length then 8 else if x.inn.l.any (Oh c) then 1
 else if x.k = 13 ∧ x.inn.l.any (q0z c) = true then 7 else if Y7 c x = false then 1 else 0
theorem q07 {c : E5} {l : List Int} (h : l.any (Oh c) = false) : ∀ n ∈ l, 0 ≤ n ∧ n < c.nodes.l.length := by
 intro n hn
 have := List.any_eq_false.1 h n hn
 simp only [Oh, decide_eq_true_eq, not_or, Int.not_lt, Int.not_le] at this
 exact this
theorem q8p (hΓ : GOk Γ) (c : E5) (x : Nd) (hc : CirOk c) (hk : 0 ≤ x.k ∧ x.k ≤ 255) (hl : x.inn.l.length ≤ 1000000000) : A5 Tryd.prog Γ 72 [.agg (tC c), .agg (tNd x)] (tI (Dw c x)) := by
 refine Ah Qy rfl ?_
 have hn := hc.nodes
 have e1 := Qz (Γ := Γ) c hn x.inn.l x.inn.cap x.inn.nl hl
 have e2 := q74 hΓ x.k hk.1 hk.2
 have e3 := P0 (Γ := Γ) c
 have e4 := qA6 (Γ := Γ) c x hc
 simp (disch := omega) [Nh, Bf, Ao, T.one, AV.one, tC, tNd, B1, Dp, Gm, C5]
 refine A4 e2 rfl ?_
 simp (disch := omega)
 simp
 refine ⟨fun h1 => ?_, fun h1 => ?_⟩
 ·simp [Fh, ret, Br, E6, Hv, G3, D2, Dw, h1]
 by_cases h2 : (x.inn.l.length : Int) < (fan x.k).1
 ·simp (disch := omega) [Fh, A3, A7, h2, ret, Br, E6, Hv, G3, D2, Dw, h1]
 by_cases h3 : (fan x.k).2 < x.inn.l.length
 ·simp (disch := omega) [Fh, A3, A7, h2, h3, ret, Br, E6, Hv, G3, D2, Dw, h1]
 simp (disch := omega) [Fh, A3, A7, h2, h3]
 refine Ie e3 rfl ?_
 simp (disch := omega)
 refine A4 e1 rfl ?_
 simp (disch := omega) [-List.any_eq_true, -List.any_eq_false]
 refine ⟨fun h4 => ?_, fun h4 => ?_⟩
 ·simp [-List.any_eq_true, -List.any_eq_false, Fh, ret, Br, E6, Hv, G3, D2, Dw, h1, h2, h3, h4]
 have h4' : x.inn.l.any (Oh c) = false := h4
 by_cases h5 : x.k = 13
 ·have e5 := Tc (Γ := Γ) x.inn.l x.inn.cap x.inn.nl 84 [.ip (tC c) 0] (q0z c) (fun n hm => q75 c n (q07 h4' n hm).1 (q07 h4' n hm).2) hl
  simp (disch := omega) [Fh, h5]
  refine A4 e5 rfl ?_
  simp [-List.any_eq_true, -List.any_eq_false]
  refine ⟨fun h6 => ?_, fun h6 => ?_⟩
  ·have h6' : x.inn.l.any (q0z c) = true := h6
   simp [-List.any_eq_true, -List.any_eq_false, Fh, ret, Br, E6, Hv, G3, D2, Dw, h1, h2, h3, h4', h5, h6']
   simp [h5] at h2 h3; omega
  ·have h6' : x.inn.l.any (q0z c) = false := h6
   have e : Dw c x = if Y7 c x = false then 1 else 0 := by
    unfold Dw
    rw [if_neg (by omega), if_neg (by omega), if_neg (by simp [h4']), if_neg (by simp [h6'])]
   rw [e]
   simp (disch := omega) [Fh, h6']
   rw [show tNd x = [tK 13, C5 x.inn, tI x.mem, tI x.bit] from by simp [tNd, h5]] at e4
   refine A4 e4 rfl ?_
   simp
   refine ⟨fun h7 => ?_, fun h7 => ?_⟩ <;> simp [Fh, Br, h7]
 ·have e : Dw c x = if Y7 c x = false then 1 else 0 := by
   unfold Dw
   rw [if_neg (by omega), if_neg (by omega), if_neg (by simp [h4']), if_neg (by simp [h5])]
  rw [e]
  simp (disch := omega) [Fh, h5]
  refine A4 e4 rfl ?_
  simp
  refine ⟨fun h7 => ?_, fun h7 => ?_⟩ <;> simp [Fh, Br, h7]
theorem qHT : (Tryd.prog.funcs[103]?).map (fun f => (f.name, f.body.isNone, f.origin)) = some ("internal/bytealg.IndexByteString", true, "") := by kernel_rfl
abbrev tR (n : Int) : T := .v (.int .i32 n)
theorem O9 (s : ByteArray) (c : Int) : A5 Tryd.prog Γ 103 [.v (.string s), tK c] (tI (Lib.indexByte s.data.toList c.toNat.toUInt8)) := by
 intro w X vs hg hx hts
 obtain ⟨x, xs, rfl, h1, h2⟩ := hts.cons_inv
 obtain ⟨y, ys, rfl, h3, h4⟩ := h2.cons_inv
 have := h4.nil_inv; subst this
 cases h1; cases h3
 refine .inr ⟨.int .i64 (Lib.indexByte s.data.toList c.toNat.toUInt8), ?_, RowKit.Below.refl _ _, .v _⟩
 have h := qHT
 simp only [Option.map_eq_some_iff, Prod.mk.injEq] at h
 obtain ⟨fn, hf, hn, hb, ho⟩ := h
 have e1 : Extern.findNext fn = none := by
  simp only [Extern.findNext, hn, ho]
  have a : Extern.allNextRows.lookup "internal/bytealg.IndexByteString" = none := by kernel_rfl
  have b : Extern.allNextRows.lookup "" = none := by kernel_rfl
  rw [a, b]; rfl
 have e2 : Extern.find fn = some Extern.BytealgIndexByte.indexByte := by
  simp only [Extern.find, hn, ho]
  have a : Extern.allGenericRows.lookup "internal/bytealg.IndexByteString" = none := by kernel_rfl
  have b : Extern.allTypedRows.lookup "internal/bytealg.IndexByteString" = none := by kernel_rfl
  have c : Extern.allRows.lookup "internal/bytealg.IndexByteString" = some Extern.BytealgIndexByte.indexByte := by kernel_rfl
  rw [a, b, c]; rfl
 have hnn : ¬ fn.name = "runtime.NumGoroutine" := by rw [hn]; decide
 have hr := Lib.run_indexByteString (P := Tryd.prog) s c w
 have hb' : fn.body = none := by simpa using hb
 simp [callFunc, hf, hnn, hb', e1, e2, hr]
theorem q8q (s : ByteArray) (c : Int) : A5 Tryd.prog Γ 102 [.v (.string s), tK c] (tI (Lib.indexByte s.data.toList c.toNat.toUInt8)) := by
 refine Ah I5 rfl ?_
 simp [Ek]
 refine A4 (O9 s c) rfl ?_
 simp [Em]
theorem q33 (s : ByteArray) (c : Int) : A5 Tryd.prog Γ 97 [.v (.string s), tK c] (tI (Lib.indexByte s.data.toList c.toNat.toUInt8)) := by
 refine Ah Me rfl ?_
 simp [Ig]
 refine A4 (q8q s c) rfl ?_
 simp [Ih]
theorem q34 (s : ByteArray) (c : Int) (h0 : 0 ≤ c) (h1 : c < 128) : A5 Tryd.prog Γ 95 [.v (.string s), tR c] (tI (Lib.indexByte s.data.toList c.toNat.toUInt8)) := by
 refine Ah N3 rfl ?_
 simp (disch := omega) [Ik, h0, h1, q2F]
 refine A4 (q33 s c) rfl ?_
 simp [Il]
theorem q08 (s : ByteArray) (c : Int) (h0 : 0 ≤ c) (h1 : c < 128) : A5 Tryd.prog Γ 93 [.v (.string s), tR c] (tB (decide (0 ≤ Lib.indexByte s.data.toList c.toNat.toUInt8))) := by
 refine Ah Jp rfl ?_
 simp (disch := omega) [G7]
 refine A4 (q34 s c h0 h1) rfl ?_
 simp [G8]
def q8r (c : Int) : Bool := decide (c ≤ 32 ∨ 126 < c ∨ 0 ≤ Lib.indexByte [40, 41, 61, 44, 35] c.toNat.toUInt8)
theorem q8s (c : Int) : A5 Tryd.prog Γ 92 [tR c] (tB (q8r c)) := by
 refine Ah N2 rfl ?_
 by_cases h1 : c ≤ 32
 ·simp [Dn, Do, h1, q8r]
 by_cases h2 : 126 < c
 ·simp [Dn, Do, h1, h2, q8r]
 simp [Dn, h1, h2]
 refine A4 (q08 ⟨#[40, 41, 61, 44, 35]⟩ c (by omega) (by omega)) rfl ?_
 simp [Do, q8r, h1, h2]
theorem q76 (s : List UInt8) (i : Nat) (hi : i < s.length) (ha : s[i] < 128) : Utf8.decode ⟨s.toArray⟩ i = ((s[i]).toNat, 1) := by
 have e : (ByteArray.mk s.toArray).get! (i + 0) = s[i] := by
  simp [ByteArray.get!, hi]
 have h2 : (s[i]).toNat < 128 := by simpa [UInt8.lt_iff_toNat_lt] using ha
 unfold Utf8.decode
 simp only [e, h2, ↓reduceIte]
def q77 (s : List UInt8) : Bool := s.any fun b => q8r b.toNat
theorem Wn {Q : AX → St → Prop} (s : List UInt8) (ha : ∀ b ∈ s, b < 128)
  (h0 : q77 s = false → Q (.exit 0) ⟨[(1, .t (.fn 92 [])), (2, .t (tB true)), (10, .li 10), (11, .t (.tup [tB false])), (12, .t (tB false))], [(10, .it ⟨s.toArray⟩ s.length)]⟩)
  (h1 : q77 s = true → ∀ i : Nat, Q .ret ⟨[(6, .t (tI i))], []⟩) : ∀ (k i : Nat), k + i = s.length → (∀ j, j < i → ∀ b, s[j]? = some b → q8r b.toNat = false) →
  run Tryd.prog Γ F5 Q ⟨[(1, .t (.fn 92 [])), (2, .t (tB true)), (10, .li 10)], [(10, .it ⟨s.toArray⟩ i)]⟩
 | 0, i, h, hq => by
  refine Jm fun K hK => ?_
  have h2 : ¬ i < s.length := by omega
  have h3 : i = s.length := by omega
  have h4 : ¬ i < (ByteArray.mk s.toArray).size := by simpa [ByteArray.size] using h2
  simp [h2]
  subst h3
  refine h0 (List.any_eq_false.2 fun b hb => ?_)
  obtain ⟨j, hj, rfl⟩ := List.getElem_of_mem hb
  simp [hq j hj _ (List.getElem?_eq_getElem hj)]
 | k + 1, i, h, hq => by
  refine Jm fun K hK => ?_
  have h2 : i < s.length := by omega
  have h4 : i < (ByteArray.mk s.toArray).size := by simpa [ByteArray.size] using h2
  simp [h2, q76 s i h2 (ha _ (List.getElem_mem h2))]
  refine A4 (q8s s[i].toNat) rfl ?_
  simp
  refine ⟨fun hc => ?_, fun hc => ?_⟩
  ·simp [Fh]
   exact h1 (List.any_eq_true.2 ⟨_, List.getElem_mem h2, hc⟩) i
  ·simp [Fh]
   rw [hK]
   exact Wn s ha h0 h1 k (i + 1) (by omega) (fun j hj b hb => by
    rcases Nat.lt_succ_iff_lt_or_eq.1 hj with hj | rfl
    ·exact hq j hj b hb
    ·rw [List.getElem?_eq_getElem h2] at hb; simp at hb; subst hb; exact hc)
theorem q54 (s : List UInt8) (ha : ∀ b ∈ s, b < 128) : ∃ n : Int, A5 Tryd.prog Γ 101 [tS s, .fn 92 [], tB true] (tI n) ∧ (0 ≤ n ↔ q77 s = true) := by
 have : ∃ r, A5 Tryd.prog Γ 101 [tS s, .fn 92 [], tB true] r ∧ ∃ n, r = tI n ∧ (0 ≤ n ↔ q77 s = true) := by
  refine q4L N5 rfl ?_
  simp [Iq, tS, sV]
  refine Wn s ha (fun h => ?_) (fun h i => ?_) s.length 0 (by omega) (by simp)
  ·simp [F6, h]
  ·simp [F6, h]
 obtain ⟨_, h1, n, rfl, h2⟩ := this
 exact ⟨n, h1, h2⟩
theorem q1z (s : List UInt8) (ha : ∀ b ∈ s, b < 128) : ∃ n : Int, A5 Tryd.prog Γ 96 [tS s, .fn 92 []] (tI n) ∧ (0 ≤ n ↔ q77 s = true) := by
 obtain ⟨n, h1, h2⟩ := q54 (Γ := Γ) s ha
 refine ⟨n, Ah N4 rfl ?_, h2⟩
 simp [Im]
 refine A4 h1 rfl ?_
 simp [Ip]
theorem Wp (s : List UInt8) (ha : ∀ b ∈ s, b < 128) : A5 Tryd.prog Γ 94 [tS s, .fn 92 []] (tB (q77 s)) := by
 obtain ⟨n, h1, h2⟩ := q1z (Γ := Γ) s ha
 refine Ah Jq rfl ?_
 simp [G9]
 refine A4 h1 rfl ?_
 simp [Ge, h2]
def Zb (s : List UInt8) : Bool := decide (s ≠ [] ∧ s.length ≤ 32) && !q77 s
theorem q5y (s : List UInt8) (ha : ∀ b ∈ s, b < 128) : A5 Tryd.prog Γ 86 [tS s] (tB (Zb s)) := by
 refine Ah Oo rfl ?_
 have h := Wp (Γ := Γ) s ha
 by_cases h1 : s = []
 ·simp [En, Eo, tS, sV, h1, Zb]
 have h1' : s.isEmpty = false := by simpa using h1
 by_cases h2 : s.length ≤ 32
 ·have h2' : (s.length : Int) ≤ 32 := by omega
  simp [En, tS, sV, h1, h1', h2']
  refine A4 h rfl ?_
  simp [Eo, Zb, h1, h2]
 ·have h2' : ¬ (s.length : Int) ≤ 32 := by omega
  simp [En, Eo, tS, sV, h1, h1', h2', h2, Zb]
def Lx (c : E5) (m : Mm) : Int :=
 if Q4 m.addr.l 8 = true ∨ Q4 m.data.l 32 = true then 8 else if m.addr.l.any (Oh c) = true ∨ m.data.l.any (Oh c) = true ∨ Oh c m.write = true then 1 else 0
theorem q5z (c : E5) (m : Mm) (hc : CirOk c) (hm : m.addr.l.length ≤ 1000000000 ∧ m.data.l.length ≤ 1000000000) : A5 Tryd.prog Γ 74 [.agg (tC c), .agg (tMm m)] (tI (Lx c m)) := by
 refine Ah Om rfl ?_
 have hn := hc.nodes
 have e1 := Qz (Γ := Γ) c hn m.addr.l m.addr.cap m.addr.nl hm.1
 have e2 := Qz (Γ := Γ) c hn m.data.l m.data.cap m.data.nl hm.2
 have e3 := P0 (Γ := Γ) c
 have e4 := q06 (Γ := Γ) m.addr.l m.addr.cap m.addr.nl 8 hm.1
 have e5 := q06 (Γ := Γ) m.data.l m.data.cap m.data.nl 32 hm.2
 have e6 := S4 (Γ := Γ) c m.write hn
 simp [K9, tC, tMm, B1, Dp, Gm, C5]
 refine Ie e3 rfl ?_
 simp
 refine A4 e4 rfl ?_
 have fin2 : ∀ b : Bool, b = decide (m.addr.l.any (Oh c) = true ∨ m.data.l.any (Oh c) = true ∨ Oh c m.write = true) → (Q4 m.addr.l 8 = false) → (Q4 m.data.l 32 = false) → Lx c m = if b then 1 else 0 := by
  intro b hb h1 h2
  subst hb
  unfold Lx
  rw [if_neg (by simp [h1, h2])]
  simp
 by_cases h1 : Q4 m.addr.l 8 = true
 ·simp [h1, Bn, Lx]
 have h1' : Q4 m.addr.l 8 = false := by simpa using h1
 simp [h1']
 refine A4 e5 rfl ?_
 by_cases h2 : Q4 m.data.l 32 = true
 ·simp [h2, Bn, Lx]
 have h2' : Q4 m.data.l 32 = false := by simpa using h2
 simp [h2']
 refine A4 e1 rfl ?_
 generalize m.addr.l.any (Oh c) = b1 at e1 fin2
 generalize m.data.l.any (Oh c) = b2 at e2 fin2
 generalize Oh c m.write = b3 at e6 fin2
 cases b1 with
 | true => simp [Bn, fin2 true (by simp) h1' h2']
 | false =>
  simp
  refine A4 e2 rfl ?_
  cases b2 with
  | true => simp [Bn, fin2 true (by simp) h1' h2']
  | false =>
   simp
   refine Za e6 ?_
   cases b3 with
   | true => simp [Bn, fin2 true (by simp) h1' h2']
   | false => simp [Bn, fin2 false (by simp) h1' h2']
def q35 (l : List (List UInt8)) : List (Value × T) := l.map fun s => (sV s, tB true)
theorem qCX (a b : List UInt8) : Jg (sV a) (sV b) = decide (a = b) := by
 simp only [Jg, sV]
 by_cases h : a = b
 ·subst h; simp [q0h]
 ·have : ¬ (ByteArray.mk a.toArray) = ⟨b.toArray⟩ := fun e => h (by simpa using e)
  have h2 : ((ByteArray.mk a.toArray) == ⟨b.toArray⟩) = false := by
   cases hq : ((ByteArray.mk a.toArray) == ⟨b.toArray⟩)
   ·rfl
   ·exact absurd ((q0h _ _).1 hq) this
  rw [h2]; simp [h]
theorem q36 (x : List UInt8) : ∀ l : List (List UInt8), Ed (sV x) (q35 l) = if x ∈ l then some (tB true) else none
 | [] => rfl
 | y :: l => by
  have ih := q36 x l
  simp only [q35, List.map_cons, Ed, qCX] at ih ⊢
  by_cases h : x = y
  ·simp [h]
  ·simp [h, ih]
theorem q4S (x : List UInt8) : ∀ l : List (List UInt8), x ∉ l → q0e (sV x) (tB true) (q35 l) = q35 (l ++ [x])
 | [], _ => rfl
 | y :: l, h => by
  have ih := q4S x l (fun hm => h (List.mem_cons_of_mem _ hm))
  have hne : x ≠ y := fun e => h (by simp [e])
  simp only [q35, List.map_cons, q0e, qCX, List.cons_append] at ih ⊢
  simp [hne, ih]
theorem q8t (l : List (List UInt8)) : Iy .str (q35 l) := by
 intro e he; obtain ⟨s, _, rfl⟩ := List.mem_map.1 he; rfl
def Ir : List (List UInt8) → List (List UInt8) → Int
 | _, [] => 0
 | done, s :: l => if Zb s = false ∨ s ∈ done then 5 else Ir (done ++ [s]) l
theorem q37 {Q : AX → St → Prop} (n : Sl (List UInt8)) (hl : n.l.length ≤ 1000000000) (ha : ∀ s ∈ n.l, ∀ b ∈ s, b < 128) (R : Int)
  (h0 : R = 0 → ∀ m : List (Value × T), Q (.exit 0) ⟨[(3, .lm 6), (8, .t (Dp n)), (9, .t (tI n.l.length)), (10, .t (tI n.l.length)), (11, .t (tB false))], [(6, .mp m)]⟩)
  (h5 : R = 5 → Q .ret ⟨[(2, .t (tI 5))], []⟩) : ∀ (k i : Nat), k + i = n.l.length → Ir (n.l.take i) (n.l.drop i) = R →
  run Tryd.prog Γ I1 Q ⟨[(3, .lm 6), (8, .t (Dp n)), (9, .t (tI n.l.length)), (10, .t (tI i))], [(6, .mp (q35 (n.l.take i)))]⟩
 | 0, i, h, hR => by
  refine Md fun K hK => ?_
  have h2 : ¬ i < n.l.length := by omega
  have h3 : i = n.l.length := by omega
  simp [h2, Dp]
  subst h3
  refine h0 ?_ _
  rw [← hR]; simp [Ir]
 | k + 1, i, h, hR => by
  refine Md fun K hK => ?_
  have h2 : i < n.l.length := by omega
  simp (disch := omega) [h2, Dp, A3, He ([] : List UInt8), Ad]
  refine A4 (q5y n.l[i] (ha _ (List.getElem_mem h2))) rfl ?_
  have hd : n.l.drop i = n.l[i] :: n.l.drop (i + 1) := List.drop_eq_getElem_cons h2
  rw [hd] at hR
  simp only [Ir] at hR
  have ht : n.l.take i ++ [n.l[i]] = n.l.take (i + 1) := by rw [List.take_add_one]; simp [h2]
  by_cases hq : Zb n.l[i] = true
  ·have hfit := q8t (n.l.take i)
   simp [hq, tS, KT.fits, sV, hfit]
   rw [show (Value.string ⟨(n.l[i]).toArray⟩) = sV n.l[i] from rfl, q36]
   by_cases hm : n.l[i] ∈ n.l.take i
   ·simp [hm]
    refine h5 ?_
    rw [← hR, if_pos (.inr hm)]
   ·rw [if_neg (by simp [hq, hm]), ht] at hR
    simp (disch := omega) [hm, sV, KT.fits, hfit, A7]
    rw [hK]
    have := q37 n hl ha R h0 h5 k (i + 1) (by omega) hR
    rw [show (Value.string ⟨(n.l[i]).toArray⟩) = sV n.l[i] from rfl, q4S _ _ hm, ht]
    exact_mod_cast this
  ·have hq' : Zb n.l[i] = false := by simpa using hq
   simp [hq']
   refine h5 ?_
   rw [← hR, if_pos (.inl hq')]
theorem q78 (c : E5) (hc : CirOk c) (ha : ∀ s ∈ c.names.l, ∀ b ∈ s, b < 128) : A5 Tryd.prog Γ 73 [.agg (tC c)] (tI (Ir [] c.names.l)) := by
 refine Ah Q3 rfl ?_
 simp [Lt, tC, B1, Dp, Gm, C5, A3]
 refine q37 c.names hc.names ha (Ir [] c.names.l) (fun h m => ?_) (fun h => ?_) c.names.l.length 0 (by omega) (by simp)
 ·simp [I2, h]
 ·simp [I2, h]
def Ce : List Int → Int
 | [] => 0
 | e :: l => if e ≠ 0 then e else Ce l
theorem Y8 {α : Type} (f : α → Int) (l : List α) (i : Nat) (h : i < l.length) : Ce ((l.drop i).map f) = if f l[i] ≠ 0 then f l[i] else Ce ((l.drop (i + 1)).map f) := by
 rw [List.drop_eq_getElem_cons h]; rfl
theorem q1h {Q : AX → St → Prop} (hΓ : GOk Γ) (c : E5) (hc : CirOk c) (R : Int)
  (h0 : R = 0 → Q (.exit 1) ⟨[(1, .t (.ip (tC c) 0)), (36, .t (B1 c.nodes)), (37, .t (tI c.nodes.l.length)), (38, .t (tI c.nodes.l.length)), (39, .t (tB false))], []⟩)
  (h5 : R ≠ 0 → Q .ret ⟨[(2, .t (tI R))], []⟩) : ∀ (k i : Nat), k + i = c.nodes.l.length → Ce ((c.nodes.l.drop i).map (Dw c)) = R →
  run Tryd.prog Γ Hz Q ⟨[(1, .t (.ip (tC c) 0)), (36, .t (B1 c.nodes)), (37, .t (tI c.nodes.l.length)), (38, .t (tI i))], []⟩
 | 0, i, h, hR => by
  refine M9 fun K hK => ?_
  have h2 : ¬ i < c.nodes.l.length := by omega
  have h3 : i = c.nodes.l.length := by omega
  simp [h2]
  subst h3
  exact h0 (by rw [← hR]; simp [Ce])
 | k + 1, i, h, hR => by
  refine M9 fun K hK => ?_
  have h2 : i < c.nodes.l.length := by omega
  have hn := hc.nodes
  have hx := List.getElem_mem h2
  rw [Y8 (Dw c) _ _ h2] at hR
  have e := q8p (Γ := Γ) hΓ c c.nodes.l[i] hc (hc.kind _ hx) (hc.inn _ hx)
  simp (disch := omega) [h2, B1, Bg, Ji Nd.d, q04, tNd, tC, C5]
  refine A4 e rfl ?_
  by_cases hq : Dw c c.nodes.l[i] = 0
  ·rw [if_neg (by simp [hq])] at hR
   simp (disch := omega) [hq, A7]
   rw [hK]
   have := q1h hΓ c hc R h0 h5 k (i + 1) (by omega) hR
   simpa [tC, B1, C5] using this
  ·rw [if_pos (by simpa using hq)] at hR
   simp [hq]
   rw [hR]
   exact h5 (by rw [← hR]; exact hq)
theorem q38 {Q : AX → St → Prop} (c : E5) (hc : CirOk c) (R : Int)
  (h0 : R = 0 → Q (.exit 3) ⟨[(1, .t (.ip (tC c) 0)), (55, .t (Gm c.mems)), (56, .t (tI c.mems.l.length)), (57, .t (tI c.mems.l.length)), (58, .t (tB false))], []⟩)
  (h5 : R ≠ 0 → Q .ret ⟨[(2, .t (tI R))], []⟩) : ∀ (k i : Nat), k + i = c.mems.l.length → Ce ((c.mems.l.drop i).map (Lx c)) = R →
  run Tryd.prog Γ I0 Q ⟨[(1, .t (.ip (tC c) 0)), (55, .t (Gm c.mems)), (56, .t (tI c.mems.l.length)), (57, .t (tI i))], []⟩
 | 0, i, h, hR => by
  refine Mc fun K hK => ?_
  have h2 : ¬ i < c.mems.l.length := by omega
  have h3 : i = c.mems.l.length := by omega
  simp [h2]
  subst h3
  exact h0 (by rw [← hR]; simp [Ce])
 | k + 1, i, h, hR => by
  refine Mc fun K hK => ?_
  have h2 : i < c.mems.l.length := by omega
  have hn := hc.mems
  have hx := List.getElem_mem h2
  rw [Y8 (Lx c) _ _ h2] at hR
  have e := q5z (Γ := Γ) c c.mems.l[i] hc (hc.addr _ hx)
  simp (disch := omega) [h2, Gm, Bg, Ji Mm.d, q05, tMm, tC, C5]
  refine A4 e rfl ?_
  by_cases hq : Lx c c.mems.l[i] = 0
  ·rw [if_neg (by simp [hq])] at hR
   simp (disch := omega) [hq, A7]
   rw [hK]
   have := q38 c hc R h0 h5 k (i + 1) (by omega) hR
   simpa [tC, Gm, C5] using this
  ·rw [if_pos (by simpa using hq)] at hR
   simp [hq]
   rw [hR]
   exact h5 (by rw [← hR]; exact hq)
def Dq (c : E5) : Int :=
 if 16384 < c.nodes.l.length ∨ 16 < c.mems.l.length ∨ 16384 < c.outs.l.length then 3 else if c.names.l.length ≠ c.nodes.l.length then 8
 else if Ce (c.nodes.l.map (Dw c)) ≠ 0 then Ce (c.nodes.l.map (Dw c))
 else if Ir [] c.names.l ≠ 0 then Ir [] c.names.l
 else if Ce (c.mems.l.map (Lx c)) ≠ 0 then Ce (c.mems.l.map (Lx c))
 else if c.outs.l.any (Oh c) = true then 1 else 0
theorem q79 (hΓ : GOk Γ) (c : E5) (hc : CirOk c) (ha : ∀ s ∈ c.names.l, ∀ b ∈ s, b < 128) : A5 Tryd.prog Γ 64 [.agg (tC c)] (tI (Dq c)) := by
 refine Ah Q2 rfl ?_
 have hn := hc.nodes
 have hm := hc.mems
 have ho := hc.outs
 have hnn := hc.names
 have en := q78 (Γ := Γ) c hc ha
 have eo := P0 (Γ := Γ) c
 have ec := Qz (Γ := Γ) c hn c.outs.l c.outs.cap c.outs.nl ho
 by_cases h1 : 16384 < c.nodes.l.length ∨ 16 < c.mems.l.length ∨ 16384 < c.outs.l.length
 ·have : Dq c = 3 := by unfold Dq; rw [if_pos h1]
  rw [this]
  by_cases g1 : (16384 : Int) < c.nodes.l.length
  ·simp [Cd, Bc, tC, B1, Dp, Gm, C5, Bg, A3, g1]
  by_cases g2 : (16 : Int) < c.mems.l.length
  ·simp [Cd, Bc, tC, B1, Dp, Gm, C5, Bg, A3, g1, g2]
  have g3 : (16384 : Int) < c.outs.l.length := by omega
  simp [Cd, Bc, tC, B1, Dp, Gm, C5, Bg, A3, g1, g2, g3]
 have g1 : ¬ (16384 : Int) < c.nodes.l.length := by omega
 have g2 : ¬ (16 : Int) < c.mems.l.length := by omega
 have g3 : ¬ (16384 : Int) < c.outs.l.length := by omega
 by_cases h2 : c.names.l.length = c.nodes.l.length
 case neg =>
  have : Dq c = 8 := by unfold Dq; rw [if_neg h1, if_pos h2]
  have h2' : ¬ (c.names.l.length : Int) = c.nodes.l.length := by omega
  rw [this]
  simp [Cd, Bc, tC, B1, Dp, Gm, C5, Bg, A3, g1, g2, g3, h2']
 simp [Cd, tC, B1, Dp, Gm, C5, Bg, A3, g1, g2, g3, h2]
 have e0 : Dq c = if Ce (c.nodes.l.map (Dw c)) ≠ 0 then Ce (c.nodes.l.map (Dw c))
   else if Ir [] c.names.l ≠ 0 then Ir [] c.names.l
   else if Ce (c.mems.l.map (Lx c)) ≠ 0 then Ce (c.mems.l.map (Lx c))
   else if c.outs.l.any (Oh c) = true then 1 else 0 := by
  unfold Dq; rw [if_neg h1, if_neg (by simp [h2])]
 refine q1h hΓ c hc (Ce (c.nodes.l.map (Dw c))) (fun h3 => ?_) (fun h3 => ?_) c.nodes.l.length 0 (by omega) (by simp)
 case refine_2 =>
  rw [if_pos h3] at e0
  simp [Bc, e0]
 rw [if_neg (by rw [h3]; decide)] at e0
 simp [tC, B1, Dp, Gm, C5]
 refine A4 en rfl ?_
 by_cases h4 : Ir [] c.names.l = 0
 case neg =>
  rw [if_pos h4] at e0
  simp [h4, Bc, e0]
 rw [if_neg (by rw [h4]; decide)] at e0
 simp [h4, Bg]
 refine q38 c hc (Ce (c.mems.l.map (Lx c))) (fun h5 => ?_) (fun h5 => ?_) c.mems.l.length 0 (by omega) (by simp)
 case refine_2 =>
  rw [if_pos h5] at e0
  simp [Bc, e0]
 rw [if_neg (by rw [h5]; decide)] at e0
 simp [tC, B1, Dp, Gm, C5]
 refine Ie eo rfl ?_
 simp
 refine A4 ec rfl ?_
 generalize c.outs.l.any (Oh c) = b at e0
 cases b <;> simp [Bc, e0]
def ofL (ks : List Int) : List Nd → Nat → List Int
 | [], _ => []
 | x :: l, i => if ks.contains x.k then (i : Int) :: ofL ks l (i + 1) else ofL ks l (i + 1)
abbrev Jf := List (Int × Int)
def tLn (p : Int × Int) : List T := [tI p.1, tI p.2]
def q39 (i : Nat) (r : Jf) : AV := if r = [] then .t (.sl [] (some 0) (some true)) else .ls (100000 + i) 0 r.length none
def Bl (rows : List Jf) : List AV := rows.mapIdx q39
def Is (rows : List Jf) (id : Nat) : Option Ak := match rows[id - 100000]? with
 | some r => if r = [] then none else some (.sl 45 2 (Jh tLn r))
 | none => none
def It (k : Nat) (g : Nat → Option Ak) : List (Nat × Ak) := (List.range' 100000 k).filterMap fun id => (g id).map fun r => (id, r)
def Bq (rows : List Jf) : List (Nat × Ak) := It 16384 (Is rows)
theorem q3A {α β : Type} {f g : α → Option β} : ∀ {l : List α}, (∀ x ∈ l, f x = g x) → l.filterMap f = l.filterMap g
 | [], _ => rfl
 | x :: l, h => by
  rw [List.filterMap_cons, List.filterMap_cons, h x List.mem_cons_self, q3A (l := l) fun y hy => h y (List.mem_cons_of_mem _ hy)]
theorem qBk {l : List Nat} {g : Nat → Option Ak} {t : Nat} : A2 (l.filterMap fun id => (g id).map fun r => (id, r)) t = if t ∈ l then g t else none := by
 induction l with
 | nil => simp [A2]
 | cons k l ih =>
  rw [List.filterMap_cons]
  cases hg : g k with
  | none =>
   simp only [Option.map_none, ih]
   by_cases h : t = k
   ·subst h; simp [hg]
   ·simp [h]
  | some r =>
   simp only [Option.map_some, A2, ih]
   by_cases h : k = t
   ·subst h; simp [hg]
   ·simp [h, Ne.symm h]
theorem Kq {k : Nat} {g : Nat → Option Ak} {t : Nat} : A2 (It k g) t = if 100000 ≤ t ∧ t < 100000 + k then g t else none := by
 unfold It; rw [qBk]
 by_cases h : 100000 ≤ t ∧ t < 100000 + k
 ·rw [if_pos h, if_pos (by rw [List.mem_range'_1]; exact h)]
 ·rw [if_neg h, if_neg (by rw [List.mem_range'_1]; exact h)]
theorem q4T {rows : List Jf} {l : List (Nat × Ak)} (h : ∀ t ∈ List.range' 100000 16384, A2 l t = Is rows t) : Lg.keep (List.range' 100000 16384) l = Bq rows := by
 unfold Lg.keep Bq It
 exact q3A fun t ht => by rw [h t ht]
theorem q10 {env : List (Nat × AV)} {hp : List (Nat × Ak)} {ks : List Nat} {rows : List Jf} (hk : (hp.map (·.1)).filter (fun id => !([14] : List Nat).contains id && !(decide (100000 ≤ id) && decide (id < 100000 + 16384))) = [])
  (h14 : A2 hp 14 = some (.bx (Bl rows))) (hr : ∀ t, 100000 ≤ t → t < 116384 → A2 hp t = Is rows t) :
  Gh.run (.keepB ks [14] 100000 16384) ⟨env, hp⟩ = ⟨Lg.keep ks env, (14, .bx (Bl rows)) :: Bq rows⟩ := by
 simp only [Gh.run, q2E, hk, Fp, q0u, h14, q2u, List.cons_append, List.nil_append]
 congr 2
 simp only [Lg.keep, Bq, It]
 refine q3A fun t ht => ?_
 rw [List.mem_range'_1] at ht
 rw [hr t ht.1 (by omega)]
theorem Td {k : Nat} {g : Nat → Option Ak} : ∀ p ∈ It k g, 100000 ≤ p.1 ∧ p.1 < 100000 + k := by
 intro p hp
 obtain ⟨id, hid, he⟩ := List.mem_filterMap.1 hp
 rw [List.mem_range'_1] at hid
 cases hg : g id with
 | none => rw [hg] at he; cases he
 | some r => rw [hg] at he; simp at he; subst he; exact hid
theorem q1i {rows : List Jf} : ((Bq rows).map (·.1)).filter (fun id => !([14] : List Nat).contains id && !(decide (100000 ≤ id) && decide (id < 100000 + 16384))) = [] := by
 rw [List.filter_eq_nil_iff]
 intro id hid
 obtain ⟨p, hp, rfl⟩ := List.mem_map.1 hid
 have := Td p hp
 simp [this.1, this.2]
theorem Xt {rows : List Jf} {t : Nat} : A2 ((14, .bx (Bl rows)) :: Bq rows) t = if t = 14 then some (.bx (Bl rows)) else if 100000 ≤ t ∧ t < 116384 then Is rows t else none := by
 simp only [A2, Bq, Kq]
 by_cases h : t = 14
 ·simp [h]
 ·simp [h, Ne.symm h]
theorem P1 {env : List (Nat × AV)} {ks : List Nat} {rows : List Jf} : Gh.run (.keepB ks [14] 100000 16384) ⟨env, (14, .bx (Bl rows)) :: Bq rows⟩ = ⟨Lg.keep ks env, (14, .bx (Bl rows)) :: Bq rows⟩ := by
 refine q10 ?_ (by simp [A2]) fun t h1 h2 => ?_
 ·rw [List.map_cons, List.filter_cons]; simp only [q1i]; simp
 ·rw [Xt, if_neg (by omega), if_pos ⟨h1, h2⟩]
theorem q55 {id : Nat} (h : id < 100000) (rows : List Jf) : (Bl rows).map (Ac id) = Bl rows := by
 apply List.ext_getElem?
 intro i
 simp only [Bl, List.getElem?_map, List.getElem?_mapIdx, Option.map_map]
 cases rows[i]? with
 | none => rfl
 | some r =>
  simp only [Option.map_some, Function.comp_def, q39]
  split
  ·rfl
  ·simp only [Ac, kill1]; rw [if_neg (by omega)]
theorem qBl {env : List (Nat × AV)} {ks : List Nat} {rows : List Jf} {q : Ak} : Gh.run (.keepB ks [14] 100000 16384) ⟨env, (6, q) :: (14, .bx (Bl rows)) :: Bq rows⟩ = ⟨(Lg.keep ks env).map (fun p => (p.1, Ac 6 p.2)), (14, .bx (Bl rows)) :: Bq rows⟩ := by
 have hk : (((6, q) :: (14, Ak.bx (Bl rows)) :: Bq rows).map (·.1)).filter (fun id => !([14] : List Nat).contains id && !(decide (100000 ≤ id) && decide (id < 100000 + 16384))) = [6] := by
  rw [List.map_cons, List.map_cons, List.filter_cons, List.filter_cons]; simp only [q1i]; simp
 have hl : ∀ t, t ≠ 6 → A2 (St.kill 6 ⟨Lg.keep ks env, (6, q) :: (14, .bx (Bl rows)) :: Bq rows⟩).hp t = A2 ((14, .bx (Bl rows)) :: Bq rows) t := by
  intro t ht
  rw [P7, if_neg ht]
  show (A2 ((6, q) :: (14, .bx (Bl rows)) :: Bq rows) t).map _ = _
  rw [A2, if_neg (Ne.symm ht), Xt]
  by_cases h : t = 14
  ·simp [h, F2, q55]
  ·simp only [h, ↓reduceIte]
   split
   ·unfold Is
    split
    ·split <;> simp [F2]
    ·rfl
   ·rfl
 simp only [Gh.run, q2E, hk, Fp, q0u, q2u, List.cons_append, List.nil_append]
 rw [hl 14 (by omega)]
 simp only [A2, ↓reduceIte, List.cons_append, List.nil_append]
 congr 2
 refine q4T fun t ht => ?_
 rw [List.mem_range'_1] at ht
 rw [hl t (by omega), Xt, if_neg (by omega), if_pos ⟨ht.1, by omega⟩]
def Gf (rows : List Jf) (n : Nat) (p : Int × Int) : List Jf := rows.set n (rows.getD n [] ++ [p])
theorem Zc {rows : List Jf} {n : Nat} {p : Int × Int} : (Gf rows n p).length = rows.length := by simp [Gf]
theorem q8u {env : List (Nat × AV)} {ks : List Nat} {rows : List Jf} {n : Nat} {p : Int × Int} {hp : List (Nat × Ak)} {cs : List AV} (hn : n < rows.length) (hn2 : rows.length ≤ 16384)
  (hlen : cs.length = rows.length) (hcs : ∀ i, i ≠ n → cs[i]? = (Bl rows)[i]?) (hc : cs[n]? = some (.ls 47 0 ((rows.getD n []).length + 1) none)) (h47 : A2 hp 47 = some (.sl 45 2 (Jh tLn (rows.getD n [] ++ [p])))) (h14 : A2 hp 14 = some (.bx cs))
  (hno : A2 hp (100000 + n) = none) (hoth : ∀ t, 100000 ≤ t → t < 116384 → t ≠ 100000 + n → A2 hp t = Is rows t) (hkeys : ∀ q ∈ hp, q.1 = 47 ∨ q.1 = 14 ∨ (100000 ≤ q.1 ∧ q.1 < 116384)) :
  Gh.run (.keepB ks [14] 100000 16384) (Fg 47 (100000 + n) ⟨env, hp⟩) = ⟨(Lg.keep ks (env.map fun q => (q.1, Ae (Eg 47 (100000 + n)) q.2))), (14, .bx (Bl (Gf rows n p))) :: Bq (Gf rows n p)⟩ := by
 have hr : Fg 47 (100000 + n) ⟨env, hp⟩ = ⟨env.map fun q => (q.1, Ae (Eg 47 (100000 + n)) q.2), O6 47 (100000 + n) hp⟩ := by
  unfold Fg
  rw [if_pos]
  simp [hno, h47]; omega
 rw [hr]
 have hget : ∀ i, (Gf rows n p)[i]? = if i = n then some (rows.getD n [] ++ [p]) else rows[i]? := by
  intro i
  unfold Gf
  rw [List.getElem?_set]
  by_cases h : n = i
  ·subst h; simp [hn]
  ·simp [h, Ne.symm h]
 have hl := fun t => Z4 (a := 47) (b := 100000 + n) (t := t) hno (by omega)
 refine q10 ?_ ?_ fun t h1 h2 => ?_
 ·rw [List.filter_eq_nil_iff]
  intro id hid
  have : id = 100000 + n ∨ id ≠ 47 ∧ ∃ q ∈ hp, q.1 = id := by
   clear hl hr hno hoth h14 h47
   induction hp with
   | nil => simp [O6] at hid
   | cons q l ih =>
    obtain ⟨k, r⟩ := q
    simp only [O6, List.map_cons, List.mem_cons] at hid
    rcases hid with hid | hid
    ·by_cases h : k = 47
     ·left; simpa [h] using hid
     ·right; simp [h] at hid; subst hid; exact ⟨h, _, List.mem_cons_self, rfl⟩
    ·rcases ih (fun q hq => hkeys q (List.mem_cons_of_mem _ hq)) hid with h | ⟨h, q, hq, e⟩
     ·exact .inl h
     ·exact .inr ⟨h, q, List.mem_cons_of_mem _ hq, e⟩
  rcases this with h | ⟨h, q, hq, rfl⟩
  ·subst h; simp; intro _; omega
  ·rcases hkeys q hq with e | e | ⟨e1, e2⟩
   ·exact absurd e h
   ·simp [e]
   ·simp; intro _; omega
 ·rw [hl, if_neg (by omega), if_neg (by omega), h14]
  simp only [Option.map_some, Bd, Option.some.injEq, Ak.bx.injEq]
  apply List.ext_getElem?
  intro i
  simp only [List.getElem?_map, Bl, List.getElem?_mapIdx]
  rw [hget]
  by_cases h : i = n
  ·subst h
   rw [hc]
   have : ¬ (rows.getD i [] ++ [p] = []) := by simp
   simp only [↓reduceIte, Option.map_some, Option.some.injEq]
   unfold q39
   rw [if_neg this]
   simp [Ae, ren1, ren0, Eg]
  ·rw [hcs i h, if_neg h]
   simp only [Bl, List.getElem?_mapIdx, Option.map_map]
   cases hrow : rows[i]? with
   | none => rfl
   | some r =>
    simp only [Option.map_some, Function.comp_def, q39, Option.some.injEq]
    split
    ·rfl
    ·simp only [Ae, ren1, ren0, Eg]; rw [if_neg (by omega)]
 ·rw [hl]
  by_cases h : t = 100000 + n
  ·rw [if_pos h, h47]
   subst h
   unfold Is
   rw [show 100000 + n - 100000 = n by omega, hget, if_pos rfl]
   simp [Bd]
  ·rw [if_neg h, if_neg (by omega), hoth t h1 h2 h]
   unfold Is
   rw [hget, if_neg (by omega)]
   cases rows[t - 100000]? with
   | none => rfl
   | some r => simp only; split <;> simp [Bd]
def q11 (k i : Nat) (r : Jf) : AV := if r = [] then .t (.sl [] (some 0) (some true)) else if k ≤ i then .t (.sl (Jh tLn r) none none) else .ls (100000 + i) 0 r.length none
theorem qA7 {env : List (Nat × AV)} {rows : List Jf} (he : ∀ id r, 100000 ≤ id → ∀ p ∈ env, D8 id r p.2 = p.2) (k : Nat) : St.freeze (100000 + k) ⟨env, (14, .bx (rows.mapIdx (q11 (k + 1)))) :: It (k + 1) (Is rows)⟩ = ⟨env, (14, .bx (rows.mapIdx (q11 k))) :: It k (Is rows)⟩ := by
 have hsplit : It (k + 1) (Is rows) = It k (Is rows) ++ (match Is rows (100000 + k) with | some r => [(100000 + k, r)] | none => []) := by
  unfold It
  rw [← List.range'_append (s := 100000) (m := k) (n := 1) (step := 1)]
  rw [List.filterMap_append]
  congr 1
  cases hr : Is rows (100000 + k) <;> simp [hr]
 have hl : A2 ((14, Ak.bx (rows.mapIdx (q11 (k + 1)))) :: It (k + 1) (Is rows)) (100000 + k) = Is rows (100000 + k) := by
  rw [A2, if_neg (by omega), Kq, if_pos (by omega)]
 simp only [St.freeze, hl]
 cases hr : Is rows (100000 + k) with
 | none =>
  rw [hr] at hsplit
  simp only [hsplit, List.append_nil]
  refine congrArg (fun l => (⟨env, (14, Ak.bx l) :: It k (Is rows)⟩ : St)) ?_
  apply List.ext_getElem?
  intro i
  simp only [List.getElem?_mapIdx]
  cases hi : rows[i]? with
  | none => rfl
  | some r =>
   simp only [Option.map_some, q11]
   by_cases h0 : r = []
   ·simp [h0]
   ·by_cases hik : i = k
    ·subst hik
     unfold Is at hr
     rw [show 100000 + i - 100000 = i by omega, hi] at hr
     simp [h0] at hr
    ·have : (k + 1 ≤ i) = (k ≤ i) := by apply propext; omega
     simp [this]
 | some q =>
  obtain ⟨r, hrow, hne, rfl⟩ : ∃ r, rows[k]? = some r ∧ r ≠ [] ∧ q = .sl 45 2 (Jh tLn r) := by
   unfold Is at hr
   rw [show 100000 + k - 100000 = k by omega] at hr
   split at hr
   ·rename_i r h
    split at hr
    ·cases hr
    ·rename_i hne; simp only [Option.some.injEq] at hr; exact ⟨r, h, hne, hr.symm⟩
   ·cases hr
  rw [hr] at hsplit
  simp only [Ak.closed, ↓reduceIte]
  have e1 : env.map (fun p => (p.1, D8 (100000 + k) (.sl 45 2 (Jh tLn r)) p.2)) = env := by
   conv => rhs; rw [← List.map_id env]
   refine List.map_congr_left fun p hp => ?_
   rw [he _ _ (by omega) p hp]; rfl
  have e2 : del (100000 + k) ((14, Ak.bx (rows.mapIdx (q11 (k + 1)))) :: It (k + 1) (Is rows)) = (14, Ak.bx (rows.mapIdx (q11 (k + 1)))) :: It k (Is rows) := by
   rw [hsplit]
   unfold del
   rw [List.filter_cons, if_pos (by simp; omega), List.filter_append]
   congr 1
   have h1 : (It k (Is rows)).filter (fun p => p.1 != 100000 + k) = It k (Is rows) := by
    rw [List.filter_eq_self]
    intro p hp
    have := Td p hp
    simp; omega
   rw [h1]; simp
  rw [e1, e2]
  have e3 : (It k (Is rows)).map (fun p => (p.1, K4 (100000 + k) (.sl 45 2 (Jh tLn r)) p.2)) = It k (Is rows) := by
   conv => rhs; rw [← List.map_id (It k (Is rows))]
   refine List.map_congr_left fun p hp => ?_
   obtain ⟨id, hid, hee⟩ := List.mem_filterMap.1 hp
   cases hg : Is rows id with
   | none => rw [hg] at hee; cases hee
   | some q =>
    rw [hg] at hee
    simp only [Option.map_some, Option.some.injEq] at hee; subst hee
    unfold Is at hg
    split at hg
    ·split at hg
     ·cases hg
     ·simp only [Option.some.injEq] at hg; subst hg; rfl
    ·cases hg
  rw [List.map_cons, e3]
  refine congrArg (fun l => (⟨env, (14, Ak.bx l) :: It k (Is rows)⟩ : St)) ?_
  apply List.ext_getElem?
  intro i
  simp only [List.getElem?_map, List.getElem?_mapIdx, Option.map_map]
  cases hi : rows[i]? with
  | none => rfl
  | some r' =>
   simp only [Option.map_some, Function.comp_def, q11]
   by_cases h0 : r' = []
   ·simp [h0, D8, frz1, frz0]
   ·simp only [h0, ↓reduceIte]
    by_cases hik : i = k
    ·subst hik
     rw [hrow] at hi; cases hi
     rw [if_neg (by omega), if_pos (Nat.le_refl _)]
     simp [D8, frz1, frz0, An, A2]
    ·by_cases hlt : k + 1 ≤ i
     ·rw [if_pos hlt, if_pos (by omega)]; rfl
     ·rw [if_neg hlt, if_neg (by omega)]
      simp only [D8, frz1, frz0]
      rw [if_neg (by omega)]
theorem q82 {env : List (Nat × AV)} {rows : List Jf} (he : ∀ id r, 100000 ≤ id → ∀ p ∈ env, D8 id r p.2 = p.2) : ∀ k, q6t 100000 k ⟨env, (14, .bx (rows.mapIdx (q11 k))) :: It k (Is rows)⟩ = ⟨env, (14, .bx (rows.mapIdx (q11 0))) :: []⟩
 | 0 => by simp [q6t, It]
 | k + 1 => by
  rw [q6t, qA7 he k]
  exact q82 he k
def q3h (r : Jf) : T := if r = [] then .sl [] (some 0) (some true) else .sl (Jh tLn r) none none
theorem qA8 {env : List (Nat × AV)} {rows : List Jf} (hl : rows.length ≤ 16384) (he : ∀ id r, 100000 ≤ id → ∀ p ∈ env, D8 id r p.2 = p.2) : Gh.run (.frzs 100000 16384) ⟨env, (14, .bx (Bl rows)) :: Bq rows⟩ = ⟨env, [(14, .bx (rows.map fun r => .t (q3h r)))]⟩ := by
 have h1 : Bl rows = rows.mapIdx (q11 16384) := by
  apply List.ext_getElem?
  intro i
  simp only [Bl, List.getElem?_mapIdx]
  cases hi : rows[i]? with
  | none => rfl
  | some r =>
   have := (List.getElem?_eq_some_iff.1 hi).1
   simp only [Option.map_some, q39, q11]
   rw [if_neg (show ¬ 16384 ≤ i by omega)]
 have h2 : rows.mapIdx (q11 0) = rows.map fun r => .t (q3h r) := by
  apply List.ext_getElem?
  intro i
  simp only [List.getElem?_mapIdx, List.getElem?_map]
  cases rows[i]? with
  | none => rfl
  | some r =>
   simp only [Option.map_some, q11, q3h, Nat.zero_le, ↓reduceIte]
   split <;> rfl
 have := q82 (rows := rows) he 16384
 rw [h2] at this
 simp only [Gh.run, h1, Bq]
 exact this
theorem Ni {rows : List Jf} : (Bl rows).length = rows.length := by simp [Bl]
theorem qA9 {rows : List Jf} {n : Nat} (h : n < rows.length) : ((Bl rows).drop n).take 1 = [q39 n (rows.getD n [])] := by
 have : (Bl rows).drop n = q39 n (rows.getD n []) :: (Bl rows).drop (n + 1) := by
  rw [List.drop_eq_getElem_cons (by rw [Ni]; exact h)]
  simp [Bl, h]
 rw [this]; rfl
theorem q56 {l : Jf} : Gk 2 (Jh tLn l) := q30 fun _ => rfl
theorem qDw {Q : AX → St → Prop} (rows : List Jf) (n : Nat) (hn : n < rows.length) (hn2 : rows.length ≤ 16384) (i k : Int) (hr : (rows.getD n []).length ≤ 1000000000) (t4 t18 t19 t20 t26 t27 t28 t36 : T) (m : Nat) (hm : m = rows.length)
  (h : Q .normal ⟨[(3, .lb 14 m), (4, .t t4), (5, .t (tI i)), (18, .t t18), (19, .t t19), (20, .t t20), (26, .t t26), (27, .t t27), (28, .t t28)], (14, .bx (Bl (Gf rows n (i, k)))) :: Bq (Gf rows n (i, k))⟩) :
  Ey Tryd.prog Γ Cj ⟨[(3, .lb 14 m), (4, .t t4), (5, .t (tI i)), (7, .t (tI k)), (8, .t (tI n)), (18, .t t18), (19, .t t19), (20, .t t20), (26, .t t26), (27, .t t27), (28, .t t28), (36, .t t36)], (14, .bx (Bl rows)) :: Bq rows⟩
   (fun s1 => Q .normal (ghs [.renS 47 100000 8, .keepB [3, 4, 5, 18, 19, 20, 26, 27, 28] [14] 100000 16384] s1)) ⟨⟩ := by
 subst hm
 have hw : Gk 2 [[tI i, tI k]] := by intro e he; simp at he; subst he; rfl
 have hlk47 : A2 (Bq rows) 47 = none := by rw [Bq, Kq, if_neg (by omega)]
 have hat := qA9 hn
 have hlk : A2 (Bq rows) (100000 + n) = if rows.getD n [] = [] then none else some (.sl 45 2 (Jh tLn (rows.getD n []))) := by
  rw [Bq, Kq, if_pos (by omega)]
  unfold Is
  rw [show 100000 + n - 100000 = n by omega, List.getElem?_eq_getElem hn]
  simp [hn]
 have hadd : Gf rows n (i, k) = rows.set n (rows.getD n [] ++ [(i, k)]) := rfl
 have fin := @q8u
 generalize hrow : rows.getD n [] = row at hr hat hlk hadd
 have hlen1 : n + 1 ≤ rows.length := hn
 have hset : ∀ (j : Nat), j ≠ n → ∀ (l : List AV) (x : AV), l.length = rows.length → (l.take n ++ x :: l.drop (n + 1))[j]? = l[j]? := by
  intro j hj l x hl
  rw [List.getElem?_append]
  by_cases hlt : j < n
  ·rw [if_pos (by simp; omega), List.getElem?_take, if_pos hlt]
  ·rw [if_neg (by simp; omega)]
   have e : (l.take n).length = n := by simp; omega
   rw [e, show j - n = (j - n - 1) + 1 by omega, List.getElem?_cons_succ, List.getElem?_drop]
   congr 1; omega
 have hseta : ∀ (l : List AV) (x : AV), l.length = rows.length → (l.take n ++ x :: l.drop (n + 1))[n]? = some x := by
  intro l x hl
  rw [List.getElem?_append, if_neg (by simp; omega)]
  have e : (l.take n).length = n := by simp; omega
  rw [e]; simp
 by_cases h0 : row = []
 ·subst h0
  simp only [q39, ↓reduceIte] at hat hlk
  simp (disch := omega) [-Gh.run, Ec, hat, Ni, hn, hw, hlk47, hlen1]
  rw [show ∀ st, A2 st.env 8 = some (.t (tI n)) → (Gh.renS 47 100000 8).run st = Fg 47 (100000 + n) st from fun st hs => by simp [Gh.run, hs]]
  rw [fin (p := (i, k)) hn hn2 (by simp [Ni]; omega) (fun j hj => hset j hj _ _ Ni) (by rw [hseta _ _ Ni, hrow]; first | done | rfl) (by rw [hrow]; first | done | rfl) (by simp [A2]) (by rw [A2, if_neg (by omega), A2, if_neg (by omega)]; exact hlk) (fun t h1 h2 h3 => ?_) (fun q hq => ?_)]
  ·simpa [Ae, ren1, ren0, Eg] using h
  ·rw [A2, if_neg (by omega), A2, if_neg (by omega), Bq, Kq, if_pos (by omega)]
  ·rcases List.mem_cons.1 hq with rfl | hq
   ·exact .inl rfl
   ·rcases List.mem_cons.1 hq with rfl | hq
    ·exact .inr (.inl rfl)
    ·have := Td q hq; exact .inr (.inr (by omega))
  ·rfl
 ·simp only [q39, h0, ↓reduceIte] at hat hlk
  have h14 : ¬ 14 = 100000 + n := by omega
  have htl : ∀ t, A2 ((Bq rows).filter fun p => p.1 != 100000 + n) t = if t = 100000 + n then none else A2 (Bq rows) t := fun t => Zo (100000 + n) (Bq rows) t
  have hkl : ∀ l : List (Nat × Ak), (∀ p ∈ l, p ∈ Bq rows) → l.map (fun p => (p.1, F2 (100000 + n) p.2)) = l := by
   intro l hl
   conv => rhs; rw [← List.map_id l]
   refine List.map_congr_left fun p hp => ?_
   obtain ⟨id, hid, hee⟩ := List.mem_filterMap.1 (hl p hp)
   cases hg : Is rows id with
   | none => rw [hg] at hee; cases hee
   | some q =>
    rw [hg] at hee
    simp only [Option.map_some, Option.some.injEq] at hee; subst hee
    unfold Is at hg
    split at hg
    ·split at hg
     ·cases hg
     ·simp only [Option.some.injEq] at hg; subst hg; rfl
    ·cases hg
  have hk : (del (100000 + n) ((14, Ak.bx (Bl rows)) :: Bq rows)).map (fun p => (p.1, F2 (100000 + n) p.2)) = (14, .bx ((Bl rows).map (Ac (100000 + n)))) :: (Bq rows).filter fun p => p.1 != 100000 + n := by
   have e : del (100000 + n) ((14, Ak.bx (Bl rows)) :: Bq rows) = (14, Ak.bx (Bl rows)) :: (Bq rows).filter fun p => p.1 != 100000 + n := by
    unfold del
    rw [List.filter_cons, if_pos (by simp; omega)]
   rw [e, List.map_cons, hkl _ (fun p hp => (List.mem_filter.1 hp).1)]
   rfl
  have hl47 : A2 ((Bq rows).filter fun p => p.1 != 100000 + n) 47 = none := by rw [htl, if_neg (by omega)]; exact hlk47
  generalize htail : (Bq rows).filter (fun p => p.1 != 100000 + n) = tl at htl hk hl47
  have hkeys : ∀ q ∈ tl, 100000 ≤ q.1 ∧ q.1 < 116384 := by
   intro q hq
   rw [← htail] at hq
   have := Td q (List.mem_filter.1 hq).1
   omega
  have hcs : ∀ j, j ≠ n → ((Bl rows).map (Ac (100000 + n)))[j]? = (Bl rows)[j]? := by
   intro j hj
   simp only [Bl, List.getElem?_map, List.getElem?_mapIdx, Option.map_map]
   cases rows[j]? with
   | none => rfl
   | some r =>
    simp only [Option.map_some, Function.comp_def, q39]
    split
    ·rfl
    ·simp only [Ac, kill1]; rw [if_neg (by omega)]
  have hcl : ((Bl rows).map (Ac (100000 + n))).length = rows.length := by simp [Ni]
  simp (disch := omega) [-Gh.run, Ec, -del, -F2, hat, Ni, hn, hw, hlk, hlen1, Bg, q56, h14, hk, hl47]
  refine ⟨by omega, ?_⟩
  rw [show ∀ st, A2 st.env 8 = some (.t (tI n)) → (Gh.renS 47 100000 8).run st = Fg 47 (100000 + n) st from fun st hs => by simp [Gh.run, hs]]
  ·rw [fin (p := (i, k)) hn hn2 (by simp [hcl]; omega) (fun j hj => (hset j hj _ _ hcl).trans (hcs j hj)) (by rw [hseta _ _ hcl, hrow]) (by rw [hrow]; simp [A2]; rw [show [tI i, tI k] = tLn (i, k) from rfl, q8o]) (by simp [A2]) (by rw [A2, if_neg (by omega), A2, if_neg (by omega), htl, if_pos rfl]) (fun t h1 h2 h3 => ?_) (fun q hq => ?_)]
   ·simpa [Ae, ren1, ren0, Eg] using h
   ·rw [A2, if_neg (by omega), A2, if_neg (by omega), htl, if_neg h3, Bq, Kq, if_pos (by omega)]
   ·rcases List.mem_cons.1 hq with rfl | hq
    ·exact .inl rfl
    ·rcases List.mem_cons.1 hq with rfl | hq
     ·exact .inr (.inl rfl)
     ·exact .inr (.inr (hkeys q hq))
  ·rfl
def I6 (c : E5) (i : Nat) : List Int → Nat → List Jf → List Jf
 | [], _, rows => rows
 | n :: l, k, rows => I6 c i l (k + 1) (if Oh c n then rows else Gf rows n.toNat (i, k))
def F7 (c : E5) : List Nd → Nat → List Jf → List Jf
 | [], _, rows => rows
 | x :: l, i, rows => F7 c l (i + 1) (I6 c i x.inn.l 0 rows)
def RB (rows : List Jf) (B : Nat) : Prop := ∀ r ∈ rows, r.length ≤ B
theorem RB.add {rows : List Jf} {B n : Nat} {p : Int × Int} (h : RB rows B) : RB (Gf rows n p) (B + 1) := by
 intro r hr
 unfold Gf at hr
 by_cases hn : n < rows.length
 ·rcases List.mem_or_eq_of_mem_set hr with hr | rfl
  ·have := h r hr; omega
  ·have : (rows.getD n []).length ≤ B := by
    have e : rows.getD n [] = rows[n] := by simp [hn]
    rw [e]; exact h _ (List.getElem_mem hn)
   simp at this ⊢; omega
 ·rw [List.set_eq_of_length_le (by omega)] at hr
  have := h r hr; omega
theorem RB.mono {rows : List Jf} {B C : Nat} (h : RB rows B) (hc : B ≤ C) : RB rows C := fun r hr => Nat.le_trans (h r hr) hc
theorem RB.at {rows : List Jf} {B : Nat} (h : RB rows B) (n : Nat) : (rows.getD n []).length ≤ B := by
 by_cases hn : n < rows.length
 ·have e : rows.getD n [] = rows[n] := by simp [hn]
  rw [e]; exact h _ (List.getElem_mem hn)
 ·simp [List.getD, List.getElem?_eq_none (Nat.not_lt.1 hn)]
theorem Q5 (c : E5) (i : Nat) : ∀ (l : List Int) (k : Nat) (rows : List Jf) (B : Nat), RB rows B → (I6 c i l k rows).length = rows.length ∧ RB (I6 c i l k rows) (B + l.length)
 | [], k, rows, B, h => ⟨rfl, h⟩
 | n :: l, k, rows, B, h => by
  simp only [I6, List.length_cons]
  split
  ·have := Q5 c i l (k + 1) rows B h
   exact ⟨this.1, this.2.mono (by omega)⟩
  ·have := Q5 c i l (k + 1) _ (B + 1) (h.add (n := n.toNat) (p := (i, k)))
   exact ⟨this.1.trans Zc, this.2.mono (by omega)⟩
theorem q12 {Q : AX → St → Prop} (c : E5) (hn : c.nodes.l.length ≤ 16384) (i : Nat) (s : Sl Int) (hs : s.l.length ≤ 1000000000) (R : List Jf)
  (h0 : Q (.exit 2) ⟨[(3, .lb 14 c.nodes.l.length), (4, .t (.fn 89 [.ip (tC c) 0])), (5, .t (tI i)), (18, .t (B1 c.nodes)), (19, .t (tI c.nodes.l.length)), (20, .t (tI i)), (26, .t (C5 s)), (27, .t (tI s.l.length)), (28, .t (tI s.l.length)), (29, .t (tB false))], (14, .bx (Bl R)) :: Bq R⟩) :
  ∀ (kk k : Nat) (rows : List Jf), kk + k = s.l.length → rows.length = c.nodes.l.length → (∀ n, (rows.getD n []).length + kk ≤ 1000000000) → I6 c i (s.l.drop k) k rows = R →
  run Tryd.prog Γ Gy Q ⟨[(3, .lb 14 c.nodes.l.length), (4, .t (.fn 89 [.ip (tC c) 0])), (5, .t (tI i)), (18, .t (B1 c.nodes)), (19, .t (tI c.nodes.l.length)), (20, .t (tI i)), (26, .t (C5 s)), (27, .t (tI s.l.length)), (28, .t (tI k))], (14, .bx (Bl rows)) :: Bq rows⟩
 | 0, k, rows, h, hl, hb, hR => by
  refine Lo fun K hK => ?_
  have h2 : ¬ k < s.l.length := by omega
  have h3 : k = s.l.length := by omega
  simp [h2, -Gh.run, Ec, P1]
  subst h3
  rw [List.drop_of_length_le (Nat.le_refl _)] at hR
  simp only [I6] at hR
  subst hR
  exact h0
 | kk + 1, k, rows, h, hl, hb, hR => by
  refine Lo fun K hK => ?_
  have h2 : k < s.l.length := by omega
  rw [List.drop_eq_getElem_cons h2] at hR
  simp only [I6] at hR
  have e := S4 (Γ := Γ) c s.l[k] (by omega)
  simp (disch := omega) [h2, -Gh.run, Ec, P1, -Cj, C5, A3, He (0 : Int), Ad]
  refine Za e ?_
  by_cases ho : Oh c s.l[k] = true
  ·rw [if_pos ho] at hR
   simp (disch := omega) [ho, -Gh.run, Ec, P1, -Cj, A7]
   rw [hK]
   have := q12 c hn i s hs R h0 kk (k + 1) rows (by omega) hl (fun n => by have := hb n; omega) hR
   simpa [C5] using this
  ·have ho' : Oh c s.l[k] = false := by simpa using ho
   rw [if_neg ho] at hR
   have hr := q07 (c := c) (l := [s.l[k]]) (by simp [ho']) s.l[k] (by simp)
   simp (disch := omega) [ho', -Gh.run, Ec, P1, -Cj]
   have hz : ((s.l[k]).toNat : Int) = s.l[k] := by omega
   have := qDw (Γ := Γ) (Q := J5 3 (B5 (run Tryd.prog Γ (.reg J9 [.keepB [3, 4, 5, 18, 19, 20, 26, 27, 28] [14] 100000 16384]) (B5 (fun s => B5 K Q .normal (ghs [.keepB [3, 4, 5, 18, 19, 20, 26, 27, 28] [14] 100000 16384] s)) (B5 K Q))) (B5 (fun s => B5 K Q .normal (ghs [.keepB [3, 4, 5, 18, 19, 20, 26, 27, 28] [14] 100000 16384] s)) (B5 K Q)))) rows (s.l[k]).toNat (by omega) (by omega) i k (by have := hb (s.l[k]).toNat; omega)
    (.fn 89 [.ip (tC c) 0]) (B1 c.nodes) (tI c.nodes.l.length) (tI i) (.sl (D9 s.l) s.cap s.nl) (tI s.l.length) (tI k) (tB true) c.nodes.l.length hl.symm ?_
   ·rw [hz] at this; exact this
   ·simp (disch := omega) [-Gh.run, Ec, P1, A7]
    rw [hK]
    have hbb : ∀ n, ((Gf rows (s.l[k]).toNat (i, k)).getD n []).length + kk ≤ 1000000000 := by
     intro n
     unfold Gf
     have h5 := hb n
     have h6 := hb (s.l[k]).toNat
     by_cases hq : n = (s.l[k]).toNat
     ·subst hq
      have hlt : (s.l[k]).toNat < rows.length := by omega
      simp [List.getD, List.getElem?_set, hlt] at h6 ⊢
      omega
     ·have : ¬ (s.l[k]).toNat = n := fun e => hq e.symm
      simp [List.getD, List.getElem?_set, this] at h5 ⊢
      omega
    have := q12 c hn i s hs R h0 kk (k + 1) (Gf rows (s.l[k]).toNat (i, k)) (by omega) (Zc.trans hl) hbb hR
    simpa [C5] using this
theorem qBm {ks rs : List Nat} {st : St} : Gh.run (.keep ks rs) st = ⟨(Fp ((st.hp.map (·.1)).filter fun id => !rs.contains id) ⟨Lg.keep ks st.env, st.hp⟩).env, Lg.keep rs (Fp ((st.hp.map (·.1)).filter fun id => !rs.contains id) ⟨Lg.keep ks st.env, st.hp⟩).hp⟩ := rfl
theorem qAA {env : List (Nat × AV)} {ks : List Nat} {rows : List Jf} {q : Ak} : Gh.run (.keepB ks [6, 14] 100000 16384) ⟨env, (6, q) :: (14, .bx (Bl rows)) :: Bq rows⟩ = ⟨Lg.keep ks env, (6, q) :: (14, .bx (Bl rows)) :: Bq rows⟩ := by
 have hk : (((6, q) :: (14, Ak.bx (Bl rows)) :: Bq rows).map (·.1)).filter (fun id => !([6, 14] : List Nat).contains id && !(decide (100000 ≤ id) && decide (id < 100000 + 16384))) = [] := by
  rw [List.filter_eq_nil_iff]
  intro id hid
  simp only [List.map_cons, List.mem_cons] at hid
  rcases hid with rfl | rfl | hid
  ·simp
  ·simp
  ·obtain ⟨p, hp, rfl⟩ := List.mem_map.1 hid
   have := Td p hp
   simp; omega
 simp only [Gh.run, q2E, hk, Fp, q0u, q2u, A2, ↓reduceIte]
 simp only [show ¬ (6 = 14) by omega, ↓reduceIte, List.cons_append, List.nil_append]
 congr 3
 refine q4T fun t ht => ?_
 rw [List.mem_range'_1] at ht
 rw [A2, if_neg (by omega), Xt, if_neg (by omega), if_pos ⟨ht.1, by omega⟩]
theorem q3B {Q : AX → St → Prop} (c : E5) (hn : c.nodes.l.length ≤ 16384) (hi : ∀ x ∈ c.nodes.l, x.inn.l.length ≤ 16) (R : List Jf)
  (h0 : Q (.exit 0) ⟨[(3, .lb 14 c.nodes.l.length), (4, .t (.fn 89 [.ip (tC c) 0])), (18, .t (B1 c.nodes)), (19, .t (tI c.nodes.l.length)), (20, .t (tI c.nodes.l.length)), (21, .t (tB false))], (14, .bx (Bl R)) :: Bq R⟩) :
  ∀ (kk i : Nat) (rows : List Jf), kk + i = c.nodes.l.length → rows.length = c.nodes.l.length → RB rows (16 * i) → F7 c (c.nodes.l.drop i) i rows = R →
  run Tryd.prog Γ Gz Q ⟨[(3, .lb 14 c.nodes.l.length), (4, .t (.fn 89 [.ip (tC c) 0])), (18, .t (B1 c.nodes)), (19, .t (tI c.nodes.l.length)), (20, .t (tI i))], (14, .bx (Bl rows)) :: Bq rows⟩
 | 0, i, rows, h, hl, hb, hR => by
  refine Lp fun K hK => ?_
  have h2 : ¬ i < c.nodes.l.length := by omega
  have h3 : i = c.nodes.l.length := by omega
  simp [h2, -Gh.run, Ec, P1]
  subst h3
  rw [List.drop_of_length_le (Nat.le_refl _)] at hR
  simp only [F7] at hR
  subst hR
  exact h0
 | kk + 1, i, rows, h, hl, hb, hR => by
  refine Lp fun K hK => ?_
  have h2 : i < c.nodes.l.length := by omega
  rw [List.drop_eq_getElem_cons h2] at hR
  simp only [F7] at hR
  have hx := hi _ (List.getElem_mem h2)
  have hlk6 : A2 (Bq rows) 6 = none := by rw [Bq, Kq, if_neg (by omega)]
  simp (disch := omega) [h2, -Gh.run, Ec, P1, qBl, qAA, B1, Bg, Ji Nd.d, q04, tNd, C5, hlk6, A3]
  refine q12 c hn i c.nodes.l[i].inn (by omega) _ ?_ c.nodes.l[i].inn.l.length 0 rows (by omega) hl (fun n => by have := hb.at n; omega) rfl
  obtain ⟨hf1, hf2⟩ := Q5 c i c.nodes.l[i].inn.l 0 rows (16 * i) hb
  simp (disch := omega) [-Gh.run, Ec, P1, A7, List.drop_zero]
  rw [hK]
  have := q3B c hn hi R h0 kk (i + 1) _ (by omega) (hf1.trans hl) (hf2.mono (by omega)) hR
  simpa [B1] using this
def Q6 (r : Jf) : T := .sl (Jh tLn r) (some r.length) (if r = [] then some true else none)
theorem qAB (r : Jf) : Aw Tryd.prog Γ 77 [q3h r] (Q6 r) := by
 unfold q3h Q6
 by_cases h : r = []
 ·subst h; simpa [Jh] using q4Q (Γ := Γ) [] (some 0) (some true) qBi
 ·rw [if_neg h, if_neg h]
  have := q4Q (Γ := Γ) (Jh tLn r) none none q56
  rwa [Bg] at this
def Uu (rows : List Jf) (i : Nat) : List AV := rows.mapIdx fun j r => .t (if j < i then Q6 r else q3h r)
theorem q09 {rows : List Jf} {i : Nat} : (Uu rows i).length = rows.length := by simp [Uu]
theorem qBn {rows : List Jf} {i : Nat} (h : i < rows.length) : ((Uu rows i).drop i).take 1 = [.t (q3h rows[i])] := by
 rw [List.drop_eq_getElem_cons (by rw [q09]; exact h)]
 simp [Uu]
theorem q8v {rows : List Jf} {i : Nat} (h : i < rows.length) : (Uu rows i).take i ++ .t (Q6 rows[i]) :: (Uu rows i).drop (i + 1) = Uu rows (i + 1) := by
 apply List.ext_getElem?
 intro j
 rw [List.getElem?_append]
 have e : ((Uu rows i).take i).length = i := by simp [q09]; omega
 rw [e]
 by_cases h1 : j < i
 ·rw [if_pos h1, List.getElem?_take, if_pos h1]
  simp only [Uu, List.getElem?_mapIdx]
  cases rows[j]? with
  | none => rfl
  | some r => simp only [Option.map_some]; rw [if_pos h1, if_pos (by omega)]
 ·rw [if_neg h1]
  by_cases h2 : j = i
  ·subst h2
   simp [Uu, List.getElem?_eq_getElem h]
  ·rw [show j - i = (j - i - 1) + 1 by omega, List.getElem?_cons_succ, List.getElem?_drop]
   rw [show i + 1 + (j - i - 1) = j by omega]
   simp only [Uu, List.getElem?_mapIdx]
   cases rows[j]? with
   | none => rfl
   | some r => simp only [Option.map_some]; rw [if_neg h1, if_neg (by omega)]
theorem q4U {Q : AX → St → Prop} (rows : List Jf) (hn : rows.length ≤ 16384)
  (h0 : Q (.exit 4) ⟨[(3, .lb 14 rows.length), (51, .lb 14 rows.length), (52, .t (tI rows.length)), (53, .t (tI rows.length)), (54, .t (tB false))], [(14, .bx (Uu rows rows.length))]⟩) :
  ∀ (kk i : Nat), kk + i = rows.length →
  run Tryd.prog Γ H2 Q ⟨[(3, .lb 14 rows.length), (51, .lb 14 rows.length), (52, .t (tI rows.length)), (53, .t (tI i))], [(14, .bx (Uu rows i))]⟩
 | 0, i, h => by
  refine Lq fun K hK => ?_
  have h2 : ¬ i < rows.length := by omega
  have h3 : i = rows.length := by omega
  simp [h2]
  subst h3
  exact h0
 | kk + 1, i, h => by
  refine Lq fun K hK => ?_
  have h2 : i < rows.length := by omega
  have h3 : i + 1 ≤ rows.length := h2
  have e := qAB (Γ := Γ) rows[i]
  have ho : (q3h rows[i]).one = true := by unfold q3h; split <;> rfl
  simp (disch := omega) [h2, h3, qBn h2, q09]
  refine Ie e rfl ?_
  simp (disch := omega) [h2, h3, q09, A7, Q6]
  rw [hK]
  have := q4U rows hn h0 kk (i + 1) (by omega)
  rw [← q8v h2] at this
  simpa [Q6] using this
def Dx (c : E5) : List Jf := F7 c c.nodes.l 0 (List.replicate c.nodes.l.length [])
def q60 (rows : List Jf) : T := .sl (Dc Q6 rows) (some rows.length) none
theorem q0A (c : E5) : ∀ (l : List Nd) (i : Nat) (rows : List Jf), (F7 c l i rows).length = rows.length
 | [], _, _ => rfl
 | x :: l, i, rows => by
  simp only [F7]
  rw [q0A c l]
  exact (Q5 c i x.inn.l 0 rows (rows.foldr (fun r m => r.length + m) 0) (by
   intro r hr
   induction rows with
   | nil => cases hr
   | cons y ys ih =>
    simp only [List.foldr_cons]
    rcases List.mem_cons.1 hr with rfl | hr
    ·omega
    ·have := ih hr; omega)).1
theorem R1 (c : E5) : (Dx c).length = c.nodes.l.length := by rw [Dx, q0A]; simp
theorem q61 (c : E5) (hn : c.nodes.l.length ≤ 16384) (hi : ∀ x ∈ c.nodes.l, x.inn.l.length ≤ 16) : Aw Tryd.prog Γ 66 [.agg (tC c)] (q60 (Dx c)) := by
 refine P8 Ol rfl ?_
 have eo := P0 (Γ := Γ) c
 have hR := R1 c
 have hk1 : ∀ (env : List (Nat × AV)) (ks : List Nat), Gh.run (.keepB ks [14] 100000 16384) ⟨env, [(14, .bx (List.replicate c.nodes.l.length (.t (.sl [] (some 0) (some true)))))]⟩ = ⟨Lg.keep ks env, (14, .bx (Bl (List.replicate c.nodes.l.length []))) :: Bq (List.replicate c.nodes.l.length [])⟩ := by
  intro env ks
  have hc : Bl (List.replicate c.nodes.l.length []) = List.replicate c.nodes.l.length (.t (.sl [] (some 0) (some true))) := by
   apply List.ext_getElem?
   intro j
   simp only [Bl, List.getElem?_mapIdx, List.getElem?_replicate]
   split <;> simp [q39]
  refine q10 (by simp) (by simp [A2, hc]) fun t h1 h2 => ?_
  rw [A2, if_neg (by omega)]
  unfold Is
  rw [List.getElem?_replicate]
  split <;> rename_i hq
  ·split at hq
   ·simp only [Option.some.injEq] at hq; subst hq; rfl
   ·cases hq
  ·rfl
 simp (disch := omega) [K7, tC, B1, Dp, Gm, C5, Bg, -Gh.run, Ec, qBm, hk1, A7]
 refine ⟨by omega, ?_⟩
 refine Ie eo rfl ?_
 simp (disch := omega) [-Gh.run, Ec, P1, Bg]
 have hp0 : RB (List.replicate c.nodes.l.length []) (16 * 0) := by
  intro r hr; rw [List.eq_of_mem_replicate hr]; simp
 refine q3B c hn hi (Dx c) ?_ c.nodes.l.length 0 (List.replicate c.nodes.l.length []) (by omega) (by simp) hp0 rfl
 generalize Dx c = R at hR
 rw [← hR]
 simp (disch := omega) [-Gh.run, Ec]
 rw [qA8 (by omega) (fun id r h p hp => by
  simp only [List.mem_cons, List.not_mem_nil, or_false] at hp
  have h14 : ¬ 14 = id := by omega
  rcases hp with rfl | rfl | rfl | rfl | rfl | rfl | rfl | rfl | rfl <;> simp [D8, frz1, frz0, h14])]
 have hmix : (R.map fun r => AV.t (q3h r)) = Uu R 0 := by
  apply List.ext_getElem?
  intro j
  simp only [List.getElem?_map, Uu, List.getElem?_mapIdx]
  cases R[j]? <;> simp
 rw [hmix]
 simp
 refine q4U R (by omega) ?_ R.length 0 (by omega)
 have hfin : Uu R R.length = (R.map Q6).map .t := by
  apply List.ext_getElem?
  intro j
  simp only [List.getElem?_map, Uu, List.getElem?_mapIdx, Option.map_map]
  cases hj : R[j]? with
  | none => rfl
  | some r =>
   have := (List.getElem?_eq_some_iff.1 hj).1
   simp only [Option.map_some, Function.comp_def]
   rw [if_pos this]
 have hopt : Aa ((Uu R R.length).map (An [(14, .bx (Uu R R.length))] 3)) = some (R.map Q6) := by
  conv => lhs; rw [hfin]
  rw [List.map_map]
  have : (R.map Q6).map (An [(14, .bx ((R.map Q6).map .t))] 3 ∘ AV.t) = (R.map Q6).map fun t => some t := List.map_congr_left fun t _ => by simp [An]
  rw [this]; exact q1g
 simp [K8, q60, hopt, Dc]
end Go.Lg
namespace Go.Lg
open Go Go.Proofs
def R2 (N : Nat) (rows : List Jf) : Prop := ∀ r ∈ rows, ∀ p ∈ r, ∃ i : Nat, i < N ∧ p.1 = i
theorem R2.add {N : Nat} {rows : List Jf} {n i : Nat} {k : Int} (h : R2 N rows) (hi : i < N) : R2 N (Gf rows n (i, k)) := by
 intro r hr p hp
 unfold Gf at hr
 by_cases hn : n < rows.length
 ·rcases List.mem_or_eq_of_mem_set hr with hr | rfl
  ·exact h r hr p hp
  ·rcases List.mem_append.1 hp with hp | hp
   ·have e : rows.getD n [] = rows[n] := by simp [hn]
    rw [e] at hp
    exact h _ (List.getElem_mem hn) p hp
   ·simp at hp; subst hp; exact ⟨i, hi, rfl⟩
 ·rw [List.set_eq_of_length_le (by omega)] at hr
  exact h r hr p hp
theorem Zd {N : Nat} (c : E5) (i : Nat) (hi : i < N) : ∀ (l : List Int) (k : Nat) (rows : List Jf), R2 N rows → R2 N (I6 c i l k rows)
 | [], _, _, h => h
 | n :: l, k, rows, h => by
  simp only [I6]
  split
  ·exact Zd c i hi l (k + 1) rows h
  ·exact Zd c i hi l (k + 1) _ (h.add hi)
theorem q1j {N : Nat} (c : E5) : ∀ (l : List Nd) (i : Nat) (rows : List Jf), i + l.length ≤ N → R2 N rows → R2 N (F7 c l i rows)
 | [], _, _, _, h => h
 | x :: l, i, rows, hl, h => by
  simp only [F7]
  simp at hl
  exact q1j c l (i + 1) _ (by omega) (Zd c i (by omega) _ _ _ h)
theorem Ze (c : E5) : R2 c.nodes.l.length (Dx c) := by
 refine q1j c c.nodes.l 0 _ (by omega) fun r hr p hp => ?_
 rw [List.eq_of_mem_replicate hr] at hp; cases hp
theorem q1k (c : E5) : ∀ (l : List Nd) (i B : Nat) (rows : List Jf), (∀ x ∈ l, x.inn.l.length ≤ 16) → RB rows B → RB (F7 c l i rows) (B + 16 * l.length)
 | [], _, _, _, _, h => h
 | x :: l, i, B, rows, hl, h => by
  simp only [F7, List.length_cons]
  have h1 := (Q5 c i x.inn.l 0 rows B h).2
  have h2 := hl x List.mem_cons_self
  exact (q1k c l (i + 1) (B + 16) _ (fun y hy => hl y (List.mem_cons_of_mem _ hy)) (h1.mono (by omega))).mono (by omega)
theorem q7A (c : E5) (hn : c.nodes.l.length ≤ 16384) (hi : ∀ x ∈ c.nodes.l, x.inn.l.length ≤ 16) : RB (Dx c) 262144 := by
 refine (q1k c c.nodes.l 0 0 _ hi fun r hr => ?_).mono (by omega)
 rw [List.eq_of_mem_replicate hr]; simp
structure LS where
 out : List Int
 left : List Int
 rdy : List Int
def Iu (k : Int) : Bool := decide (1 ≤ k ∧ k ≤ 13)
def Gg (c : E5) (j : Nat) : Int := (c.nodes.l.getD j Nd.d).k
def Ci (c : E5) (n : Nat) (s : LS) (p : Int × Int) : LS :=
 if Iu (Gg c p.1.toNat) then
  ⟨s.out.set p.1.toNat (max (s.out.getD p.1.toNat 0) (s.out.getD n 0 + 1)), s.left.set p.1.toNat (s.left.getD p.1.toNat 0 - 1), if s.left.getD p.1.toNat 0 - 1 = 0 then s.rdy ++ [p.1] else s.rdy⟩
 else s
def Eu (c : E5) (n : Nat) : Jf := (Dx c).getD n []
def q1l (c : E5) : Nat → Nat → LS → Nat × LS
 | 0, d, s => (d, s)
 | f + 1, d, s => if d < s.rdy.length then q1l c f (d + 1) ((Eu c (s.rdy.getD d 0).toNat).foldl (Ci c (s.rdy.getD d 0).toNat) s) else (d, s)
def Dh (x : Nd) : Int := if Iu x.k then x.inn.l.length else 0
def Db : List Nd → Nat → List Int
 | [], _ => []
 | x :: l, i => if Dh x = 0 then (i : Int) :: Db l (i + 1) else Db l (i + 1)
def q1m (c : E5) : LS := ⟨List.replicate c.nodes.l.length 0, c.nodes.l.map Dh, Db c.nodes.l 0⟩
def q13 (c : E5) : Nat × LS := q1l c (c.nodes.l.length + 1) 0 (q1m c)
structure LI (N M : Nat) (s : LS) : Prop where
 lo : s.out.length = N
 ll : s.left.length = N
 rd : ∀ j ∈ s.rdy, ∃ i : Nat, i < N ∧ j = i ∧ s.left.getD i 0 ≤ 0
 nd : s.rdy.Nodup
 bo : ∀ i, 0 ≤ s.out.getD i 0 ∧ s.out.getD i 0 ≤ M
 bl : ∀ i, -(M : Int) ≤ s.left.getD i 0 ∧ s.left.getD i 0 ≤ 1000
theorem q8w {N : Nat} {l : List Int} (h : l.Nodup) (hb : ∀ j ∈ l, ∃ i : Nat, i < N ∧ j = i) : l.length ≤ N := by
 have h1 : (l.map Int.toNat).Nodup := by
  rw [List.nodup_iff_pairwise_ne] at h ⊢
  rw [List.pairwise_map]
  refine h.imp_of_mem fun {a b} ha hb' hne e => hne ?_
  obtain ⟨i, _, rfl⟩ := hb a ha
  obtain ⟨j, _, rfl⟩ := hb b hb'
  have : i = j := by simpa using e
  rw [this]
 have h2 : (l.map Int.toNat) ⊆ List.range N := by
  intro j hj
  obtain ⟨a, ha, rfl⟩ := List.mem_map.1 hj
  obtain ⟨i, hi, rfl⟩ := hb a ha
  simpa using hi
 have := (List.Nodup.length_le_of_subset h1 h2)
 simpa using this
theorem LI.len {N M : Nat} {s : LS} (h : LI N M s) : s.rdy.length ≤ N := q8w h.nd fun j hj => by obtain ⟨i, h1, h2, _⟩ := h.rd j hj; exact ⟨i, h1, h2⟩
theorem Oa {l : List Int} {j i : Nat} {v : Int} (hj : j < l.length) : (l.set j v).getD i 0 = if i = j then v else l.getD i 0 := by
 simp only [List.getD, List.getElem?_set]
 by_cases h : j = i
 ·subst h; simp [hj]
 ·simp [h, Ne.symm h]
theorem LI.step {N M : Nat} {c : E5} {s : LS} {n i : Nat} {k : Int} (h : LI N M s) (hi : i < N) : LI N (M + 1) (Ci c n s (i, k)) := by
 unfold Ci
 simp only [Int.toNat_natCast]
 split
 case isFalse => exact ⟨h.lo, h.ll, h.rd, h.nd, fun j => ⟨(h.bo j).1, by have := (h.bo j).2; omega⟩, fun j => ⟨by have := (h.bl j).1; omega, (h.bl j).2⟩⟩
 refine ⟨by simp [h.lo], by simp [h.ll], ?_, ?_, ?_, ?_⟩
 ·intro j hj
  have old : ∀ j ∈ s.rdy, ∃ i0 : Nat, i0 < N ∧ j = i0 ∧ (s.left.set i (s.left.getD i 0 - 1)).getD i0 0 ≤ 0 := by
   intro j hj
   obtain ⟨i0, h1, h2, h3⟩ := h.rd j hj
   refine ⟨i0, h1, h2, ?_⟩
   rw [Oa (by rw [h.ll]; exact hi)]
   split
   ·rename_i e; subst e; omega
   ·exact h3
  split at hj
  ·rename_i hz
   rcases List.mem_append.1 hj with hj | hj
   ·exact old j hj
   ·simp at hj; subst hj
    refine ⟨i, hi, rfl, ?_⟩
    rw [Oa (by rw [h.ll]; exact hi), if_pos rfl]; omega
  ·exact old j hj
 ·split
  ·rename_i hz
   rw [List.nodup_append]
   refine ⟨h.nd, by simp, ?_⟩
   intro a ha b hb e
   simp at hb; subst hb; subst e
   obtain ⟨i0, h1, h2, h3⟩ := h.rd _ ha
   have : i = i0 := by omega
   subst this
   omega
  ·exact h.nd
 ·intro j
  rw [Oa (by rw [h.lo]; exact hi)]
  have h1 := h.bo j
  have h2 := h.bo i
  have h3 := h.bo n
  split
  ·rename_i e
   omega
  ·omega
 ·intro j
  rw [Oa (by rw [h.ll]; exact hi)]
  have h1 := h.bl j
  have h2 := h.bl i
  split <;> omega
theorem LI.fold {N : Nat} {c : E5} {n : Nat} : ∀ {r : Jf} {s : LS} {M : Nat}, LI N M s → (∀ p ∈ r, ∃ i : Nat, i < N ∧ p.1 = i) → LI N (M + r.length) (r.foldl (Ci c n) s)
 | [], _, _, h, _ => h
 | p :: r, s, M, h, hr => by
  obtain ⟨i, hi, he⟩ := hr p List.mem_cons_self
  obtain ⟨p1, p2⟩ := p
  simp only at he; subst he
  have := LI.fold (c := c) (n := n) (h.step (c := c) (n := n) (k := p2) hi) fun q hq => hr q (List.mem_cons_of_mem _ hq)
  simp only [List.foldl_cons, List.length_cons]
  rw [show M + (r.length + 1) = M + 1 + r.length by omega]
  exact this
theorem q3C : ∀ (l : List Nd) (i : Nat), (∀ j ∈ Db l i, ∃ a : Nat, i ≤ a ∧ a < i + l.length ∧ j = a ∧ (l.map Dh).getD (a - i) 0 = 0) ∧ (Db l i).Nodup
 | [], _ => ⟨fun j h => (by cases h), List.nodup_nil⟩
 | x :: l, i => by
  obtain ⟨h1, h2⟩ := q3C l (i + 1)
  have h3 : ∀ j ∈ Db l (i + 1), ∃ a : Nat, i ≤ a ∧ a < i + (l.length + 1) ∧ j = a ∧ ((x :: l).map Dh).getD (a - i) 0 = 0 := by
   intro j hj
   obtain ⟨a, e1, e2, e3, e4⟩ := h1 j hj
   refine ⟨a, by omega, by omega, e3, ?_⟩
   rw [show a - i = (a - (i + 1)) + 1 by omega]
   simpa using e4
  simp only [Db, List.length_cons]
  split
  ·rename_i hz
   refine ⟨fun j hj => ?_, ?_⟩
   ·rcases List.mem_cons.1 hj with rfl | hj
    ·exact ⟨i, by omega, by omega, rfl, by simp [hz]⟩
    ·exact h3 j hj
   ·rw [List.nodup_cons]
    refine ⟨fun hm => ?_, h2⟩
    obtain ⟨a, e1, _, e3, _⟩ := h1 _ hm
    omega
  ·exact ⟨h3, h2⟩
theorem qAC (c : E5) (hi : ∀ x ∈ c.nodes.l, x.inn.l.length ≤ 16) : LI c.nodes.l.length 0 (q1m c) := by
 obtain ⟨h1, h2⟩ := q3C c.nodes.l 0
 refine ⟨by simp [q1m], by simp [q1m], fun j hj => ?_, h2, fun i => ?_, fun i => ?_⟩
 ·obtain ⟨a, _, e2, e3, e4⟩ := h1 j hj
  exact ⟨a, by omega, e3, by simp only [Nat.sub_zero] at e4; simp only [q1m]; omega⟩
 ·simp only [q1m, List.getD, List.getElem?_replicate]
  split <;> simp
 ·simp only [q1m, List.getD, List.getElem?_map]
  cases hx : c.nodes.l[i]? with
  | none => simp
  | some x =>
   have := hi x (List.mem_of_getElem? hx)
   simp only [Option.map_some, Option.getD_some, Dh]
   split <;> simp <;> omega
end Go.Lg
namespace Go.Lg
open Go Go.Proofs
variable {Γ : Tables}
theorem q0B {α : Type} {f : α → T} {l : List α} {j : Nat} {x : α} (h : j < l.length) : (Dc f (l.set j x))[j]?.getD [] = [f x] := by simp [Dc, h]
theorem qBo {r : Jf} {i : Nat} (h : i < r.length) : (Jh tLn r)[i]?.getD [] = tLn r[i] := by simp [Jh, h]
def lsH (s : LS) : List (Nat × Ak) := [(23, .sl 3 1 (D9 s.out)), (27, .sl 3 1 (D9 s.left)), (53, .sl 3 1 (D9 s.rdy))]
theorem Zf {Q : AX → St → Prop} (c : E5) (hc : CirOk c) (hn : c.nodes.l.length ≤ 16384) (n : Nat) (hnn : n < c.nodes.l.length) (d : Int) (r : Jf) (nl : Option Bool) (hr : r.length ≤ 262144) (hin : ∀ p ∈ r, ∃ i : Nat, i < c.nodes.l.length ∧ p.1 = i) (fan : T) (S : LS)
  (h0 : Q (.exit 4) ⟨[(1, .t (.ip (tC c) 0)), (5, .ls 23 0 c.nodes.l.length none), (6, .ls 27 0 c.nodes.l.length none), (7, .ls 53 0 S.rdy.length none), (10, .t fan), (11, .t (tI d)), (12, .t (tI n)), (76, .t (.sl (Jh tLn r) (some r.length) nl)), (77, .t (tI r.length)), (78, .t (tI r.length)), (79, .t (tB false))], lsH S⟩) :
  ∀ (kk k : Nat) (s : LS) (M : Nat), kk + k = r.length → LI c.nodes.l.length M s → M + kk ≤ 4611686018427387904 → (r.drop k).foldl (Ci c n) s = S →
  run Tryd.prog Γ Gw Q ⟨[(1, .t (.ip (tC c) 0)), (5, .ls 23 0 c.nodes.l.length none), (6, .ls 27 0 c.nodes.l.length none), (7, .ls 53 0 s.rdy.length none), (10, .t fan), (11, .t (tI d)), (12, .t (tI n)), (76, .t (.sl (Jh tLn r) (some r.length) nl)), (77, .t (tI r.length)), (78, .t (tI k))], lsH s⟩
 | 0, k, s, M, h, hI, hM, hS => by
  refine Lm fun K hK => ?_
  have h2 : ¬ k < r.length := by omega
  have h3 : k = r.length := by omega
  simp [h2, lsH]
  subst h3
  rw [List.drop_of_length_le (Nat.le_refl _)] at hS
  simp only [List.foldl_nil] at hS
  subst hS
  exact h0
 | kk + 1, k, s, M, h, hI, hM, hS => by
  refine Lm fun K hK => ?_
  have h2 : k < r.length := by omega
  rw [List.drop_eq_getElem_cons h2] at hS
  simp only [List.foldl_cons] at hS
  obtain ⟨j, hj, hpj⟩ := hin _ (List.getElem_mem h2)
  have hstep := hI.step (c := c) (n := n) (k := r[k].2) hj
  have hpair : r[k] = ((j : Int), r[k].2) := by rw [← hpj]
  rw [hpair] at hS
  generalize r[k].2 = q at hS hstep hpair
  have e := q4R (Γ := Γ) c.nodes.l[j].k
  have hkind : Gg c j = c.nodes.l[j].k := by simp [Gg, hj]
  simp (disch := omega) [h2, lsH, Bg, qBo h2, q56, hpair, tLn, tC, B1, Ji Nd.d, q04, tNd, C5, hj]
  refine A4 e rfl ?_
  by_cases hcb : Iu c.nodes.l[j].k = true
  case neg =>
   have hcb' : decide (1 ≤ c.nodes.l[j].k ∧ c.nodes.l[j].k ≤ 13) = false := by simpa [Iu] using hcb
   have hcb2 : Iu (Gg c j) = false := by rw [hkind]; exact hcb'
   have hst : Ci c n s ((j : Int), q) = s := by unfold Ci; simp [hcb2]
   rw [hst] at hS hstep
   rw [hcb']
   simp (disch := omega) [A7]
   rw [hK]
   have := Zf c hc hn n hnn d r nl hr hin fan S h0 kk (k + 1) s (M + 1) (by omega) hstep (by omega) hS
   simpa [lsH, tC, B1, C5] using this
  have hcb' : decide (1 ≤ c.nodes.l[j].k ∧ c.nodes.l[j].k ≤ 13) = true := by simpa [Iu] using hcb
  have hcb2 : Iu (Gg c j) = true := by rw [hkind]; exact hcb'
  rw [hcb']
  have ho := hI.lo
  have hll := hI.ll
  have b1 := hI.bo n
  have b2 := hI.bo j
  have b3 := hI.bl j
  have hrl := hI.len
  have hst : Ci c n s ((j : Int), q) = ⟨s.out.set j (max (s.out.getD j 0) (s.out.getD n 0 + 1)), s.left.set j (s.left.getD j 0 - 1), if s.left.getD j 0 - 1 = 0 then s.rdy ++ [(j : Int)] else s.rdy⟩ := by
   unfold Ci; simp [hcb2]
  have hw : Gk 1 [[tI (j : Int)]] := by intro e he; simp at he; subst he; rfl
  have hmax : max (s.out.getD j 0) (s.out.getD n 0 + 1) = if s.out.getD j 0 < s.out.getD n 0 + 1 then s.out.getD n 0 + 1 else s.out.getD j 0 := by
   split <;> omega
  have ih := fun S2 (e : S2 = Ci c n s ((j : Int), q)) => Zf c hc hn n hnn d r nl hr hin fan S h0 kk (k + 1) S2 (M + 1) (by omega) (e ▸ hstep) (by omega) (e ▸ hS)
  have ljo : j < s.out.length := by omega
  have lno : n < s.out.length := by omega
  have ljl : j < s.left.length := by omega
  simp only [List.getD, List.getElem?_eq_getElem ljo, List.getElem?_eq_getElem lno, List.getElem?_eq_getElem ljl, Option.getD_some] at b1 b2 b3 hst hmax
  have b1a := b1.1
  have b1b := b1.2
  have b2a := b2.1
  have b2b := b2.2
  have b3a := b3.1
  have b3b := b3.2
  simp (disch := omega) [A7, A3, He (0 : Int), Ad, T8, ljo, lno, ljl, hj, hnn]
  rw [show (if s.out[j] < s.out[n] + 1 then s.out[n] + 1 else s.out[j]) = max s.out[j] (s.out[n] + 1) from hmax.symm]
  by_cases hz : s.left[j] - 1 = 0
  ·rw [if_pos hz] at hst
   have ih' := ih _ hst.symm
   simp (disch := omega) [hz, A7, A3, Ad, hw, q0B]
   refine ⟨by omega, ?_⟩
   rw [hK]
   rw [J4 (f := tI) (x := (j : Int))]
   simpa [lsH, tC, B1, C5, hz] using ih'
  ·rw [if_neg hz] at hst
   have ih' := ih _ hst.symm
   simp (disch := omega) [hz, A7, q0B, Ad]
   rw [hK]
   simpa [lsH, tC, B1, C5] using ih'
theorem q4V {Q : AX → St → Prop} (c : E5) (hc : CirOk c) (hn : c.nodes.l.length ≤ 16384) (hi : ∀ x ∈ c.nodes.l, x.inn.l.length ≤ 16) (R : Nat × LS)
  (h0 : Q (.exit 2) ⟨[(1, .t (.ip (tC c) 0)), (5, .ls 23 0 c.nodes.l.length none), (6, .ls 27 0 c.nodes.l.length none), (7, .ls 53 0 R.2.rdy.length none), (10, .t (q60 (Dx c))), (11, .t (tI R.1)), (60, .t (tB false))], lsH R.2⟩) :
  ∀ (f d : Nat) (s : LS) (M : Nat), f + d = c.nodes.l.length + 1 → LI c.nodes.l.length M s → M = d * 262144 → q1l c f d s = R →
  run Tryd.prog Γ Gx Q ⟨[(1, .t (.ip (tC c) 0)), (5, .ls 23 0 c.nodes.l.length none), (6, .ls 27 0 c.nodes.l.length none), (7, .ls 53 0 s.rdy.length none), (10, .t (q60 (Dx c))), (11, .t (tI d))], lsH s⟩
 | 0, d, s, M, h, hI, hM, hR => by
  refine Ln fun K hK => ?_
  have hlen := hI.len
  have h2 : ¬ d < s.rdy.length := by omega
  simp [h2, lsH]
  simp only [q1l] at hR
  subst hR
  exact h0
 | f + 1, d, s, M, h, hI, hM, hR => by
  refine Ln fun K hK => ?_
  have hlen := hI.len
  by_cases h2 : d < s.rdy.length
  case neg =>
   simp [h2, lsH]
   simp only [q1l, h2, ↓reduceIte] at hR
   subst hR
   exact h0
  simp only [q1l, h2, ↓reduceIte] at hR
  obtain ⟨j, hj, he, hz⟩ := hI.rd _ (List.getElem_mem h2)
  have hgd : s.rdy.getD d 0 = (j : Int) := by simp [h2, he]
  rw [hgd] at hR
  simp only [Int.toNat_natCast] at hR
  have hfr := R1 c
  have hrl : Eu c j ∈ Dx c := by
   have e : Eu c j = (Dx c)[j]'(by omega) := by simp [Eu, hfr, hj]
   rw [e]; exact List.getElem_mem _
  have hin := Ze c _ hrl
  have hrb := q7A c hn hi _ hrl
  have hfold := hI.fold (c := c) (n := j) hin
  have hel : (Dx c)[j]? = some (Eu c j) := by
   have hlt : j < (Dx c).length := by omega
   simp [Eu, hlt]
  have hrt : Q6 (Eu c j) = .sl (Jh tLn (Eu c j)) (some (Eu c j).length) (if Eu c j = [] then some true else none) := rfl
  have hg1 : (Dc Q6 (Dx c))[j]?.getD [] = [Q6 (Eu c j)] := by simp [Dc, hel]
  have hM2 : LI c.nodes.l.length ((d + 1) * 262144) ((Eu c j).foldl (Ci c j) s) := ⟨hfold.lo, hfold.ll, hfold.rd, hfold.nd, fun i => ⟨(hfold.bo i).1, by have := (hfold.bo i).2; omega⟩, fun i => ⟨by have := (hfold.bl i).1; omega, (hfold.bl i).2⟩⟩
  have ih := q4V c hc hn hi R h0 f (d + 1) _ _ (by omega) hM2 rfl hR
  have hrdy : (s.rdy)[d]?.getD 0 = (j : Int) := by simpa using hgd
  simp (disch := omega) [h2, lsH, A3, He (0 : Int), Ad, A7, he, q60, hfr, hj, hg1, hrt, Bg]
  by_cases hr0 : (Eu c j).length = 0
  ·have hr0' : Eu c j = [] := List.eq_nil_of_length_eq_zero hr0
   simp [hr0', Fh]
   rw [hK]
   rw [hr0'] at ih
   simp only [List.foldl_nil, q60, hfr, lsH] at ih
   exact_mod_cast ih
  ·have hr0' : ¬ Eu c j = [] := fun e => hr0 (by simp [e])
   simp (disch := omega) [Fh, hr0', lsH, A3, He (0 : Int), Ad, A7, he, q60, hfr, hj, hg1, hrt, Bg]
   refine Zf c hc hn j hj ((d : Int) + 1) (Eu c j) _ (by omega) hin _ _ ?_ (Eu c j).length 0 s M (by omega) hI (by omega) rfl
   simp [lsH]
   rw [hK]
   simp only [q60, hfr, lsH] at ih
   exact_mod_cast ih
theorem q0C (x : Nd) : ∀ (l : List Nd) (i : Nat), Db (l ++ [x]) i = if Dh x = 0 then Db l i ++ [((i + l.length : Nat) : Int)] else Db l i
 | [], i => by simp [Db]
 | y :: l, i => by
  have := q0C x l (i + 1)
  simp only [List.cons_append, Db, this, List.length_cons]
  rw [show i + 1 + l.length = i + (l.length + 1) by omega]
  split <;> split <;> rfl
theorem q1n : ∀ (l : List Nd) (i : Nat), (Db l i).length ≤ l.length
 | [], _ => by simp [Db]
 | x :: l, i => by
  have := q1n l (i + 1)
  simp only [Db]
  split <;> simp <;> omega
def Iw (c : E5) (i : Nat) : List Int := (c.nodes.l.take i).map Dh ++ List.replicate (c.nodes.l.length - i) 0
theorem q3D {c : E5} {i : Nat} (h : i ≤ c.nodes.l.length) : (Iw c i).length = c.nodes.l.length := by simp [Iw]; omega
theorem Zg {c : E5} {i : Nat} (h : i < c.nodes.l.length) : (Iw c i).set i (Dh c.nodes.l[i]) = Iw c (i + 1) := by
 unfold Iw
 have e1 : ((c.nodes.l.take i).map Dh).length = i := by simp; omega
 rw [List.set_append_right _ _ (by rw [e1]; exact Nat.le_refl i), e1, Nat.sub_self]
 rw [show c.nodes.l.length - i = (c.nodes.l.length - (i + 1)) + 1 by omega, List.replicate_succ, List.set_cons_zero]
 have e3 : (c.nodes.l.map Dh).take (i + 1) = (c.nodes.l.map Dh).take i ++ [Dh c.nodes.l[i]] := by rw [List.take_add_one]; simp [h]
 simp [e3]
theorem q62 {c : E5} {i : Nat} (h : i < c.nodes.l.length) (h0 : Dh c.nodes.l[i] = 0) : Iw c i = Iw c (i + 1) := by
 unfold Iw
 rw [show c.nodes.l.length - i = (c.nodes.l.length - (i + 1)) + 1 by omega, List.replicate_succ]
 have e3 : (c.nodes.l.map Dh).take (i + 1) = (c.nodes.l.map Dh).take i ++ [Dh c.nodes.l[i]] := by rw [List.take_add_one]; simp [h]
 simp [e3, h0]
theorem q4W {Q : AX → St → Prop} (c : E5) (hn : c.nodes.l.length ≤ 16384) (hi : ∀ x ∈ c.nodes.l, x.inn.l.length ≤ 16) (out : List Int)
  (h0 : Q (.exit 0) ⟨[(1, .t (.ip (tC c) 0)), (5, .ls 23 0 c.nodes.l.length none), (6, .ls 27 0 c.nodes.l.length none), (7, .ls 53 0 (Db c.nodes.l 0).length none), (29, .t (B1 c.nodes)), (30, .t (tI c.nodes.l.length)), (31, .t (tI c.nodes.l.length)), (32, .t (tB false))], [(23, .sl 3 1 (D9 out)), (27, .sl 3 1 (D9 (c.nodes.l.map Dh))), (53, .sl 3 1 (D9 (Db c.nodes.l 0)))]⟩) :
  ∀ (kk i : Nat), kk + i = c.nodes.l.length →
  run Tryd.prog Γ Gv Q ⟨[(1, .t (.ip (tC c) 0)), (5, .ls 23 0 c.nodes.l.length none), (6, .ls 27 0 c.nodes.l.length none), (7, .ls 53 0 (Db (c.nodes.l.take i) 0).length none), (29, .t (B1 c.nodes)), (30, .t (tI c.nodes.l.length)), (31, .t (tI i))], [(23, .sl 3 1 (D9 out)), (27, .sl 3 1 (D9 (Iw c i))), (53, .sl 3 1 (D9 (Db (c.nodes.l.take i) 0)))]⟩
 | 0, i, h => by
  refine Ll fun K hK => ?_
  have h2 : ¬ i < c.nodes.l.length := by omega
  have h3 : i = c.nodes.l.length := by omega
  simp [h2]
  subst h3
  simpa [Iw] using h0
 | kk + 1, i, h => by
  refine Ll fun K hK => ?_
  have h2 : i < c.nodes.l.length := by omega
  have hx := hi _ (List.getElem_mem h2)
  have ht : c.nodes.l.take (i + 1) = c.nodes.l.take i ++ [c.nodes.l[i]] := by rw [List.take_add_one]; simp [h2]
  have htl : (c.nodes.l.take i).length = i := by simp; omega
  have hrl := q1n (c.nodes.l.take i) 0
  have hll := q3D (c := c) (i := i) (by omega)
  have hll1 := q3D (c := c) (i := i + 1) (by omega)
  have hsn := q0C c.nodes.l[i] (c.nodes.l.take i) 0
  rw [← ht, htl, Nat.zero_add] at hsn
  have e := q4R (Γ := Γ) c.nodes.l[i].k
  have ih := q4W c hn hi out h0 kk (i + 1) (by omega)
  have hw : Gk 1 [[tI (i : Int)]] := by intro e he; simp at he; subst he; rfl
  simp (disch := omega) [h2, Bg, Ji Nd.d, q04, B1, tNd, C5, -E4]
  refine A4 e rfl ?_
  have tail : ∀ (lf : List Int), lf = Iw c (i + 1) → run Tryd.prog Γ (.seq (.reg E4 [.keep [1, 5, 6, 7, 8, 29, 30, 31, 49] [23, 27, 53]]) (.cond (.tmp 49) (.reg J7 [.keep [1, 5, 6, 7, 29, 30, 31] [23, 27, 53]]) .skip))
    (J5 1 (B5 (run Tryd.prog Γ (.reg J8 [.keep [1, 5, 6, 7, 29, 30, 31] [23, 27, 53]]) (B5 (fun s => B5 K Q .normal (ghs [.keep [1, 5, 6, 7, 29, 30, 31] [23, 27, 53]] s)) (B5 K Q))) (B5 (fun s => B5 K Q .normal (ghs [.keep [1, 5, 6, 7, 29, 30, 31] [23, 27, 53]] s)) (B5 K Q))))
    ⟨[(1, .t (.ip (tC c) 0)), (5, .ls 23 0 c.nodes.l.length none), (6, .ls 27 0 c.nodes.l.length none), (7, .ls 53 0 (Db (c.nodes.l.take i) 0).length none), (8, .t (tI i)), (29, .t (B1 c.nodes)), (30, .t (tI c.nodes.l.length)), (31, .t (tI i))], [(23, .sl 3 1 (D9 out)), (27, .sl 3 1 (D9 lf)), (53, .sl 3 1 (D9 (Db (c.nodes.l.take i) 0)))]⟩ := by
   rintro lf rfl
   have hget : (Iw c (i + 1))[i]?.getD 0 = Dh c.nodes.l[i] := by
    rw [← Zg h2]
    simp [hll, h2]
   have hge := hget
   rw [List.getElem?_eq_getElem (by rw [hll1]; exact h2), Option.getD_some] at hge
   by_cases hz : Dh c.nodes.l[i] = 0
   ·rw [if_pos hz] at hsn
    simp (disch := omega) [h2, A3, He (0 : Int), Ad, hll1, hge, hz, hw, A7]
    refine ⟨by omega, ?_⟩
    rw [hK]
    rw [hsn] at ih
    rw [J4 (f := tI) (x := (i : Int))]
    simpa using ih
   ·rw [if_neg hz] at hsn
    simp (disch := omega) [h2, A3, He (0 : Int), Ad, hll1, hge, hz, A7]
    rw [hK]
    rw [hsn] at ih
    exact_mod_cast ih
  by_cases hcb : Iu c.nodes.l[i].k = true
  ·have hcb' : decide (1 ≤ c.nodes.l[i].k ∧ c.nodes.l[i].k ≤ 13) = true := by simpa [Iu] using hcb
   have hlo : Dh c.nodes.l[i] = c.nodes.l[i].inn.l.length := by simp [Dh, hcb]
   rw [hcb']
   have := tail ((Iw c i).set i c.nodes.l[i].inn.l.length) (by rw [← hlo]; exact Zg h2)
   simp (disch := omega) [h2, A3, Ad, hll, T8, -E4]
   exact this
  ·have hcb' : decide (1 ≤ c.nodes.l[i].k ∧ c.nodes.l[i].k ≤ 13) = false := by simpa [Iu] using hcb
   have hlo : Dh c.nodes.l[i] = 0 := by simp [Dh, hcb]
   rw [hcb', q62 h2 hlo]
   rw [if_pos hlo] at hsn
   have hge : (Iw c (i + 1))[i]'(by rw [hll1]; exact h2) = 0 := by
    have hget : (Iw c (i + 1))[i]?.getD 0 = Dh c.nodes.l[i] := by
     rw [← Zg h2]
     simp [hll, h2]
    rw [List.getElem?_eq_getElem (by rw [hll1]; exact h2), Option.getD_some] at hget
    rw [hget, hlo]
   simp (disch := omega) [h2, A3, He (0 : Int), Ad, hll1, hge, hw, A7]
   refine ⟨by omega, ?_⟩
   rw [hK]
   rw [hsn] at ih
   rw [J4 (f := tI) (x := (i : Int))]
   simpa [B1] using ih
def Q7 (c : E5) : Int := if Dq c ≠ 0 then Dq c else if (q13 c).1 < c.nodes.l.length then 6 else 0
theorem qDx (k : Int) : (fan k).2 ≤ 16 := by
 unfold fan
 split
 ·decide
 ·have : ∀ n : Nat, (q1y.getD n (0, 0)).2 ≤ 16 := by
   intro n
   by_cases h : n < 16
   ·have : n = 0 ∨ n = 1 ∨ n = 2 ∨ n = 3 ∨ n = 4 ∨ n = 5 ∨ n = 6 ∨ n = 7 ∨ n = 8 ∨ n = 9 ∨ n = 10 ∨ n = 11 ∨ n = 12 ∨ n = 13 ∨ n = 14 ∨ n = 15 := by omega
    rcases this with rfl | rfl | rfl | rfl | rfl | rfl | rfl | rfl | rfl | rfl | rfl | rfl | rfl | rfl | rfl | rfl <;> decide
   ·rw [List.getD, List.getElem?_eq_none (by simp [q1y]; omega)]; decide
  exact this _
theorem S5 {α : Type} {f : α → Int} : ∀ {l : List α}, Ce (l.map f) = 0 → ∀ x ∈ l, f x = 0
 | [], _, x, h => by cases h
 | y :: l, h, x, hx => by
  simp only [List.map_cons, Ce] at h
  split at h
  ·rename_i hy; exact absurd h hy
  ·rename_i hy
   rcases List.mem_cons.1 hx with rfl | hx
   ·simpa using hy
   ·exact S5 h x hx
theorem q63 {c : E5} (h : Dq c = 0) : c.nodes.l.length ≤ 16384 ∧ (∀ x ∈ c.nodes.l, x.inn.l.length ≤ 16) ∧ (∀ x ∈ c.nodes.l, Dw c x = 0) ∧ c.mems.l.length ≤ 16 := by
 unfold Dq at h
 split at h
 ·cases h
 rename_i h1
 split at h
 ·cases h
 split at h
 ·rename_i h2; exact absurd h h2
 rename_i h2
 have h3 := S5 (by simpa using h2)
 refine ⟨by omega, fun x hx => ?_, h3, by omega⟩
 have h4 := h3 x hx
 have h5 := qDx x.k
 unfold Dw at h4
 split at h4
 ·cases h4
 split at h4
 ·cases h4
 rename_i h6
 omega
theorem q64 (hΓ : GOk Γ) (c : E5) (hc : CirOk c) (ha : ∀ s ∈ c.names.l, ∀ b ∈ s, b < 128) :
  A5 Tryd.prog Γ 53 [.agg (tC c)] (.tup [if Q7 c = 0 then .sl (D9 (q13 c).2.out) none none else .sl [] (some 0) (some true), tI (Q7 c)]) := by
 refine Ah Oj rfl ?_
 have e1 := q79 hΓ c hc ha
 simp [K6, tC, B1, Dp, Gm, C5]
 refine A4 e1 rfl ?_
 by_cases h1 : Dq c = 0
 case neg =>
  have : Q7 c = Dq c := by unfold Q7; rw [if_pos h1]
  simp [h1, Eh, this]
 obtain ⟨hn, hi, _⟩ := q63 h1
 have e2 := q61 (Γ := Γ) c hn hi
 have hl0 : Q7 c = if (q13 c).1 < c.nodes.l.length then 6 else 0 := by unfold Q7; rw [if_neg (show ¬ (Dq c ≠ 0) by simp [h1])]
 simp (disch := omega) [h1, Bg, A7]
 refine ⟨by omega, ?_⟩
 have e0 : List.replicate c.nodes.l.length [T.v (Value.int .i64 0)] = D9 (List.replicate c.nodes.l.length 0) := by simp [Dc]
 rw [e0]
 have hl := fun Q h0 => q4W (Γ := Γ) (Q := Q) c hn hi (List.replicate c.nodes.l.length 0) h0 c.nodes.l.length 0 (by omega)
 have el0 : Iw c 0 = List.replicate c.nodes.l.length 0 := by simp [Iw]
 simp only [el0, Db, List.take_zero, List.length_nil] at hl
 refine hl _ ?_
 simp [tC, B1, Dp, Gm, C5]
 refine Ie e2 rfl ?_
 have hI := qAC c hi
 have hm := fun Q h0 => q4V (Γ := Γ) (Q := Q) c hc hn hi (q13 c) h0 (c.nodes.l.length + 1) 0 (q1m c) 0 (by omega) hI (by omega) rfl
 simp
 refine hm _ ?_
 have hend : (q13 c).1 < c.nodes.l.length ↔ ((q13 c).1 : Int) < c.nodes.l.length := by omega
 have hol : (q13 c).2.out.length = c.nodes.l.length := by
  have : ∀ (f d : Nat) (s : LS), s.out.length = c.nodes.l.length → (q1l c f d s).2.out.length = c.nodes.l.length := by
   intro f
   induction f with
   | zero => intro d s h; exact h
   | succ f ih =>
    intro d s h
    simp only [q1l]
    split
    ·refine ih _ _ ?_
     have : ∀ (r : Jf) (n : Nat) (s : LS), s.out.length = c.nodes.l.length → (r.foldl (Ci c n) s).out.length = c.nodes.l.length := by
      intro r n
      induction r with
      | nil => intro s h; exact h
      | cons p r ih2 =>
       intro s h
       rw [List.foldl_cons]
       refine ih2 _ ?_
       unfold Ci
       split
       ·simp [h]
       ·exact h
     exact this _ _ _ h
    ·exact h
  exact this _ _ _ hI.lo
 by_cases h2 : (q13 c).1 < c.nodes.l.length
 ·rw [if_pos h2] at hl0
  have h2' := hend.1 h2
  simp [lsH, tC, B1, Bg, h2', Eh, hl0]
 ·rw [if_neg h2] at hl0
  have h2' : ¬ ((q13 c).1 : Int) < c.nodes.l.length := fun h => h2 (hend.2 h)
  have ht : (D9 (q13 c).2.out).take c.nodes.l.length = D9 (q13 c).2.out := by rw [← hol]; simp
  simp [lsH, tC, B1, Bg, h2, h2', Eh, hl0, ht]
structure COk (c : E5) : Prop extends CirOk c where
 asc : ∀ s ∈ c.names.l, ∀ b ∈ s, b < 128
theorem q7B (hΓ : GOk Γ) (c : E5) (hc : COk c) : A5 Tryd.prog Γ 29 [.agg (tC c)] (tI (Q7 c)) := by
 refine Ah Q1 rfl ?_
 have e := q64 hΓ c hc.toCirOk hc.asc
 simp [Lh, tC, B1, Dp, Gm, C5]
 refine A4 e rfl ?_
 simp
 simp [Lj]
def q7C (c : E5) : List Int := ofL [14] c.nodes.l 0
def mems (c : E5) : List Int := ofL [15] c.nodes.l 0
end Go.Lg
namespace Go.Lg
open Go Go.Proofs
def B6 (s : Sl (Sl Int)) : T := .sl (Dc C5 s.l) s.cap s.nl
def Sl.d : Sl Int := ⟨[], none, none⟩
def qGM (l : List Int) (a b : Nat) : List Int := (l.set a (l.getD b 0)).set b (l.getD a 0)
theorem q2G {l : List Int} {i : Nat} (h : i < l.length) : l.getD i 0 = l[i] := by simp [List.getD_eq_getElem?_getD, h]
end Go.Lg
namespace Go.Lg
open Go Go.Proofs
variable {Γ : Tables}
structure Gd where
 k : Int
 a : Int
 b : Int
 d : Int
def Byt (n : Int) : Prop := 0 ≤ n ∧ n ≤ 255
def Gd.z : Gd := ⟨0, 0, 0, 0⟩
end Go.Lg
namespace Go.Lg
open Go Go.Proofs Go.Proofs.YtnhlpeiadcojmaaDoor
def G0 (g : Nat) : Option (List T) := if g = 1 then some q73 else none
theorem qDy : Tryd.prog.globalNamed "probecard/logic.fanins" = some 1 := by kernel_rfl
theorem qAD : (Tryd.prog.globals[1]?).map (·.type) = some 156 := by kernel_rfl
theorem qAE : Tryd.prog.cellsOf 3 = 1 := by kernel_rfl
theorem qDz : Tryd.prog.cellsOf 5 = 1 := by kernel_rfl
theorem q65 : Tryd.prog.cellsOf 110 = 2 := by kernel_rfl
theorem q66 : Tryd.prog.cellsOf 156 = 32 := by kernel_rfl
theorem q8x {W : World} (h : laidMet Tryd.prog [("probecard/logic.fanins", Rows.laid_probecard_logic_fanins)] W) : ∀ j, j < 32 → W.cell? ⟨1, j, none⟩ = (q1y.flatMap fun x => [Value.int .i64 x.1, Value.int .i64 x.2])[j]? := by
 obtain ⟨ps, ⟨g', t', cs, fuel, p, q, hg', ht', hvar, hd, _, _⟩, _⟩ := h
 obtain rfl := Option.some.inj (qDy.symm.trans hg')
 obtain rfl := Option.some.inj (qAD.symm.trans ht')
 have hc := q2z (l := q1y) Tryd.underlying156 Tryd.underlying110 Tryd.underlying3 qAE q65 q66 hd
 intro j hj
 have := World.var?_cell qDy hvar j
 rw [this, ← hc]
 simp
theorem qAF {W : World} (h : laidMet Tryd.prog [("probecard/logic.fanins", Rows.laid_probecard_logic_fanins)] W) : ∃ arr ty fr, W.heap[(1 : Nat)]? = some (.cells arr ty fr) ∧ arr.size = 32 := by
 obtain ⟨ps, ⟨g', t', cs, fuel, p, q, hg', ht', hvar, hd, _, _⟩, _⟩ := h
 obtain rfl := Option.some.inj (qDy.symm.trans hg')
 obtain rfl := Option.some.inj (qAD.symm.trans ht')
 have hc := q2z (l := q1y) Tryd.underlying156 Tryd.underlying110 Tryd.underlying3 qAE q65 q66 hd
 have hs : cs.size = 32 := by rw [← Array.length_toList, hc]; rfl
 unfold World.var? at hvar
 rw [hg'] at hvar
 simp only [Option.bind_some] at hvar
 split at hvar
 ·rename_i a ty fr hh
  simp only [Option.some.injEq] at hvar
  subst hvar
  exact ⟨_, ty, fr, hh, hs⟩
 ·cases hvar
theorem qE0 {W : World} (h : laidMet Tryd.prog [("probecard/logic.fanins", Rows.laid_probecard_logic_fanins)] W) : Gl G0 W (Old W) := by
 have hc := q8x h
 intro g cs hg
 unfold G0 at hg
 split at hg
 case isFalse => cases hg
 rename_i h0; subst h0
 simp only [Option.some.injEq] at hg
 subst hg
 have hlen : (q1y.flatMap fun x => [Value.int .i64 x.1, Value.int .i64 x.2]).length = 32 := rfl
 have hfc : q73 = (q1y.flatMap fun x => [Value.int .i64 x.1, Value.int .i64 x.2]).map T.v := rfl
 have hfl : q73.length = 32 := rfl
 refine ⟨?_, qAF h⟩
 refine .ip q73 0 1 0 (fun j => (q1y.flatMap fun x => [Value.int .i64 x.1, Value.int .i64 x.2])[j]?.getD .nilFunc) ?_ ?_ ?_ ?_
 ·intro j hj
  rw [Nat.zero_add, hc j (by omega)]
  rw [List.getElem?_eq_getElem (by omega)]; rfl
 ·intro j t ht
  rw [hfc, List.getElem?_map, Option.map_eq_some_iff] at ht
  obtain ⟨v, hv, rfl⟩ := ht
  simp only [hv, Option.getD_some]
  exact .v v
 ·intro j t ht
  rw [hfc, List.getElem?_map, Option.map_eq_some_iff] at ht
  obtain ⟨v, hv, rfl⟩ := ht
  have hm := List.mem_of_getElem? hv
  obtain ⟨x, _, hx⟩ := List.mem_flatMap.1 hm
  simp at hx
  rcases hx with rfl | rfl <;> rfl
 ·have := hc 0 (by omega)
  rw [List.getElem?_eq_getElem (by omega)] at this
  exact q81 this
theorem qE1 {n : Int} (h : (Lit.int .u8 n).wf = true) : Byt n := by
 simp [Lit.wf, IntKind.min, IntKind.max, IntKind.signed, IntKind.bits] at h
 exact ⟨h.1, by omega⟩
theorem qHU : Rd Tryd.prog 5 fun ts => ∃ n, ts = [tK n] ∧ Byt n := (qDt Tryd.underlying5).mono fun ts ⟨n, h, hw⟩ => ⟨n, h, qE1 hw⟩
theorem q83 {α : Type} {f : α → List T} {Q : α → Prop} : ∀ {es : List (List T)}, (∀ x ∈ es, ∃ a, x = f a ∧ Q a) → ∃ l : List α, es = l.map f ∧ ∀ a ∈ l, Q a
 | [], _ => ⟨[], rfl, by simp⟩
 | e :: es, h => by
  obtain ⟨a, ha, hq⟩ := h e List.mem_cons_self
  obtain ⟨l, hl, hql⟩ := q83 fun x hx => h x (List.mem_cons_of_mem _ hx)
  exact ⟨a :: l, by rw [ha, hl]; rfl, fun b hb => by rcases List.mem_cons.1 hb with rfl | hb; exact hq; exact hql b hb⟩
end Go.Lg
namespace Go.Proofs.YtnhlpeiadcojmaaDoor
open Go Go.Lg Go.ChangeShapes Go.WideShapes Go.ChangeAt Go.RowKit
theorem own : ownKnob Tryd.prog.godebug = none := by kernel_rfl
theorem qHK : laidOutB Tryd.prog = true := by kernel_rfl
noncomputable def q4X (os : Os) : World :=
 { World.holding Tryd.prog os ⟨#[], #[], []⟩ with heap := (World.holding Tryd.prog os ⟨#[], #[], []⟩).heap.modify 1 fun
   | .cells _ t frozen => .cells (q1y.flatMap fun x => [Value.int .i64 x.1, Value.int .i64 x.2]).toArray t frozen
   | o => o }
def c0 : Value := .agg #[.int .u8 0, .int .u8 0, .int .u8 0, .int .u8 0, .bool false, .bool false, .int .u8 0, .int .u8 0, .int .u8 0, .int .u8 0, .slice none 0 0, .slice none 0 0]
def d0 {H : Type} : DataW H := .agg [.lit (.int .u8 0), .lit (.int .u8 0), .agg [.lit (.int .u8 0), .lit (.int .u8 0)], .lit (.bool false), .lit (.bool false), .agg [.lit (.int .u8 0), .lit (.int .u8 0), .lit (.int .u8 0), .lit (.int .u8 0)], .nil, .nil]
end Go.Proofs.YtnhlpeiadcojmaaDoor
namespace Go.Lg
open Go Go.Proofs
def q3E (v : Int) : Int := if v < 2 then v else 2
def q14 (v : Int) : Int := if 3 < v then 2 else v
def q3F (v : Int) : Bool := decide (v ≤ 1)
def qAG (a b : Int) : Bool := decide (q14 a = q14 b ∨ q14 a = 2)
def q7D (v : Int) : Int := if v ≤ 1 then 1 - v else 2
def q8y (low high : Int) : Int → List Int → Int
 | out, [] => out
 | out, v :: l => if v = low then low else if v ≠ high then q8y low high 2 l else q8y low high out l
def qHV (a b : Int) : Int := if a = b then 0 else 1
def qE2 : Int → List Int → Int
 | out, [] => out
 | out, v :: l => if v ≤ 1 then qE2 (qHV out v) l else 2
def qHW (s a b : Int) : Int := if s = 0 then q3E a else if s = 1 then q3E b else if a = b then q3E a else 2
def qHX (e d : Int) : Int := if e = 0 then 3 else if e = 1 then q3E d else 2
def qE3 (l : List Int) : Bool := l.contains 0 && l.contains 1
def qHY (v : Int) : Bool := decide (q14 v = 2)
def qHZ (v : Int) : Bool := decide (v ≠ 3)
def qHa (l : List Int) : Int := match l.findIdx? qHZ with
 | none => 3
 | some i => if qE3 l = true ∨ l.any qHY = true then 2 else l.getD i 0
def qGN (k : Int) (l : List Int) : Int :=
 if k = 1 then 0 else if k = 2 then 1 else if k = 3 then q3E (l.getD 0 0) else if k = 4 then q7D (l.getD 0 0) else
 if k = 5 then q8y 0 1 1 l else if k = 6 then q7D (q8y 0 1 1 l) else if k = 7 then q8y 1 0 0 l else if k = 8 then q7D (q8y 1 0 0 l) else
 if k = 9 then qE2 0 l else if k = 10 then q7D (qE2 0 l) else if k = 11 then qHW (l.getD 0 0) (l.getD 1 0) (l.getD 2 0) else
 if k = 12 then qHX (l.getD 0 0) (l.getD 1 0) else if k = 13 then qHa l else 2
def qE4 (k : Int) (n : Nat) : Bool := decide ((n : Int) < (fan k).1 ∨ (fan k).2 < (n : Int))
def qGO (k : Int) (l : List Int) : Int := if qE4 k l.length = true then 2 else qGN k l
def V4 (v : Int) : Prop := 0 ≤ v ∧ v ≤ 3
def Blw (a b : Int) : Prop := a = b ∨ a = 2
def q7E (l m : List Int) : Prop := l.length = m.length ∧ ∀ i, Blw (l.getD i 0) (m.getD i 0)
theorem Blw.refl (a : Int) : Blw a a := .inl rfl
theorem q7E.cons {a b : Int} {l m : List Int} (h : q7E (a :: l) (b :: m)) : Blw a b ∧ q7E l m :=
 ⟨by simpa using h.2 0, by simpa using h.1, fun i => by simpa using h.2 (i + 1)⟩
def Nj (i : Nat) (r : Jf) : Nat := r.countP fun p => decide (p.1 = (i : Int))
theorem qAH {i : Nat} {r q : Jf} : Nj i (r ++ q) = Nj i r + Nj i q := by simp [Nj]
theorem q7F {rows : List Jf} {n m i : Nat} {p : Int × Int} (hn : n < rows.length) : Nj i ((Gf rows n p).getD m []) = Nj i (rows.getD m []) + if m = n ∧ p.1 = (i : Int) then 1 else 0 := by
 unfold Gf
 simp only [List.getD_eq_getElem?_getD, List.getElem?_set]
 by_cases h : n = m
 ·subst h
  simp only [hn, if_true, Option.getD_some, qAH, true_and]
  congr 1
  by_cases h2 : p.1 = (i : Int) <;> simp [Nj, h2]
 ·have h' : ¬ m = n := fun e => h e.symm
  simp [h, h']
theorem q1o (c : E5) (j i m : Nat) : ∀ (l : List Int) (k : Nat) (rows : List Jf), rows.length = c.nodes.l.length → (∀ p ∈ l, 0 ≤ p ∧ p < c.nodes.l.length) → (I6 c j l k rows).length = c.nodes.l.length ∧ Nj i ((I6 c j l k rows).getD m []) = Nj i (rows.getD m []) + if j = i then l.count (m : Int) else 0
 | [], k, rows, hl, _ => ⟨hl, by simp [I6]⟩
 | n :: l, k, rows, hl, hp => by
  have hn := hp n List.mem_cons_self
  have ho : Oh c n = false := by simp [Oh]; omega
  simp only [I6, ho, Bool.false_eq_true, if_false]
  obtain ⟨h1, h2⟩ := q1o c j i m l (k + 1) (Gf rows n.toNat (j, k)) (by rw [Zc]; exact hl) (fun p h => hp p (List.mem_cons_of_mem _ h))
  refine ⟨h1, ?_⟩
  rw [h2, q7F (by omega)]
  by_cases hji : j = i
  ·subst hji
   simp only [and_true, if_true, List.count_cons]
   by_cases hm : (m : Int) = n
   ·have h5 : m = n.toNat := by omega
    have h6 : (n == (m : Int)) = true := by rw [hm]; simp
    rw [if_pos h5, h6]
    simp only [if_true]; omega
   ·have h5 : ¬ m = n.toNat := by omega
    have h6 : (n == (m : Int)) = false := by simp; omega
    rw [if_neg h5, h6]
    simp only [Bool.false_eq_true, if_false]; omega
  ·have : ¬ ((j : Int) = i) := by omega
   simp [hji, this]
theorem q0D (c : E5) (i m : Nat) : ∀ (l : List Nd) (s : Nat) (rows : List Jf), rows.length = c.nodes.l.length → (∀ x ∈ l, ∀ p ∈ x.inn.l, 0 ≤ p ∧ p < c.nodes.l.length) →
  Nj i ((F7 c l s rows).getD m []) = Nj i (rows.getD m []) + if s ≤ i then ((l.map fun x => x.inn.l.count (m : Int)).getD (i - s) 0) else 0
 | [], s, rows, hl, _ => by simp [F7]
 | x :: l, s, rows, hl, hp => by
  obtain ⟨h1, h2⟩ := q1o c s i m x.inn.l 0 rows hl (hp x List.mem_cons_self)
  simp only [F7]
  rw [q0D c i m l (s + 1) _ h1 (fun y hy => hp y (List.mem_cons_of_mem _ hy)), h2]
  by_cases hsi : s = i
  ·subst hsi
   have : ¬ s + 1 ≤ s := by omega
   simp [this]
  ·by_cases hlt : s ≤ i
   ·have e : i - s = (i - (s + 1)) + 1 := by omega
    have h3 : s + 1 ≤ i := by omega
    simp [hsi, hlt, h3, e]
   ·have h3 : ¬ s + 1 ≤ i := by omega
    simp [hsi, hlt, h3]
def Y9 (c : E5) (i : Nat) : List Int := (c.nodes.l.getD i Nd.d).inn.l
theorem q15 (c : E5) (hp : ∀ x ∈ c.nodes.l, ∀ p ∈ x.inn.l, 0 ≤ p ∧ p < c.nodes.l.length) (i m : Nat) (hi : i < c.nodes.l.length) : Nj i (Eu c m) = (Y9 c i).count (m : Int) := by
 unfold Eu Dx
 rw [q0D c i m c.nodes.l 0 _ (by simp) hp]
 have h0 : Nj i ((List.replicate c.nodes.l.length ([] : Jf)).getD m []) = 0 := by
  simp only [List.getD_eq_getElem?_getD, List.getElem?_replicate]
  split <;> rfl
 rw [h0]
 simp [Y9, hi]
theorem qBp (c : E5) {i : Nat} (hi : i < c.nodes.l.length) : (c.nodes.l.map Dh).getD i 0 = if Iu (Gg c i) then ((Y9 c i).length : Int) else 0 := by
 simp [Gg, Y9, Dh, hi]
theorem q16 {N M : Nat} {c : E5} {n : Nat} : ∀ {r : Jf} {s : LS}, s.left.length = N → (∀ p ∈ r, ∃ i : Nat, i < N ∧ p.1 = i) → (∀ i : Nat, i < N → s.left.getD i 0 ≤ 0 → (i : Int) ∈ s.rdy) →
  (∃ e, (r.foldl (Ci c n) s).rdy = s.rdy ++ e) ∧ (r.foldl (Ci c n) s).left.length = N ∧ (∀ i : Nat, i < N → (r.foldl (Ci c n) s).left.getD i 0 = s.left.getD i 0 - if Iu (Gg c i) then (Nj i r : Int) else 0) ∧ (∀ i : Nat, i < N → (r.foldl (Ci c n) s).left.getD i 0 ≤ 0 → (i : Int) ∈ (r.foldl (Ci c n) s).rdy)
 | [], s, hl, _, hb => ⟨⟨[], by simp⟩, hl, fun i hi => by simp [Nj], hb⟩
 | (p1, p2) :: r, s, hl, hr, hb => by
  obtain ⟨j, hj, he⟩ := hr (p1, p2) List.mem_cons_self
  simp only at he; subst he
  have key : (∃ e, (Ci c n s (j, p2)).rdy = s.rdy ++ e) ∧ (Ci c n s (j, p2)).left.length = N ∧ (∀ i : Nat, i < N → (Ci c n s (j, p2)).left.getD i 0 = s.left.getD i 0 - if Iu (Gg c i) then (if j = i then 1 else 0 : Int) else 0) ∧ (∀ i : Nat, i < N → (Ci c n s (j, p2)).left.getD i 0 ≤ 0 → (i : Int) ∈ (Ci c n s (j, p2)).rdy) := by
   unfold Ci
   simp only [Int.toNat_natCast]
   by_cases hc : Iu (Gg c j) = true
   ·simp only [hc, if_true]
    refine ⟨?_, by simp [hl], fun i hi => ?_, fun i hi h0 => ?_⟩
    ·split
     ·exact ⟨_, rfl⟩
     ·exact ⟨[], by simp⟩
    ·rw [Oa (by omega)]
     by_cases hij : i = j
     ·subst hij; simp [hc]
     ·have : ¬ j = i := fun e => hij e.symm
      simp [hij, this]
    ·rw [Oa (by omega)] at h0
     by_cases hij : i = j
     ·subst hij
      simp only [if_true] at h0
      by_cases h1 : s.left.getD i 0 - 1 = 0
      ·rw [if_pos h1]; simp
      ·rw [if_neg h1]
       exact hb i hi (by omega)
     ·simp only [hij, if_false] at h0
      have := hb i hi h0
      split
      ·exact List.mem_append_left _ this
      ·exact this
   ·simp only [hc]
    refine ⟨⟨[], by simp⟩, hl, fun i hi => ?_, hb⟩
    by_cases hij : j = i
    ·subst hij; simp [hc]
    ·simp [hij]
  obtain ⟨⟨e1, h1⟩, h2, h3, h4⟩ := key
  obtain ⟨⟨e2, g1⟩, g2, g3, g4⟩ := q16 (M := M) (n := n) (r := r) h2 (fun q hq => hr q (List.mem_cons_of_mem _ hq)) h4
  simp only [List.foldl_cons]
  refine ⟨⟨e1 ++ e2, by rw [g1, h1, List.append_assoc]⟩, g2, fun i hi => ?_, g4⟩
  rw [g3 i hi, h3 i hi]
  by_cases hc : Iu (Gg c i) = true
  ·simp only [hc, if_true]
   have : Nj i ((↑j, p2) :: r) = Nj i r + if j = i then 1 else 0 := by
    by_cases hij : j = i
    ·subst hij; simp [Nj]
    ·have : ¬ ((j : Int) = i) := by omega
     simp [Nj, hij, this]
   rw [this]
   split <;> omega
  ·simp [hc]
structure JI (c : E5) (d : Nat) (s : LS) : Prop where
 li : ∃ M, LI c.nodes.l.length M s
 le : d ≤ s.rdy.length
 a : ∀ i : Nat, i < c.nodes.l.length → s.left.getD i 0 = (c.nodes.l.map Dh).getD i 0 - if Iu (Gg c i) then (((s.rdy.take d).map fun x => (Y9 c i).count x).sum : Int) else 0
 b : ∀ i : Nat, i < c.nodes.l.length → s.left.getD i 0 ≤ 0 → (i : Int) ∈ s.rdy
theorem JI.next {c : E5} (hp : ∀ x ∈ c.nodes.l, ∀ p ∈ x.inn.l, 0 ≤ p ∧ p < c.nodes.l.length) {d : Nat} {s : LS} (h : JI c d s) (hd : d < s.rdy.length) : JI c (d + 1) ((Eu c (s.rdy.getD d 0).toNat).foldl (Ci c (s.rdy.getD d 0).toNat) s) := by
 obtain ⟨M, hli⟩ := h.li
 have hg : s.rdy.getD d 0 = s.rdy[d] := by simp [hd]
 rw [hg]
 obtain ⟨n, hn, he, _⟩ := hli.rd _ (List.getElem_mem hd)
 rw [he]
 simp only [Int.toNat_natCast]
 have hr : ∀ p ∈ Eu c n, ∃ i : Nat, i < c.nodes.l.length ∧ p.1 = i := by
  intro p hpp
  have hl := R1 c
  have e : Eu c n = (Dx c)[n]'(by omega) := by simp [Eu, List.getD, List.getElem?_eq_getElem (show n < (Dx c).length by omega)]
  rw [e] at hpp
  exact Ze c _ (List.getElem_mem _) p hpp
 obtain ⟨⟨e, h1⟩, h2, h3, h4⟩ := q16 (M := M) (c := c) (n := n) (r := Eu c n) hli.ll hr h.b
 refine ⟨⟨_, hli.fold hr⟩, by rw [h1]; simp; omega, fun i hi => ?_, h4⟩
 rw [h3 i hi, h.a i hi, h1]
 by_cases hc : Iu (Gg c i) = true
 ·simp only [hc, if_true]
  have ht : (s.rdy ++ e).take (d + 1) = s.rdy.take d ++ [(n : Int)] := by
   rw [List.take_append_of_le_length (by omega), List.take_add_one, List.getElem?_eq_getElem hd, he]
   rfl
  rw [ht, q15 c hp i n hi]
  simp
  omega
 ·simp [hc]
theorem Wq (p : Int) (L : List Int) : ∀ R : List Int, (R.map fun x => (p :: L).count x).sum = (R.map fun x => L.count x).sum + R.count p
 | [] => rfl
 | a :: R => by
  simp only [List.map_cons, List.sum_cons]
  rw [Wq p L R, List.count_cons, List.count_cons]
  by_cases hpa : p = a
  ·subst hpa; simp only [BEq.rfl, if_true]; omega
  ·have h1 : (p == a) = false := by simpa using hpa
   have h2 : (a == p) = false := by simpa using fun e => hpa e.symm
   rw [h1, h2]; simp only [Bool.false_eq_true, if_false]; omega
theorem q0E : ∀ (L R : List Int), R.Nodup → (R.map fun x => L.count x).sum ≤ L.length
 | [], R, _ => by
  have : ∀ R : List Int, (R.map fun x => ([] : List Int).count x).sum = 0 := by
   intro R
   induction R with
   | nil => rfl
   | cons a R ih => rw [List.map_cons, List.sum_cons, ih, List.count_nil]
  rw [this]; omega
 | p :: L, R, h => by
  have ih := q0E L R h
  have h1 := List.nodup_iff_count.1 h p
  rw [Wq]
  simp only [List.length_cons]; omega
theorem qAI {N n : Nat} {c : E5} : ∀ {r : Jf} {s : LS}, s.out.length = N → s.left.length = N → (∀ p ∈ r, ∃ i : Nat, i < N ∧ p.1 = i) → (∀ i : Nat, i < N → Iu (Gg c i) = true → (Nj i r : Int) ≤ s.left.getD i 0) → s.left.getD n 0 ≤ 0 →
  (∀ i : Nat, i < N → s.left.getD i 0 ≤ 0 → (r.foldl (Ci c n) s).out.getD i 0 = s.out.getD i 0) ∧ (∀ i : Nat, i < N → s.out.getD i 0 ≤ (r.foldl (Ci c n) s).out.getD i 0) ∧ (∀ i : Nat, i < N → Iu (Gg c i) = true → 0 < Nj i r → s.out.getD n 0 + 1 ≤ (r.foldl (Ci c n) s).out.getD i 0)
 | [], s, ho, hl, _, _, _ => ⟨fun _ _ _ => rfl, fun _ _ => Int.le_refl _, fun i _ _ h => by simp [Nj] at h⟩
 | (p1, p2) :: r, s, ho, hl, hr, hc, hn => by
  obtain ⟨j, hj, he⟩ := hr (p1, p2) List.mem_cons_self
  simp only at he; subst he
  have cnt : ∀ i : Nat, Nj i ((↑j, p2) :: r) = Nj i r + if j = i then 1 else 0 := fun i => by
   by_cases hij : j = i
   ·subst hij; simp [Nj]
   ·have : ¬ ((j : Int) = i) := by omega
    simp [Nj, hij, this]
  simp only [List.foldl_cons]
  by_cases hcj : Iu (Gg c j) = true
  case neg =>
   have hs : Ci c n s (↑j, p2) = s := by unfold Ci; simp [hcj]
   rw [hs]
   obtain ⟨a1, a2, a3⟩ := qAI (n := n) (c := c) (r := r) ho hl (fun p hp => hr p (List.mem_cons_of_mem _ hp)) (fun i hi hci => by have := hc i hi hci; rw [cnt] at this; omega) hn
   refine ⟨a1, a2, fun i hi hci h => a3 i hi hci ?_⟩
   rw [cnt] at h
   have : ¬ j = i := fun e => hcj (e ▸ hci)
   simpa [this] using h
  have hj1 := hc j hj hcj
  rw [cnt, if_pos rfl] at hj1
  have hnj : ¬ n = j := fun e => by subst e; omega
  have so : ∀ i : Nat, (Ci c n s (↑j, p2)).out.getD i 0 = if i = j then max (s.out.getD j 0) (s.out.getD n 0 + 1) else s.out.getD i 0 := fun i => by
   unfold Ci
   simp only [Int.toNat_natCast, hcj, if_true]
   rw [Oa (by omega)]
  have sl : ∀ i : Nat, (Ci c n s (↑j, p2)).left.getD i 0 = if i = j then s.left.getD j 0 - 1 else s.left.getD i 0 := fun i => by
   unfold Ci
   simp only [Int.toNat_natCast, hcj, if_true]
   rw [Oa (by omega)]
  have lo : (Ci c n s (↑j, p2)).out.length = N := by unfold Ci; simp [hcj, ho]
  have ll : (Ci c n s (↑j, p2)).left.length = N := by unfold Ci; simp [hcj, hl]
  obtain ⟨a1, a2, a3⟩ := qAI (n := n) (c := c) (r := r) lo ll (fun p hp => hr p (List.mem_cons_of_mem _ hp)) (fun i hi hci => by
   have := hc i hi hci
   rw [cnt] at this
   rw [sl]
   by_cases hij : i = j
   ·subst hij; simp only [if_true] at this ⊢; omega
   ·have h' : ¬ j = i := fun e => hij e.symm
    simp only [hij, h', if_false] at this ⊢; omega) (by rw [sl, if_neg hnj]; exact hn)
  refine ⟨fun i hi h0 => ?_, fun i hi => ?_, fun i hi hci h => ?_⟩
  ·have hij : ¬ i = j := fun e => by subst e; omega
   rw [a1 i hi (by rw [sl, if_neg hij]; exact h0), so, if_neg hij]
  ·have := a2 i hi
   rw [so] at this
   split at this
   ·rename_i e; subst e; omega
   ·exact this
  ·by_cases hij : i = j
   ·subst hij
    have := a2 i hi
    rw [so, if_pos rfl] at this
    omega
   ·have h' : ¬ j = i := fun e => hij e.symm
    rw [cnt, if_neg h'] at h
    have := a3 i hi hci (by omega)
    rw [so, if_neg hnj] at this
    exact this
def KI (c : E5) (d : Nat) (s : LS) : Prop := ∀ i : Nat, i < c.nodes.l.length → Iu (Gg c i) = true → ∀ q : Nat, (q : Int) ∈ Y9 c i → (q : Int) ∈ s.rdy.take d → s.out.getD q 0 + 1 ≤ s.out.getD i 0
theorem KI.next {c : E5} (hp : ∀ x ∈ c.nodes.l, ∀ p ∈ x.inn.l, 0 ≤ p ∧ p < c.nodes.l.length) {d : Nat} {s : LS} (h : JI c d s) (hk : KI c d s) (hd : d < s.rdy.length) : KI c (d + 1) ((Eu c (s.rdy.getD d 0).toNat).foldl (Ci c (s.rdy.getD d 0).toNat) s) := by
 obtain ⟨M, hli⟩ := h.li
 have hg : s.rdy.getD d 0 = s.rdy[d] := by simp [hd]
 rw [hg]
 obtain ⟨n, hn, he, hn0⟩ := hli.rd _ (List.getElem_mem hd)
 rw [he]
 simp only [Int.toNat_natCast]
 have hr : ∀ p ∈ Eu c n, ∃ i : Nat, i < c.nodes.l.length ∧ p.1 = i := by
  intro p hpp
  have hl := R1 c
  have e : Eu c n = (Dx c)[n]'(by omega) := by simp [Eu, List.getD, List.getElem?_eq_getElem (show n < (Dx c).length by omega)]
  rw [e] at hpp
  exact Ze c _ (List.getElem_mem _) p hpp
 have htk : s.rdy.take (d + 1) = s.rdy.take d ++ [(n : Int)] := by
  rw [List.take_add_one, List.getElem?_eq_getElem hd, he]; rfl
 have hnd : (s.rdy.take (d + 1)).Nodup := hli.nd.sublist (List.take_sublist _ _)
 have hcnt : ∀ i : Nat, i < c.nodes.l.length → Iu (Gg c i) = true → (Nj i (Eu c n) : Int) ≤ s.left.getD i 0 := by
  intro i hi hci
  have := q0E (Y9 c i) _ hnd
  rw [htk] at this
  simp only [List.map_append, List.sum_append, List.map_cons, List.map_nil, List.sum_cons, List.sum_nil] at this
  rw [h.a i hi, qBp c hi, q15 c hp i n hi]
  simp only [hci, if_true]
  omega
 obtain ⟨⟨e, h1⟩, _, _, _⟩ := q16 (M := M) (c := c) (n := n) (r := Eu c n) hli.ll hr h.b
 obtain ⟨a1, a2, a3⟩ := qAI (n := n) (c := c) hli.lo hli.ll hr hcnt hn0
 intro i hi hci q hq hqt
 rw [h1, List.take_append_of_le_length (by omega), htk] at hqt
 rcases List.mem_append.1 hqt with hqt | hqt
 ·obtain ⟨q', hq1, hq2, hq3⟩ := hli.rd _ (List.mem_of_mem_take hqt)
  have : q = q' := by omega
  subst this
  rw [a1 q hq1 hq3]
  have h4 := hk i hi hci q hq hqt
  have h5 := a2 i hi
  omega
 ·have : q = n := by simp at hqt; omega
  subst this
  rw [a1 q hn hn0]
  refine a3 i hi hci ?_
  rw [q15 c hp i q hi]
  exact List.count_pos_iff.2 hq
def qCY (c : E5) (i : Nat) : Int := (q13 c).2.out.getD i 0
theorem q67 {c : E5} (h : Q7 c = 0) : Dq c = 0 ∧ ¬ (q13 c).1 < c.nodes.l.length := by
 unfold Q7 at h
 split at h
 ·rename_i h1; exact absurd h h1
 split at h
 ·cases h
 ·rename_i h1 h2; exact ⟨by simpa using h1, h2⟩
def qGP (lt : Int → Int → Bool) : Nat → List Int → List Int
 | 0, l => l
 | j + 1, l => if lt (l.getD (j + 1) 0) (l.getD j 0) then qGP lt j (qGM l (j + 1) j) else l
def qGQ (lt : Int → Int → Bool) : Nat → Nat → List Int → List Int
 | 0, _, l => l
 | f + 1, i, l => qGQ lt f (i + 1) (qGP lt i l)
def rng (n : Nat) : List Int := (List.range n).map fun i : Nat => (i : Int)
def qGR (c : E5) (a b : Int) : Bool := decide (qCY c a.toNat < qCY c b.toNat)
def qE5 (c : E5) : List Int := qGQ (qGR c) (c.nodes.l.length - 1) 1 (rng c.nodes.l.length)
def qE6 (c : E5) (nets : List Int) (i : Nat) : List Int := (Y9 c i).map fun k => nets.getD k.toNat 0
def qGS (c : E5) (nets : List Int) (n : Int) : List Int := if Iu (Gg c n.toNat) then nets.set n.toNat (qGO (Gg c n.toNat) (qE6 c nets n.toNat)) else nets
def qHb (c : E5) (order init : List Int) : List Int := order.foldl (qGS c) init
def q84 : List Int → List Int → List Int → List Int
 | n :: ns, v :: vs, nets => q84 ns vs (nets.set n.toNat v)
 | _, _, nets => nets
def q7G (c : E5) : List Int := ofL [0] c.nodes.l 0
def qGT (c : E5) (pin pst : List Int) : List Int := q84 (q7C c) pst (q84 (q7G c) pin (List.replicate c.nodes.l.length 0))
end Go.Lg
namespace Go.Lg
open Go
section
variable {P : Program} {Γ : Tables} {Q : AX → St → Prop} {s : St}
/- probecard/logic.Known (function 61) -/
abbrev Ws : IC := (.seq (.reg [od 2 (.mv kF)] [kp [0] []]) (.seq (.reg [om 3 0, od 4 (.bin .leq (tm 3) (ku 1)), om 2 4] [kp [2] []]) .ret))
def Wt : List RV := [.tmp 2]
/- probecard/logic.Not (function 46) -/
abbrev q0F : IC := (.seq (.reg [od 2 (.mv (ku 0))] [kp [0] []]) (.seq (.seq (.reg [om 3 0, od 4 (.call 61 [(tm 3)])] [kp [0, 4] []]) (.cond (tm 4) (.seq (.reg [om 5 0, od 6 (.bin .sub (ku 1) (tm 5)), om 2 6] [kp [2] []]) .ret) .skip)) (.seq (.reg [od
 2 (.mv (ku 2))] [kp [2] []]) .ret)))
def Uw : List RV := [.tmp 2]
end
end Go.Lg
namespace Go.Lg
open Go Go.Proofs
theorem q20 : Ax Tryd.prog 61 Ws 5 1 Wt = true := by kernel_rfl
theorem q3i : Ax Tryd.prog 46 q0F 7 1 Uw = true := by kernel_rfl
end Go.Lg
namespace Go.Lg
open Go Go.Proofs
variable {Γ : Tables}
theorem q7H (v : Int) : A5 Tryd.prog Γ 61 [tK v] (tB (q3F v)) := by
 refine Ah q20 rfl ?_
 simp [Ws, Wt, D2, q3F]
theorem qAJ (v : Int) (h0 : 0 ≤ v) : A5 Tryd.prog Γ 46 [tK v] (tK (q7D v)) := by
 refine Ah q3i rfl ?_
 simp [q0F]
 refine A4 (q7H v) rfl ?_
 by_cases h : v ≤ 1
 ·simp (disch := omega) [Uw, D2, q3F, q7D, h, q2F]
 ·simp (disch := omega) [Uw, D2, q3F, q7D, h, q2F]
abbrev Dz (l : List Int) : List (List T) := Dc tK l
def tV (s : Sl Int) : T := .sl (Dz s.l) s.cap s.nl
theorem ge1 {f : Int → T} {l : List Int} {i : Nat} (hi : i < l.length) : (Dc f l)[i]?.getD [] = [f (l.getD i 0)] := by
 have hget := He (f := f) 0 hi
 have hgg : l[i]?.getD 0 = l.getD i 0 := by simp [List.getD_eq_getElem?_getD]
 rw [hgg] at hget
 exact hget
end Go.Lg
namespace Go.Lg
open Go
section
variable {P : Program} {Γ : Tables} {Q : AX → St → Prop} {s : St}
/- probecard/netlists.Inputs (function 45) -/
abbrev Q8 : IC := (.seq (.reg [od 1 (.box true (tm 0)), od 2 (.mv kN)] [kp [1] []]) (.seq (.reg [od 3 (lG 4 1), od 4 (.bsl true 69 1 [(ku 0)]), od 5 (.call 30 [(tm 3), (tm 4)]), om 2 5] [kp [2] []]) .ret))
def Q9 : List RV := [.tmp 2]
end
end Go.Lg
namespace Go.Lg
open Go Go.Proofs
theorem Y2 : Ax Tryd.prog 45 Q8 6 1 Q9 = true := by kernel_rfl
end Go.Lg
namespace Go.Lg
open Go Go.Proofs
variable {Γ : Tables}
@[simp] theorem qGU {s : Nat} {e : List T} : Gk s [e] = (e.length = s) := propext ⟨fun h => h e List.mem_cons_self, fun h x hx => by simp at hx; subst hx; exact h⟩
def qE7 (nets : List Int) (n : Int) : Int := if n < 0 ∨ (nets.length : Int) ≤ n then 2 else q14 (nets.getD n.toNat 0)
def qGV (c : E5) (nets : List Int) (n : Int) : Int := if (Y9 c n.toNat).length = 1 then q3E (qE7 nets ((Y9 c n.toNat).getD 0 0)) else 2
def qAK (c : E5) (nets : List Int) : List Int := (q7C c).map (qGV c nets)
def nd (c : E5) (n : Int) : Nd := c.nodes.l.getD n.toNat Nd.d
end Go.Lg
namespace Go.Lg
open Go
section
variable {P : Program} {Γ : Tables} {Q : AX → St → Prop} {s : St}
/- probecard/probecardlaw06.Same (function 12) -/
abbrev Ya : IC := .gh (.seq (.seq (.reg [om 11 5, om 12 0, od 13 (le 0 12), od 14 (.bin .lss (tm 11) (tm 13))] [kp [0, 1, 5, 14] []]) (.cond (tm 14) .skip (.exit 0))) (.seq (.block 1 (.seq (.reg [om 17 0, om 18 5, od 19 (ia 1 17 18), od 20 (ld 1
 19), om 21 1, om 22 5, od 23 (ia 1 21 22), od 24 (ld 1 23), od 25 (.bin .neq (tm 20) (tm 24))] [kp [0, 1, 5, 25] []]) (.cond (tm 25) (.seq (.reg [od 4 (.mv (ki 1))] [kp [4] []]) .ret) .skip))) (.reg [om 15 5, od 16 (.bin .add (tm
 15) (ki 1)), om 5 16] [kp [0, 1, 5] []]))) [kp [0, 1, 5] []]
def Ns : IC := .loop Ya
abbrev S7 : IC := (.seq (.reg [od 4 (.mv (ki 0))] [kp [0, 1] []]) (.seq (.seq (.reg [om 6 0, od 7 (le 0 6), om 8 1, od 9 (le 0 8), od 10 (.bin .neq (tm 7) (tm 9))] [kp [0, 1, 10] []]) (.cond (tm 10) (.seq (.reg [od 4 (.mv (ki 1))] [kp [4] []]) .ret)
 .skip)) (.seq (.seq (.reg [od 5 (.mv (ki 0))] [kp [0, 1, 5] []]) (.block 0 Ns)) (.seq (.reg [od 4 (.mv (ki 0))] [kp [4] []]) .ret))))
theorem R7 (h : ∀ K : St → Prop, K = run P Γ Ns Q → run P Γ Ya (B5 K Q) s) : run P Γ Ns Q s := Au h
def Nu : List RV := [.tmp 4]
end
end Go.Lg
namespace Go.Lg
open Go Go.Proofs
theorem q3G : Ax Tryd.prog 12 S7 26 2 Nu = true := by kernel_rfl
end Go.Lg
namespace Go.Lg
open Go Go.Proofs
variable {Γ : Tables}
def q4Y (a b : List Int) : Int := if a = b then 0 else 1
theorem qAL {a b : List Int} (hl : a.length = b.length) (h : ∀ j, j < a.length → a.getD j 0 = b.getD j 0) : a = b := by
 refine List.ext_getElem hl fun i h1 h2 => ?_
 have := h i h1
 rwa [q2G h1, q2G h2] at this
theorem q4Z {Q : AX → St → Prop} (a b : Sl Int) (hl : a.l.length ≤ 1000000000) (he : a.l.length = b.l.length)
  (h0 : a.l = b.l → Q (.exit 0) ⟨[(0, .t (tV a)), (1, .t (tV b)), (5, .t (tI a.l.length)), (14, .t (tB false))], []⟩)
  (h1 : a.l ≠ b.l → Q .ret ⟨[(4, .t (tI 1))], []⟩) : ∀ (k i : Nat), k + i = a.l.length → (∀ j, j < i → a.l.getD j 0 = b.l.getD j 0) →
  run Tryd.prog Γ Ns Q ⟨[(0, .t (tV a)), (1, .t (tV b)), (5, .t (tI i))], []⟩
 | 0, i, h, hp => by
  refine R7 fun K hK => ?_
  have h2 : i = a.l.length := by omega
  subst h2
  simp [tV, A3]
  exact h0 (qAL he hp)
 | k + 1, i, h, hp => by
  refine R7 fun K hK => ?_
  have h2 : i < a.l.length := by omega
  have h3 : i < b.l.length := by omega
  have e1 := ge1 (f := tK) h2
  have e2 := ge1 (f := tK) h3
  by_cases hv : a.l.getD i 0 = b.l.getD i 0
  ·have ih := q4Z a b hl he h0 h1 k (i + 1) (by omega) (fun j hj => by
    rcases Nat.lt_succ_iff_lt_or_eq.1 hj with hj | rfl
    ·exact hp j hj
    ·exact hv)
   rw [hv] at e1
   generalize b.l.getD i 0 = v at *
   simp (disch := omega) [h2, h3, tV, A3, Ad, e1, e2, A7]
   rw [hK]
   simpa [tV] using ih
  ·have hne : a.l ≠ b.l := fun e => hv (by rw [e])
   generalize b.l.getD i 0 = v at *
   generalize a.l.getD i 0 = u at *
   simp (disch := omega) [h2, h3, tV, A3, Ad, e1, e2, A7, hv]
   exact h1 hne
theorem q4a (a b : Sl Int) (hl : a.l.length ≤ 1000000000) : A5 Tryd.prog Γ 12 [tV a, tV b] (tI (q4Y a.l b.l)) := by
 refine Ah q3G rfl ?_
 by_cases he : a.l.length = b.l.length
 ·have g := fun Q h0 h1 => q4Z (Γ := Γ) (Q := Q) a b hl he h0 h1 a.l.length 0 (by omega) (by simp)
  simp [S7, tV, A3, he]
  simp only [tV] at g
  refine g _ (fun h => ?_) (fun h => ?_)
  ·simp [Nu, D2, q4Y, h]
  ·simp [Nu, D2, q4Y, h]
 ·have hne : ¬ a.l = b.l := fun e => he (by rw [e])
  have he' : ¬ (a.l.length : Int) = b.l.length := by omega
  simp [S7, tV, A3, he, he', Nu, D2, q4Y, hne]
def v1 (v : Int) : Sl Int := ⟨[v], none, none⟩
end Go.Lg
namespace Go.Lg
open Go Go.Proofs Go.Proofs.YtnhlpeiadcojmaaDoor
theorem qBq : Rd Tryd.prog 22 fun ts => ∃ s : Sl Int, ts = [tV s] ∧ ∀ b ∈ s.l, Byt b := by
 refine (qA5 Tryd.underlying22 qDz (by decide) qHU).mono fun ts ⟨es, cap, nl, h, _, hes⟩ => ?_
 obtain ⟨l, rfl, hl⟩ := q83 (f := fun n : Int => [tK n]) (Q := Byt) fun x hx => (hes x hx).1
 exact ⟨⟨l, cap, nl⟩, h, hl⟩
end Go.Lg
namespace Go.Proofs.YtnhlpeiadcojmaaDoor
open Go Go.Lg Go.ChangeShapes Go.WideShapes Go.ChangeAt Go.RowKit
theorem qE8 {H : Type} {enc : TypeId × Value → H} {W : World} {base : Nat} {v : Value} {d : DataW H} {p : List MemPlace} (hval : Value.okWide Tryd.prog W .any base 22 v) (h : DataW.Trod enc Tryd.prog W 0 (fun _ => true) true 22 v d p) : ∃ s : Sl Int, (∀ b ∈ s.l, Byt b) ∧ TR W (Old W) (tV s) v := by
 obtain ⟨a, len, cap, rfl⟩ := okWide_slice Tryd.underlying22 hval
 obtain ⟨fuel, hf⟩ := h
 obtain ⟨ts, ⟨s, rfl, hs⟩, htr, _⟩ := qBq H enc W true fuel _ _ hf
 obtain ⟨y, ys, he, hy, _⟩ := htr.cons_inv
 simp [Value.cells] at he
 exact ⟨s, hs, by rw [he.1]; exact hy⟩
theorem Ux {P : Program} {x : String × DataW Unit} {l : List (String × DataW Unit)} {w : World} (h : laidMet P (x :: l) w) : laidMet P l w := by
 obtain ⟨ps, hv, hn, hm⟩ := h
 obtain ⟨n, d⟩ := x
 obtain ⟨g, t, cs, fuel, p, q, h1, h2, h3, h4, h5, rfl⟩ := hv
 exact ⟨q, h5, (List.nodup_append.1 hn).2.1, fun b off hq => hm b off (List.mem_append_right _ hq)⟩
noncomputable def qE9 (os : Os) : World :=
 { q4X os with heap := (((q4X os).heap.modify 0 fun
   | .cells _ t frozen => .cells ([.int .u64 1, .int .u64 10, .int .u64 100, .int .u64 1000, .int .u64 10000, .int .u64 100000, .int .u64 1000000, .int .u64 10000000, .int .u64 100000000, .int .u64 1000000000, .int .u64 10000000000, .int .u64 100000000000, .int .u64 1000000000000, .int .u64 10000000000000, .int .u64 100000000000000, .int .u64 1000000000000000, .int .u64 10000000000000000, .int .u64 100000000000000000, .int .u64 1000000000000000000, .int .u64 10000000000000000000] : List Value).toArray t frozen
   | o => o).modify 2 fun
   | .cells _ t frozen => .cells ([.int .u8 0, .int .u8 1, .int .u8 28, .int .u8 2, .int .u8 29, .int .u8 14, .int .u8 24, .int .u8 3, .int .u8 30, .int .u8 22, .int .u8 20, .int .u8 15, .int .u8 25, .int .u8 17, .int .u8 4, .int .u8 8, .int .u8 31, .int .u8 27, .int .u8 13, .int .u8 23, .int .u8 21, .int .u8 19, .int .u8 16, .int .u8 7, .int .u8 26, .int .u8 12, .int .u8 18, .int .u8 6, .int .u8 11, .int .u8 5, .int .u8 10, .int .u8 9] : List Value).toArray t frozen
   | o => o).modify 3 fun
   | .cells _ t frozen => .cells ([.int .u8 0, .int .u8 1, .int .u8 56, .int .u8 2, .int .u8 57, .int .u8 49, .int .u8 28, .int .u8 3, .int .u8 61, .int .u8 58, .int .u8 42, .int .u8 50, .int .u8 38, .int .u8 29, .int .u8 17, .int .u8 4, .int .u8 62, .int .u8 47, .int .u8 59, .int .u8 36, .int .u8 45, .int .u8 43, .int .u8 51, .int .u8 22, .int .u8 53, .int .u8 39, .int .u8 33, .int .u8 30, .int .u8 24, .int .u8 18, .int .u8 12, .int .u8 5, .int .u8 63, .int .u8 55, .int .u8 48, .int .u8 27, .int .u8 60, .int .u8 41, .int .u8 37, .int .u8 16, .int .u8 46, .int .u8 35, .int .u8 44, .int .u8 21, .int .u8 52, .int .u8 32, .int .u8 23, .int .u8 11, .int .u8 54, .int .u8 26, .int .u8 40, .int .u8 15, .int .u8 34, .int .u8 20, .int .u8 31, .int .u8 10, .int .u8 25, .int .u8 14, .int .u8 19, .int .u8 9, .int .u8 13, .int .u8 8, .int .u8 7, .int .u8 6] : List Value).toArray t frozen
   | o => o }
end Go.Proofs.YtnhlpeiadcojmaaDoor
namespace Go.Lg
open Go Go.Proofs
structure NG (B : Bool) (ns : List Nd) (i : Nat) (x : Nd) : Prop where
 k : 0 ≤ x.k ∧ x.k ≤ 15
 f : (fan x.k).1 ≤ x.inn.l.length ∧ (x.inn.l.length : Int) ≤ (fan x.k).2
 inn : ∀ p ∈ x.inn.l, 0 ≤ p ∧ p < ns.length
 top : 1 ≤ x.k ∧ x.k ≤ 13 → ∀ p ∈ x.inn.l, p < i
 bus : x.k = 13 → ∀ p ∈ x.inn.l, (ns.getD p.toNat Nd.d).k = 12
 mm : (x.k ≠ 15 → x.mem = 0 ∧ x.bit = 0) ∧ (x.k = 15 → B = true ∧ x.mem = 0 ∧ 0 ≤ x.bit ∧ x.bit ≤ 1)
theorem NG.mono {B : Bool} {ns ys : List Nd} {i : Nat} {x : Nd} (h : NG B ns i x) : NG B (ns ++ ys) i x :=
 ⟨h.k, h.f, fun p hp => by have := h.inn p hp; simp; omega, h.top, fun hk p hp => by
  have h1 := h.inn p hp
  rw [List.getD_eq_getElem?_getD, List.getElem?_append_left (by omega), ← List.getD_eq_getElem?_getD]
  exact h.bus hk p hp, h.mm⟩
def GNs (B : Bool) (ns : List Nd) : Prop := ∀ i (h : i < ns.length), NG B ns i ns[i]
theorem GNs.add {B : Bool} {ns : List Nd} {y : Nd} (h : GNs B ns) (hy : NG B (ns ++ [y]) ns.length y) : GNs B (ns ++ [y]) := by
 intro i hi
 by_cases h1 : i < ns.length
 ·rw [List.getElem_append_left h1]; exact (h i h1).mono
 ·have : i = ns.length := by simp at hi; omega
  subst this
  simpa using hy
end Go.Lg
namespace Go.Lg
open Go Go.Proofs
variable {Γ : Tables}
theorem Blw.below {a b : Int} (h : Blw a b) : qAG a b = true := by
 unfold qAG
 rcases h with rfl | rfl
 ·simp
 ·simp [q14]
theorem q7E.map {α : Type} {f g : α → Int} {l : List α} (h : ∀ x ∈ l, Blw (f x) (g x)) : q7E (l.map f) (l.map g) := by
 refine ⟨by simp, fun i => ?_⟩
 by_cases hi : i < l.length
 ·rw [q2G (by simpa using hi), q2G (by simpa using hi), List.getElem_map, List.getElem_map]
  exact h _ (List.getElem_mem hi)
 ·rw [List.getD_eq_getElem?_getD, List.getD_eq_getElem?_getD, List.getElem?_eq_none (by simp; omega), List.getElem?_eq_none (by simp; omega)]
  exact .refl _
end Go.Lg
namespace Go.Lg
open Go Go.Proofs
structure T3 where
 a : Int
 b : Int
 d : Int
deriving DecidableEq
def qBr (c : E5) (rd : List (List Int)) : List Int := (mems c).map fun n => (rd.getD (nd c n).mem.toNat []).getD (nd c n).bit.toNat 0
def qGW (c : E5) (pin pst : List Int) (rd : List (List Int)) : List Int := q84 (mems c) (qBr c rd) (qGT c pin pst)
def qGX (c : E5) (pin pst : List Int) (rd : List (List Int)) : List Int := qHb c (qE5 c) (qGW c pin pst rd)
def q7I : Nat → List Int → Bool
 | i, [] => decide (i = 0)
 | i, v :: l => if v ≤ 1 ∧ v ≠ (i : Int) % 2 then false else q7I (i / 2) l
def qCZ (a b : Int) : Int := if a = b then a else 2
def qBs (w : List Int) (b : Nat) : Int := if b < w.length then q3E (w.getD b 0) else 2
def qCa (w : List Int) (first : Bool) : Nat → Nat → List Int → List Int
 | 0, _, out => out
 | k + 1, b, out => qCa w first k (b + 1) (out.set b (if first then qBs w b else qCZ (out.getD b 0) (qBs w b)))
def qCb (addr : List Int) : Nat → List (List Int) → List Int × Bool → List Int × Bool
 | _, [], s => s
 | i, w :: ws, s => qCb addr (i + 1) ws (if q7I i addr then (qCa w s.2 s.1.length 0 s.1, false) else s)
def qCc (words : List (List Int)) (addr : List Int) : List Int := match words with
 | [] => []
 | w :: ws => (qCb addr 0 (w :: ws) (List.replicate w.length 2, true)).1
def qGY (addr : List Int) (en : Int) : Bool := decide (en = 1) && !addr.any fun v => !q3F v
def qEA (i : Nat) (addr : List Int) (en old new : Int) : Int := if en = 0 ∨ q7I i addr = false then old else if qGY addr en = true then new else qCZ old new
def qAM (i : Nat) (addr data : List Int) (en : Int) (w : List Int) : Nat → Nat → List Int
 | 0, _ => []
 | k + 1, b => qEA i addr en (qBs w b) (qBs data b) :: qAM i addr data en w k (b + 1)
def q7J (addr data : List Int) (en : Int) : Nat → List (List Int) → List (List Int)
 | _, [] => []
 | i, w :: ws => qAM i addr data en w w.length 0 :: q7J addr data en (i + 1) ws
end Go.Lg
namespace Go.Lg
open Go
section
variable {P : Program} {Γ : Tables} {Q : AX → St → Prop} {s : St}
/- strconv.Itoa (function 25) -/
abbrev V7 : IC := (.seq (.reg [od 2 (.mv (.const (sV [])))] [kp [0] []]) (.seq (.reg [om 3 0, od 4 (.call 52 [(tm 3)]), om 2 4] [kp [2] []]) .ret))
def V8 : List RV := [.tmp 2]
/- internal/strconv.Itoa (function 52) -/
abbrev R9 : IC := (.seq (.reg [od 2 (.mv (.const (sV [])))] [kp [0] []]) (.seq (.reg [om 3 0, od 4 (.call 63 [(tm 3), (ki 10)]), om 2 4] [kp [2] []]) .ret))
def Rb : List RV := [.tmp 2]
/- internal/strconv.FormatInt (function 63) -/
end
end Go.Lg
namespace Go.Lg
open Go Go.Proofs
theorem q17 : Ax Tryd.prog 25 V7 5 1 V8 = true := by kernel_rfl
theorem Zh : Ax Tryd.prog 52 R9 5 1 Rb = true := by kernel_rfl
end Go.Lg
namespace Go.Lg
open Go Go.Proofs
variable {Γ : Tables}
abbrev Pnt := Int × Int
def qAN (l : List (Int × Pnt)) (n : Int) : Pnt := match l.find? (fun p => p.1 == n) with | some p => p.2 | none => (0, 0)
def qCd (l : List (Int × Pnt)) : Prop := ∀ p ∈ l, -1000000 ≤ p.2.1 ∧ p.2.1 ≤ 1000000 ∧ -1000000 ≤ p.2.2 ∧ p.2.2 ≤ 1000000
theorem qCd.at {l : List (Int × Pnt)} (h : qCd l) (n : Int) : -1000000 ≤ (qAN l n).1 ∧ (qAN l n).1 ≤ 1000000 ∧ -1000000 ≤ (qAN l n).2 ∧ (qAN l n).2 ≤ 1000000 := by
 unfold qAN
 split
 ·rename_i p hp
  exact h p (List.mem_of_find?_eq_some hp)
 ·simp
def rowAt : List Pnt := [(0, 0), (5, 0), (1, 0)]
def qGZ (l : List (Sl Int)) : List Int := (l.map fun s => s.l).flatten
end Go.Lg
namespace Go.Lg
open Go Go.Proofs
def m0 (c : E5) (ch : List (Sl Int)) : Nat := c.nodes.l.length + 1 + ch.length
end Go.Lg
namespace Go.Lg
open Go Go.Proofs
variable {Γ : Tables}
def Sl.z : Sl Int := ⟨[], none, none⟩
def Sm (B : Nat) (t : T3) : Prop := (0 ≤ t.a ∧ t.a ≤ B) ∧ (0 ≤ t.b ∧ t.b ≤ B) ∧ (0 ≤ t.d ∧ t.d ≤ B)
theorem Sm.mono {B C : Nat} (hBC : B ≤ C) {t : T3} (h : Sm B t) : Sm C t := by
 obtain ⟨⟨a0, a1⟩, ⟨b0, b1⟩, ⟨d0, d1⟩⟩ := h
 exact ⟨⟨a0, by omega⟩, ⟨b0, by omega⟩, ⟨d0, by omega⟩⟩
structure Stt where
 dff : Sl Int
 words : Sl (Sl (Sl Int))
 read : Sl (Sl Int)
def Stt.rd (s : Stt) : List (List Int) := s.read.l.map (·.l)
def Stt.ws (s : Stt) : List (List (List Int)) := s.words.l.map fun w => w.l.map (·.l)
def Sl.zz : Sl (Sl Int) := ⟨[], none, none⟩
def q18 (nets : List Int) (l : List Int) : List Int := l.map fun k => nets.getD k.toNat 0
structure q3H (c : E5) (s : Stt) : Prop where
 d : s.dff.l.length = (q7C c).length
 w : s.words.l.length = c.mems.l.length
 r : s.read.l.length = c.mems.l.length
 wl : ∀ i, i < c.mems.l.length → (s.words.l.getD i Sl.zz).l.length = 2 ^ (c.mems.l.getD i Mm.d).addr.l.length
 wr : ∀ i, i < c.mems.l.length → ∀ w ∈ (s.words.l.getD i Sl.zz).l, w.l.length = (c.mems.l.getD i Mm.d).data.l.length
 rl : ∀ i, i < c.mems.l.length → (s.read.l.getD i Sl.z).l.length = (c.mems.l.getD i Mm.d).data.l.length
 vd : ∀ v ∈ s.dff.l, 0 ≤ v ∧ v ≤ 2
 vw : ∀ w ∈ s.words.l, ∀ r ∈ w.l, ∀ v ∈ r.l, 0 ≤ v ∧ v ≤ 2
 vr : ∀ r ∈ s.read.l, ∀ v ∈ r.l, 0 ≤ v ∧ v ≤ 2
theorem q8z {c : E5} (h : Dq c = 0) : ∀ m ∈ c.mems.l, (1 ≤ m.addr.l.length ∧ m.addr.l.length ≤ 8) ∧ (1 ≤ m.data.l.length ∧ m.data.l.length ≤ 32) ∧ (∀ n ∈ m.addr.l, 0 ≤ n ∧ n < c.nodes.l.length) ∧ (∀ n ∈ m.data.l, 0 ≤ n ∧ n < c.nodes.l.length) ∧ 0 ≤ m.write ∧ m.write < c.nodes.l.length := by
 unfold Dq at h
 split at h
 ·cases h
 split at h
 ·cases h
 split at h
 ·rename_i h2; exact absurd h h2
 split at h
 ·rename_i h2; exact absurd h h2
 split at h
 ·rename_i h2; exact absurd h h2
 rename_i h2
 intro m hm
 have h3 := S5 (by simpa using h2) m hm
 unfold Lx at h3
 split at h3
 ·cases h3
 rename_i h4
 split at h3
 ·cases h3
 rename_i h5
 simp only [not_or, Bool.not_eq_true] at h4 h5
 obtain ⟨a1, a2⟩ := h4
 obtain ⟨a3, a4, a5⟩ := h5
 simp [Q4] at a1 a2
 simp [Oh] at a5
 refine ⟨⟨by have := List.length_pos_iff.2 a1.1; omega, by omega⟩, ⟨by have := List.length_pos_iff.2 a2.1; omega, by omega⟩, q07 a3, q07 a4, a5.1, a5.2⟩
structure MOk (c : E5) : Prop where
 ok : COk c
 lev : Q7 c = 0
 n : c.nodes.l.length ≤ 1000000
theorem MOk.mf {c : E5} (h : MOk c) : ∀ m ∈ c.mems.l, (1 ≤ m.addr.l.length ∧ m.addr.l.length ≤ 8) ∧ (1 ≤ m.data.l.length ∧ m.data.l.length ≤ 32) ∧ (∀ n ∈ m.addr.l, 0 ≤ n ∧ n < c.nodes.l.length) ∧ (∀ n ∈ m.data.l, 0 ≤ n ∧ n < c.nodes.l.length) ∧ 0 ≤ m.write ∧ m.write < c.nodes.l.length := q8z (q67 h.lev).1
theorem q4b {α : Type} {l : List α} {d : α} {i : Nat} (h : i < l.length) : l.getD i d ∈ l := by
 rw [show l.getD i d = l[i] by simp [List.getD_eq_getElem?_getD, h]]
 exact List.getElem_mem h
theorem q3H.words {c : E5} {s : Stt} (h : MOk c) (H : q3H c s) : ∀ w ∈ s.words.l, w.l.length ≤ 256 ∧ w.l ≠ [] ∧ ∀ r ∈ w.l, r.l.length ≤ 32 := by
 intro w hw
 obtain ⟨i, hi, rfl⟩ := List.getElem_of_mem hw
 have hi' : i < c.mems.l.length := by rw [← H.w]; exact hi
 have e : s.words.l.getD i Sl.zz = s.words.l[i] := by simp [List.getD_eq_getElem?_getD, hi]
 have h1 := H.wl i hi'
 have h2 := H.wr i hi'
 have h3 := h.mf _ (q4b (d := Mm.d) hi')
 rw [e] at h1 h2
 have h4 : 2 ^ (c.mems.l.getD i Mm.d).addr.l.length ≤ 2 ^ 8 := Nat.pow_le_pow_right (by omega) h3.1.2
 have h5 : 0 < 2 ^ (c.mems.l.getD i Mm.d).addr.l.length := Nat.pow_pos (by omega)
 exact ⟨by omega, fun e => by have := congrArg List.length e; rw [h1, List.length_nil] at this; omega, fun r hr => by rw [h2 r hr]; exact h3.2.1.2⟩
theorem q3H.reads {c : E5} {s : Stt} (h : MOk c) (H : q3H c s) : ∀ r ∈ s.read.l, r.l.length ≤ 32 := by
 intro r hr
 obtain ⟨i, hi, rfl⟩ := List.getElem_of_mem hr
 have hi' : i < c.mems.l.length := by rw [← H.r]; exact hi
 have e : s.read.l.getD i Sl.z = s.read.l[i] := by simp [List.getD_eq_getElem?_getD, hi]
 have h1 := H.rl i hi'
 have h3 := h.mf _ (q4b (d := Mm.d) hi')
 rw [e] at h1
 rw [h1]; exact h3.2.1.2
def qAO (R : List (List Int)) : Sl (Sl Int) := ⟨R.map fun r => ⟨r, none, none⟩, some R.length, none⟩
def qAP (nets : List Int) (ms : List Mm) (ws : List (Sl (Sl Int))) : List (Sl Int) := List.zipWith (fun m w => ⟨qCc (w.l.map (·.l)) (q18 nets m.addr.l), none, none⟩) ms ws
def qAQ (nets : List Int) (ms : List Mm) (ws : List (Sl (Sl Int))) : List (Sl (Sl Int)) := List.zipWith (fun m w => qAO (q7J (q18 nets m.addr.l) (q18 nets m.data.l) (nets.getD m.write.toNat 0) 0 (w.l.map (·.l)))) ms ws
def qAR (c : E5) (s : Stt) (nets : List Int) : Stt :=
 ⟨⟨qAK c nets, some (qAK c nets).length, none⟩, ⟨qAQ nets c.mems.l s.words.l, some c.mems.l.length, none⟩, ⟨qAP nets c.mems.l s.words.l, some c.mems.l.length, none⟩⟩
def qAS (c : E5) (s : Stt) (inn : List Int) : List Int := qGX c inn s.dff.l s.rd
def qAT (rel : Int → Int → Prop) (l m : List Int) : Prop := l.length = m.length ∧ ∀ i, i < l.length → rel (l.getD i 0) (m.getD i 0)
structure qEB (rel : Int → Int → Prop) (a b : Stt) : Prop where
 d : qAT rel a.dff.l b.dff.l
 rl : a.read.l.length = b.read.l.length
 r : ∀ i, i < a.read.l.length → qAT rel (a.read.l.getD i Sl.z).l (b.read.l.getD i Sl.z).l
 wl : a.words.l.length = b.words.l.length
 w : ∀ i, i < a.words.l.length → (a.words.l.getD i Sl.zz).l.length = (b.words.l.getD i Sl.zz).l.length ∧ ∀ j, j < (a.words.l.getD i Sl.zz).l.length → qAT rel ((a.words.l.getD i Sl.zz).l.getD j Sl.z).l ((b.words.l.getD i Sl.zz).l.getD j Sl.z).l
end Go.Lg
namespace Go.Lg
open Go Go.Proofs
def V3 (v : Int) : Prop := 0 ≤ v ∧ v ≤ 2
end Go.Lg
namespace Go.Lg
open Go Go.Proofs
variable {Γ : Tables}
theorem qCe {α : Type} {l : List α} (h : l.length = 1) : ∃ a, l = [a] := by
 match l, h with
 | [a], _ => exact ⟨a, rfl⟩
theorem q85 {α : Type} {l : List α} (h : l.length = 2) : ∃ a b, l = [a, b] := by
 match l, h with
 | [a, b], _ => exact ⟨a, b, rfl⟩
theorem V9 {c : E5} {s : Stt} (H : q3H c s) {m : Mm} (hm : c.mems.l = [m]) (ha : m.addr.l.length = 1) (hd : m.data.l.length = 2) :
  ∃ W r0 r1 a b cc d rd e f, s.words.l = [W] ∧ W.l = [r0, r1] ∧ r0.l = [a, b] ∧ r1.l = [cc, d] ∧ s.read.l = [rd] ∧ rd.l = [e, f] ∧ V3 a ∧ V3 b ∧ V3 cc ∧ V3 d ∧ V3 e ∧ V3 f := by
 have hl : c.mems.l.length = 1 := by rw [hm]; rfl
 obtain ⟨W, hW⟩ := qCe (H.w.trans hl)
 obtain ⟨rd, hr⟩ := qCe (H.r.trans hl)
 have wl := H.wl 0 (by omega)
 have wr := H.wr 0 (by omega)
 have rl := H.rl 0 (by omega)
 have em : c.mems.l.getD 0 Mm.d = m := by rw [hm]; rfl
 have eW : s.words.l.getD 0 Sl.zz = W := by rw [hW]; rfl
 have er : s.read.l.getD 0 Sl.z = rd := by rw [hr]; rfl
 rw [eW, em, ha] at wl
 rw [eW, em, hd] at wr
 rw [er, em, hd] at rl
 obtain ⟨r0, r1, hW2⟩ := q85 (show W.l.length = 2 from wl)
 obtain ⟨e, f, hrd⟩ := q85 rl
 obtain ⟨a, b, h0⟩ := q85 (wr r0 (by rw [hW2]; simp))
 obtain ⟨cc, d, h1⟩ := q85 (wr r1 (by rw [hW2]; simp))
 have v0 := H.vw W (by rw [hW]; simp) r0 (by rw [hW2]; simp)
 have v1 := H.vw W (by rw [hW]; simp) r1 (by rw [hW2]; simp)
 have v2 := H.vr rd (by rw [hr]; simp)
 exact ⟨W, r0, r1, a, b, cc, d, rd, e, f, hW, hW2, h0, h1, hr, hrd, v0 a (by rw [h0]; simp), v0 b (by rw [h0]; simp), v1 cc (by rw [h1]; simp), v1 d (by rw [h1]; simp), v2 e (by rw [hrd]; simp), v2 f (by rw [hrd]; simp)⟩
theorem q7E.rel {a b : List Int} (h : q7E a b) : qAT Blw a b := ⟨h.1, fun i _ => h.2 i⟩
end Go.Lg
namespace Go.Lg
open Go Go.Proofs
structure Wu (a b : Stt) : Prop where
 d : a.dff.l = b.dff.l
 w : a.ws = b.ws
 r : a.rd = b.rd
theorem Wu.refl (a : Stt) : Wu a a := ⟨rfl, rfl, rfl⟩
theorem Wu.symm {a b : Stt} (h : Wu a b) : Wu b a := ⟨h.d.symm, h.w.symm, h.r.symm⟩
theorem Wu.trans {a b d : Stt} (h : Wu a b) (g : Wu b d) : Wu a d := ⟨h.d.trans g.d, h.w.trans g.w, h.r.trans g.r⟩
theorem q3I {nets : List Int} : ∀ {ms : List Mm} {ws : List (Sl (Sl Int))}, qAP nets ms ws = List.zipWith (fun m w => ⟨qCc w (q18 nets m.addr.l), none, none⟩) ms (ws.map fun w => w.l.map (·.l))
 | [], _ => rfl
 | _ :: _, [] => rfl
 | m :: ms, w :: ws => by
  have := q3I (nets := nets) (ms := ms) (ws := ws)
  unfold qAP at this ⊢
  simp only [List.zipWith_cons_cons, List.map_cons, this]
theorem q3J {nets : List Int} : ∀ {ms : List Mm} {ws : List (Sl (Sl Int))}, qAQ nets ms ws = List.zipWith (fun m w => qAO (q7J (q18 nets m.addr.l) (q18 nets m.data.l) (nets.getD m.write.toNat 0) 0 w)) ms (ws.map fun w => w.l.map (·.l))
 | [], _ => rfl
 | _ :: _, [] => rfl
 | m :: ms, w :: ws => by
  have := q3J (nets := nets) (ms := ms) (ws := ws)
  unfold qAQ at this ⊢
  simp only [List.zipWith_cons_cons, List.map_cons, this]
theorem Wu.nets {c : E5} {a b : Stt} (h : Wu a b) (i : List Int) : qAS c a i = qAS c b i := by unfold qAS; rw [h.d, h.r]
theorem Wu.next {c : E5} {a b : Stt} (h : Wu a b) (N : List Int) : qAR c a N = qAR c b N := by
 unfold qAR
 rw [q3I, q3I, q3J, q3J]
 have hw := h.w
 unfold Stt.ws at hw
 rw [hw]
theorem Zi {a b : List (Sl Int)} (h : a.map (·.l) = b.map (·.l)) (i : Nat) : (a.getD i Sl.z).l = (b.getD i Sl.z).l := by
 have := congrArg (fun x => x.getD i []) h
 simp only [List.getD_eq_getElem?_getD, List.getElem?_map] at this ⊢
 cases ha : a[i]? <;> cases hb : b[i]? <;> simp [ha, hb] at this ⊢ <;> first | exact this | (simp [Sl.z, this])
theorem P9 {α β : Type} {f : α → β} {a b : List α} (h : a.map f = b.map f) : a.length = b.length := by
 have := congrArg List.length h
 simpa using this
theorem Zj {a b : List (Sl (Sl Int))} (h : (a.map fun w => w.l.map (·.l)) = b.map fun w => w.l.map (·.l)) (i : Nat) : (a.getD i Sl.zz).l.map (·.l) = (b.getD i Sl.zz).l.map (·.l) := by
 have := congrArg (fun x => x.getD i []) h
 simp only [List.getD_eq_getElem?_getD, List.getElem?_map] at this ⊢
 cases ha : a[i]? <;> cases hb : b[i]? <;> simp [ha, hb] at this ⊢ <;> first | exact this | (simp [Sl.zz, this])
theorem qAU {a b : List Int} (h : a = b) : qAT (· = ·) a b := by subst h; exact ⟨rfl, fun _ _ => rfl⟩
theorem Wu.rel {a b : Stt} (h : Wu a b) : qEB (· = ·) a b := by
 have hw := h.w
 have hr := h.r
 unfold Stt.ws at hw
 unfold Stt.rd at hr
 refine ⟨qAU h.d, P9 hr, fun i _ => qAU (Zi hr i), P9 hw, fun i _ => ?_⟩
 have := Zj hw i
 exact ⟨P9 this, fun j _ => qAU (Zi this j)⟩
theorem q19 {a b : List (Sl Int)} (h : a.map (·.l) = b.map (·.l)) {r : Sl Int} (hr : r ∈ a) : ∃ q ∈ b, q.l = r.l := by
 have : r.l ∈ b.map (·.l) := by rw [← h]; exact List.mem_map.2 ⟨r, hr, rfl⟩
 obtain ⟨q, hq, e⟩ := List.mem_map.1 this
 exact ⟨q, hq, e⟩
theorem Wu.ok {c : E5} {a b : Stt} (h : Wu a b) (H : q3H c b) : q3H c a := by
 have hw := h.w
 have hr := h.r
 unfold Stt.ws at hw
 unfold Stt.rd at hr
 refine ⟨by rw [h.d, H.d], (P9 hw).trans H.w, (P9 hr).trans H.r, fun i hi => (P9 (Zj hw i)).trans (H.wl i hi), fun i hi w hw' => ?_, fun i hi => by rw [Zi hr i]; exact H.rl i hi, by rw [h.d]; exact H.vd, fun w hw' r hr' => ?_, fun r hr' => ?_⟩
 ·obtain ⟨q, hq, e⟩ := q19 (Zj hw i) hw'
  rw [← e]; exact H.wr i hi q hq
 ·have : w.l.map (·.l) ∈ b.words.l.map fun w => w.l.map (·.l) := by rw [← hw]; exact List.mem_map.2 ⟨w, hw', rfl⟩
  obtain ⟨W, hW, e⟩ := List.mem_map.1 this
  obtain ⟨q, hq, e2⟩ := q19 e.symm hr'
  rw [← e2]; exact H.vw W hW q hq
 ·obtain ⟨q, hq, e⟩ := q19 hr hr'
  rw [← e]; exact H.vr q hq
def qGa (c : E5) (is : List (List Int)) : Prop := ∀ i ∈ is, i.length = (q7G c).length ∧ ∀ v ∈ i, V4 v
end Go.Lg
namespace Go.Lg
open Go Go.Proofs
variable {Γ : Tables}
theorem qEB.refl (s : Stt) : qEB (· = ·) s s := ⟨⟨rfl, fun _ _ => rfl⟩, rfl, fun _ _ => ⟨rfl, fun _ _ => rfl⟩, rfl, fun _ _ => ⟨rfl, fun _ _ => ⟨rfl, fun _ _ => rfl⟩⟩⟩
def qGb (c : E5) (l : List (Sl Int)) : Prop := ∀ x ∈ l, x.l.length = (q7G c).length ∧ ∀ v ∈ x.l, V4 v
theorem qGb.seq {c : E5} {l : List (Sl Int)} (h : qGb c l) : qGa c (l.map (·.l)) := fun i hi => by
 obtain ⟨x, hx, rfl⟩ := List.mem_map.1 hi
 exact h x hx
end Go.Lg
namespace Go.Proofs.YtnhlpeiadcojmaaDoor
open Go Go.Lg Go.ChangeShapes Go.WideShapes Go.ChangeAt Go.RowKit
theorem qHc {n : Int} (h : (Lit.int .u8 n).wf = true) : 0 ≤ n ∧ n ≤ 255 := by
 simp only [Lit.wf, Bool.and_eq_true, decide_eq_true_eq] at h
 have h1 : IntKind.u8.min = 0 := by decide
 have h2 : IntKind.u8.max = 255 := by decide
 omega
end Go.Proofs.YtnhlpeiadcojmaaDoor
namespace Go.Lg
def q7K (v : Int) : Int := if v ≤ 1 then 1 - v else 2
def Ez (l : Int) : Nat := if l < 0 then (-l - 1).toNat else (l - 1).toNat
def Jc (a : List Int) (l : Int) : Int := if l < 0 then q7K (a.getD (Ez l) 0) else a.getD (Ez l) 0
def Vu (a : List Int) (l : Int) : List Int := a.set (Ez l) (if l < 0 then 0 else 1)
def E1 (a : List Int) : List Int → Int → Int → Bool → Int × Int × Bool
 | [], o, la, d => (o, la, d)
 | l :: cl, o, la, d => if Jc a l = 1 then E1 a cl o la true else if Jc a l = 2 then E1 a cl (if o = 0 ∨ l ≠ la then o + 1 else o) l d else E1 a cl o la d
def Gi : List Int → List Int → Bool → List (List Int) → Bool × List Int × List Int × Bool
 | a, tr, ag, [] => (true, a, tr, ag)
 | a, tr, ag, c :: cs =>
  let r := E1 a c 0 0 false
  if r.2.2 = true ∨ r.1 > 1 then Gi a tr ag cs
  else if r.1 = 0 then (false, a, tr, ag)
  else Gi (Vu a r.2.1) (tr ++ [r.2.1]) true cs
def Gj (cls : List (List Int)) : Nat → List Int → List Int → Bool × List Int × List Int
 | 0, a, tr => (true, a, tr)
 | n + 1, a, tr =>
  let r := Gi a tr false cls
  if r.1 = false then (false, r.2.1, r.2.2.1) else if r.2.2.2 = true then Gj cls n r.2.1 r.2.2.1 else (true, r.2.1, r.2.2.1)
def Da (a : List Int) (tr : List Int) : List Int := tr.foldl (fun a l => a.set (Ez l) 2) a
def Jd : List Int → Nat
 | [] => 0
 | v :: a => if v = 2 then 0 else Jd a + 1
def Bv (cls : List (List Int)) (lim : Int) : Nat → List Int → Int → Bool × List Int × Int × Bool
 | 0, a, u => (false, a, u, false)
 | f + 1, a, u =>
  let p := Gj cls (a.count 2 + 1) a []
  if p.1 = false then (false, Da p.2.1 p.2.2, u, false)
  else
   let v := Jd p.2.1
   if p.2.1.length ≤ v then (true, p.2.1, u, false)
   else if u = lim then (false, Da p.2.1 p.2.2, u, true)
   else
    let r1 := Bv cls lim f (p.2.1.set v 0) (u + 1)
    if r1.1 = true then r1
    else if r1.2.2.2 = true then (false, Da (r1.2.1.set v 2) p.2.2, r1.2.2.1, true)
    else
     let r2 := Bv cls lim f ((r1.2.1.set v 2).set v 1) r1.2.2.1
     if r2.1 = true then r2 else (false, Da (r2.2.1.set v 2) p.2.2, r2.2.2.1, r2.2.2.2)
def D7 (n : Nat) (l : Int) : Prop := l ≠ 0 ∧ -(n : Int) ≤ l ∧ l ≤ n
def q1p (n : Nat) (cls : List (List Int)) : Prop := ∀ c ∈ cls, ∀ l ∈ c, D7 n l
def CV3 (a : List Int) : Prop := ∀ v ∈ a, v = 0 ∨ v = 1 ∨ v = 2
def q21 (m : List Int) : Prop := ∀ v ∈ m, v = 0 ∨ v = 1
def q3K (a m : List Int) : Prop := m.length = a.length ∧ ∀ i, a.getD i 0 ≠ 2 → m.getD i 0 = a.getD i 0
def qCf (m : List Int) (c : List Int) : Prop := ∃ l ∈ c, Jc m l = 1
def q0G (m : List Int) (cls : List (List Int)) : Prop := ∀ c ∈ cls, qCf m c
theorem D7.pos {n : Nat} {l : Int} (h : D7 n l) : Ez l < n := by
 unfold D7 at h; unfold Ez; split <;> omega
theorem q0H {n : Nat} {l : Int} (h : D7 n l) : l = (Ez l : Int) + 1 ∨ l = -(Ez l : Int) - 1 := by
 unfold D7 at h; unfold Ez; split <;> omega
theorem Uy {α : Type} (a : List α) (i j : Nat) (x d : α) : (a.set i x).getD j d = if i = j ∧ i < a.length then x else a.getD j d := by
 simp only [List.getD_eq_getElem?_getD, List.getElem?_set]
 by_cases h : i = j
 ·subst h
  by_cases h2 : i < a.length
  ·simp [h2]
  ·simp [h2]
 ·simp [h]
theorem CV3.at {a : List Int} (h : CV3 a) (i : Nat) : a.getD i 0 = 0 ∨ a.getD i 0 = 1 ∨ a.getD i 0 = 2 := by
 by_cases hi : i < a.length
 ·rw [List.getD_eq_getElem?_getD, List.getElem?_eq_getElem hi]; exact h _ (List.getElem_mem hi)
 ·rw [List.getD_eq_getElem?_getD, List.getElem?_eq_none (by omega)]; exact .inl rfl
theorem CV3.set {a : List Int} (h : CV3 a) (i : Nat) {x : Int} (hx : x = 0 ∨ x = 1 ∨ x = 2) : CV3 (a.set i x) := fun v hv => by
 rcases List.mem_or_eq_of_mem_set hv with hv | rfl
 ·exact h v hv
 ·exact hx
theorem CV3.sat {a : List Int} (h : CV3 a) (l : Int) : CV3 (Vu a l) := h.set _ (by split <;> simp)
theorem q0I {a : List Int} (h : CV3 a) (l : Int) : Jc a l = 2 ↔ a.getD (Ez l) 0 = 2 := by
 unfold Jc q7K
 rcases h.at (Ez l) with e | e | e <;> rw [e] <;> split <;> simp
theorem q3K.val {a m : List Int} (he : q3K a m) (h : CV3 a) {l : Int} (hv : Jc a l ≠ 2) : Jc m l = Jc a l := by
 have h1 := he.2 (Ez l) fun e => hv ((q0I h l).2 e)
 unfold Jc
 rw [h1]
theorem qAV {m : List Int} (hm : q21 m) {l : Int} {n : Nat} (hl : D7 n l) (hn : m.length = n) (h : Jc m l = 1) : m.getD (Ez l) 0 = if l < 0 then 0 else 1 := by
 unfold Jc q7K at h
 have hp := hl.pos
 have : m.getD (Ez l) 0 = 0 ∨ m.getD (Ez l) 0 = 1 := by
  rw [List.getD_eq_getElem?_getD, List.getElem?_eq_getElem (by omega)]; exact hm _ (List.getElem_mem _)
 rcases this with e | e <;> rw [e] at h ⊢ <;> split <;> split at h <;> simp_all
theorem q3K.sat {n : Nat} {a m : List Int} (he : q3K a m) (hm : q21 m) {l : Int} (hl : D7 n l) (hn : a.length = n) (h : Jc m l = 1) : q3K (Vu a l) m := by
 refine ⟨by simp [Vu, he.1], fun i hi => ?_⟩
 unfold Vu at hi ⊢
 rw [Uy] at hi ⊢
 split
 ·rename_i hc
  rw [← hc.1]; exact qAV hm hl (he.1.trans hn) h
 ·rename_i hc
  rw [if_neg hc] at hi
  exact he.2 i hi
theorem Nk {a : List Int} (h3 : CV3 a) : ∀ (cl : List Int) (o la : Int) (d : Bool), 0 ≤ o →
  ((E1 a cl o la d).2.2 = true ↔ d = true ∨ ∃ l ∈ cl, Jc a l = 1) ∧ o ≤ (E1 a cl o la d).1 ∧ ((E1 a cl o la d).1 = 0 → ∀ l ∈ cl, Jc a l ≠ 2) ∧
  ((E1 a cl o la d).1 = 1 → (o = 1 → (E1 a cl o la d).2.1 = la) ∧ (o = 0 → (E1 a cl o la d).2.1 ∈ cl ∧ Jc a (E1 a cl o la d).2.1 = 2) ∧ ∀ l ∈ cl, Jc a l = 2 → l = (E1 a cl o la d).2.1) ∧ ((E1 a cl o la d).1 = o → o = 0 → (E1 a cl o la d).2.1 = la)
 | [], o, la, d, ho => by simp [E1]; omega
 | l :: cl, o, la, d, ho => by
  unfold E1
  split
  ·rename_i h1
   obtain ⟨i1, i2, i3, i4, i5⟩ := Nk h3 cl o la true ho
   refine ⟨?_, i2, fun e => ?_, fun e => ?_, i5⟩
   ·rw [i1]; simp [h1]
   ·intro x hx
    rcases List.mem_cons.1 hx with rfl | hx
    ·rw [h1]; decide
    ·exact i3 e x hx
   ·obtain ⟨j1, j2, j3⟩ := i4 e
    refine ⟨j1, fun e0 => ⟨List.mem_cons_of_mem _ (j2 e0).1, (j2 e0).2⟩, fun x hx h2 => ?_⟩
    rcases List.mem_cons.1 hx with rfl | hx
    ·rw [h1] at h2; cases h2
    ·exact j3 x hx h2
  ·split
   ·rename_i h1 h2
    by_cases hc : o = 0 ∨ l ≠ la
    ·rw [if_pos hc]
     obtain ⟨i1, i2, i3, i4, i5⟩ := Nk h3 cl (o + 1) l d (by omega)
     refine ⟨?_, by omega, fun e => by omega, fun e => ?_, fun e => by omega⟩
     ·rw [i1]; simp [h1]
     ·obtain ⟨j1, j2, j3⟩ := i4 e
      have ho1 : o = 0 := by omega
      have hla := j1 (by omega)
      refine ⟨fun e => by omega, fun _ => ⟨by rw [hla]; exact List.mem_cons_self, by rw [hla]; exact h2⟩, fun x hx hx2 => ?_⟩
      rcases List.mem_cons.1 hx with rfl | hx
      ·exact hla.symm
      ·exact j3 x hx hx2
    ·rw [if_neg hc]
     have hc2 : o ≠ 0 ∧ l = la := ⟨fun e => hc (.inl e), Classical.byContradiction fun e => hc (.inr e)⟩
     obtain ⟨hc1, rfl⟩ := hc2
     obtain ⟨i1, i2, i3, i4, i5⟩ := Nk h3 cl o l d ho
     refine ⟨?_, i2, fun e => by omega, fun e => ?_, fun e e0 => absurd e0 hc1⟩
     ·rw [i1]; simp [h1]
     ·obtain ⟨j1, j2, j3⟩ := i4 e
      refine ⟨j1, fun e => absurd e hc1, fun x hx hx2 => ?_⟩
      rcases List.mem_cons.1 hx with rfl | hx
      ·exact (j1 (by omega)).symm
      ·exact j3 x hx hx2
   ·rename_i h1 h2
    obtain ⟨i1, i2, i3, i4, i5⟩ := Nk h3 cl o la d ho
    refine ⟨?_, i2, fun e => ?_, fun e => ?_, i5⟩
    ·rw [i1]; simp [h1]
    ·intro x hx
     rcases List.mem_cons.1 hx with rfl | hx
     ·exact h2
     ·exact i3 e x hx
    ·obtain ⟨j1, j2, j3⟩ := i4 e
     refine ⟨j1, fun e0 => ⟨List.mem_cons_of_mem _ (j2 e0).1, (j2 e0).2⟩, fun x hx hx2 => ?_⟩
     rcases List.mem_cons.1 hx with rfl | hx
     ·exact absurd hx2 h2
     ·exact j3 x hx hx2
theorem q1A (a : List Int) (tr : List Int) : (Da a tr).length = a.length := by
 unfold Da
 induction tr generalizing a with
 | nil => rfl
 | cons l tr ih => simp [ih]
theorem q7L (a : List Int) (tr : List Int) (l : Int) : Da a (tr ++ [l]) = (Da a tr).set (Ez l) 2 := by simp [Da]
theorem q4c {i : Nat} : ∀ {tr : List Int} {a : List Int}, a.getD i 0 = 2 → (Da a tr).getD i 0 = 2
 | [], _, h => h
 | l :: tr, a, h => by
  show (Da (a.set (Ez l) 2) tr).getD i 0 = 2
  refine q4c ?_
  rw [Uy]; split
  ·rfl
  ·exact h
theorem q4d : ∀ {tr : List Int} {a : List Int} {i : Nat} {x : Int}, (Da (a.set i x) tr).set i 2 = (Da a tr).set i 2
 | [], a, i, x => by simp [Da]
 | l :: tr, a, i, x => by
  show (Da ((a.set i x).set (Ez l) 2) tr).set i 2 = (Da (a.set (Ez l) 2) tr).set i 2
  by_cases h : i = Ez l
  ·subst h; simp
  ·rw [List.set_comm _ _ h]; exact q4d
theorem Qa {a : List Int} {i : Nat} {x : Int} (h : a.getD i 0 = x) (hi : i < a.length) : a.set i x = a := by
 rw [List.getD_eq_getElem?_getD, List.getElem?_eq_getElem hi] at h
 simp at h; subst h; exact List.set_getElem_self hi
structure P2 (n : Nat) (a0 a tr : List Int) : Prop where
 v3 : CV3 a
 ln : a.length = n
 un : Da a tr = a0
 ok : ∀ l ∈ tr, D7 n l
 le : a.count 2 + tr.length = a0.count 2
theorem Ix {a : List Int} {i : Nat} {x : Int} (h : a.getD i 0 = 2) (hi : i < a.length) (hx : x ≠ 2) : (a.set i x).count 2 + 1 = a.count 2 := by
 induction a generalizing i with
 | nil => simp at hi
 | cons v a ih =>
  cases i with
  | zero => simp at h; subst h; simp [List.count_cons, hx]
  | succ i =>
   have := ih (i := i) (by simpa using h) (by simpa using hi)
   simp [List.count_cons]; omega
theorem P2.sat {n : Nat} {a0 a tr : List Int} (h : P2 n a0 a tr) {l : Int} (hl : D7 n l) (hv : Jc a l = 2) : P2 n a0 (Vu a l) (tr ++ [l]) := by
 have hp := hl.pos
 have h2 := (q0I h.v3 l).1 hv
 refine ⟨h.v3.sat l, by simp [Vu, h.ln], ?_, fun x hx => ?_, ?_⟩
 ·rw [q7L]
  unfold Vu
  rw [q4d, h.un]
  have := q4c (tr := tr) h2
  rw [h.un] at this
  refine Qa this ?_
  rw [← h.un, q1A, h.ln]; exact hp
 ·rcases List.mem_append.1 hx with hx | hx
  ·exact h.ok x hx
  ·simp at hx; subst hx; exact hl
 ·have := Ix (x := if l < 0 then 0 else 1) h2 (by rw [h.ln]; exact hp) (by split <;> decide)
  have h4 := h.le
  simp only [Vu, List.length_append, List.length_cons, List.length_nil]; omega
theorem Uz {n : Nat} {a0 : List Int} : ∀ {cls : List (List Int)} {a tr : List Int} {ag : Bool}, q1p n cls → P2 n a0 a tr →
  P2 n a0 (Gi a tr ag cls).2.1 (Gi a tr ag cls).2.2.1 ∧
  (∀ m, q21 m → q3K a m → q0G m cls → (Gi a tr ag cls).1 = true ∧ q3K (Gi a tr ag cls).2.1 m) ∧
  (∀ i, a.getD i 0 ≠ 2 → (Gi a tr ag cls).2.1.getD i 0 = a.getD i 0) ∧
  ((Gi a tr ag cls).2.2.2 = false → (Gi a tr ag cls).2.1 = a ∧ (Gi a tr ag cls).2.2.1 = tr ∧ ag = false ∧ ((Gi a tr ag cls).1 = true → ∀ c ∈ cls, (∃ l ∈ c, Jc a l = 1) ∨ ∃ l ∈ c, Jc a l = 2)) ∧
  ((Gi a tr ag cls).2.2.2 = true → ag = false → tr.length < (Gi a tr ag cls).2.2.1.length) ∧ tr.length ≤ (Gi a tr ag cls).2.2.1.length
 | [], a, tr, ag, hc, hp => by
  refine ⟨hp, fun m _ he _ => ⟨rfl, he⟩, fun i _ => rfl, fun e => ⟨rfl, rfl, e, fun _ c hc => by cases hc⟩, fun e e2 => ?_, Nat.le_refl _⟩
  have e : ag = true := e
  rw [e] at e2; cases e2
 | c :: cs, a, tr, ag, hc, hp => by
  have hcs : q1p n cs := fun x hx => hc x (List.mem_cons_of_mem _ hx)
  obtain ⟨s1, s2, s3, s4, _⟩ := Nk hp.v3 c 0 0 false (by omega)
  simp only [Gi]
  split
  ·rename_i hd
   obtain ⟨i1, i2, i3, i4, i5, i6⟩ := Uz (ag := ag) hcs hp
   refine ⟨i1, fun m hm he hs => i2 m hm he fun x hx => hs x (List.mem_cons_of_mem _ hx), i3, fun e => ?_, i5, i6⟩
   obtain ⟨j1, j2, j3, j4⟩ := i4 e
   refine ⟨j1, j2, j3, fun e2 x hx => ?_⟩
   rcases List.mem_cons.1 hx with rfl | hx
   ·rcases hd with hd | hd
    ·exact .inl ((s1.1 hd).resolve_left (by simp))
    ·refine .inr (Classical.byContradiction fun hno => ?_)
     have : ∀ (cl : List Int) (d : Bool) (la : Int), (∀ l ∈ cl, Jc a l ≠ 2) → (E1 a cl 0 la d).1 = 0 := by
      intro cl
      induction cl with
      | nil => intro d la _; rfl
      | cons l cl ih =>
       intro d la h
       unfold E1
       split
       ·exact ih _ _ fun x hx => h x (List.mem_cons_of_mem _ hx)
       ·rw [if_neg (h l List.mem_cons_self)]
        exact ih _ _ fun x hx => h x (List.mem_cons_of_mem _ hx)
     have := this x false 0 fun l hl e => hno ⟨l, hl, e⟩
     omega
   ·exact j4 e2 x hx
  ·rename_i hd
   have hd1 : ¬ ∃ l ∈ c, Jc a l = 1 := fun e => hd (.inl (s1.2 (.inr e)))
   split
   ·rename_i h0
    refine ⟨hp, fun m hm he hs => ?_, fun i _ => rfl, fun e => ⟨rfl, rfl, e, fun h => (by cases h)⟩, fun e e2 => ?_, Nat.le_refl _⟩
    rotate_left
    ·have e : ag = true := e
     rw [e] at e2; cases e2
    exfalso
    obtain ⟨l, hl, hv⟩ := hs c List.mem_cons_self
    have h2 := s3 h0 l hl
    rw [he.val hp.v3 h2] at hv
    exact hd1 ⟨l, hl, hv⟩
   ·rename_i h0
    have ho : (E1 a c 0 0 false).1 = 1 := by
     have : ¬ (E1 a c 0 0 false).1 > 1 := fun e => hd (.inr e)
     omega
    obtain ⟨_, j2, j3⟩ := s4 ho
    obtain ⟨j4, j5⟩ := j2 rfl
    generalize (E1 a c 0 0 false).2.1 = la at *
    have hla := hc c List.mem_cons_self la j4
    obtain ⟨i1, i2, i3, i4, i5, i6⟩ := Uz (ag := true) hcs (hp.sat hla j5)
    refine ⟨i1, fun m hm he hs => ?_, fun i hi => ?_, fun e => ?_, fun e e2 => ?_, ?_⟩
    ·obtain ⟨l, hl, hv⟩ := hs c List.mem_cons_self
     have hl2 : l = la := by
      refine j3 l hl (Classical.byContradiction fun h2 => ?_)
      rw [he.val hp.v3 h2] at hv
      exact hd1 ⟨l, hl, hv⟩
     subst hl2
     exact i2 m hm (he.sat hm hla hp.ln hv) fun x hx => hs x (List.mem_cons_of_mem _ hx)
    ·have e : (Vu a la).getD i 0 = a.getD i 0 := by
      unfold Vu; rw [Uy, if_neg]
      rintro ⟨rfl, _⟩
      exact hi ((q0I hp.v3 la).1 j5)
     rw [i3 i (by rw [e]; exact hi), e]
    ·have := (i4 e).2.2.1; cases this
    ·simp only [List.length_append, List.length_cons, List.length_nil] at i6; omega
    ·simp only [List.length_append, List.length_cons, List.length_nil] at i6; omega
theorem V0 {n : Nat} {a0 : List Int} {cls : List (List Int)} (hc : q1p n cls) : ∀ {f : Nat} {a tr : List Int}, P2 n a0 a tr → a.count 2 < f →
  P2 n a0 (Gj cls f a tr).2.1 (Gj cls f a tr).2.2 ∧
  (∀ m, q21 m → q3K a m → q0G m cls → (Gj cls f a tr).1 = true ∧ q3K (Gj cls f a tr).2.1 m) ∧
  (∀ i, a.getD i 0 ≠ 2 → (Gj cls f a tr).2.1.getD i 0 = a.getD i 0) ∧
  ((Gj cls f a tr).1 = true → ∀ c ∈ cls, (∃ l ∈ c, Jc (Gj cls f a tr).2.1 l = 1) ∨ ∃ l ∈ c, Jc (Gj cls f a tr).2.1 l = 2)
 | 0, a, tr, hp, hf => by omega
 | f + 1, a, tr, hp, hf => by
  obtain ⟨i1, i2, i3, i4, i5, i6⟩ := Uz (ag := false) hc hp
  simp only [Gj]
  split
  ·rename_i h1
   refine ⟨i1, fun m hm he hs => ?_, i3, fun e => (by cases e)⟩
   have := (i2 m hm he hs).1; rw [h1] at this; cases this
  ·split
   ·rename_i h1 h2
    have hlt := i5 h2 rfl
    have h7 := i1.le
    have h8 := hp.le
    obtain ⟨k1, k2, k3, k4⟩ := V0 hc (f := f) i1 (by omega)
    refine ⟨k1, fun m hm he hs => k2 m hm (i2 m hm he hs).2 hs, fun i hi => ?_, k4⟩
    rw [k3 i (by rw [i3 i hi]; exact hi), i3 i hi]
   ·rename_i h1 h2
    obtain ⟨j1, j2, _, j4⟩ := i4 (by simpa using h2)
    refine ⟨i1, fun m hm he hs => ⟨rfl, (i2 m hm he hs).2⟩, i3, fun _ => ?_⟩
    simp only [j1]
    exact j4 (by simpa using h1)
theorem V1 : ∀ {a : List Int}, (a.length ≤ Jd a → ∀ v ∈ a, v ≠ 2) ∧ (Jd a < a.length → a.getD (Jd a) 0 = 2)
 | [] => ⟨fun _ v hv => (by cases hv), fun h => (by simp at h)⟩
 | v :: a => by
  obtain ⟨h1, h2⟩ := V1 (a := a)
  unfold Jd
  split
  ·rename_i h; subst h; exact ⟨fun e => by simp at e, fun _ => rfl⟩
  ·rename_i h
   refine ⟨fun e x hx => ?_, fun e => ?_⟩
   ·rcases List.mem_cons.1 hx with rfl | hx
    ·exact h
    ·exact h1 (by simpa using e) x hx
   ·simpa using h2 (by simpa using e)
structure qBt (n : Nat) (cls : List (List Int)) (lim : Int) (a : List Int) (u : Int) (r : Bool × List Int × Int × Bool) : Prop where
 back : r.1 = false → r.2.1 = a
 tot : r.1 = true → q21 r.2.1 ∧ r.2.1.length = n ∧ q0G r.2.1 cls ∧ r.2.2.2 = false
 none : r.1 = false → r.2.2.2 = false → ∀ m, q21 m → q3K a m → ¬ q0G m cls
 lo : u ≤ r.2.2.1
 hi : r.2.2.1 ≤ lim
 few : r.2.2.1 + 1 ≤ u + 2 ^ a.count 2
 spent : u + 2 ^ a.count 2 ≤ lim + 1 → r.2.2.2 = false
theorem qAW {k j : Nat} (h : k ≤ j) : (2 : Int) ^ k ≤ 2 ^ j := by
 have := Nat.pow_le_pow_right (n := 2) (by decide) h
 exact_mod_cast this
theorem q4e (k : Nat) : (1 : Int) ≤ 2 ^ k := by
 have := Nat.one_le_two_pow (n := k)
 exact_mod_cast this
theorem Gn {n : Nat} {cls : List (List Int)} (hc : q1p n cls) {lim : Int} : ∀ {f : Nat} {a : List Int} {u : Int}, CV3 a → a.length = n → a.count 2 < f → u ≤ lim → qBt n cls lim a u (Bv cls lim f a u)
 | 0, a, u, h3, hn, hf, hu => by omega
 | f + 1, a, u, h3, hn, hf, hu => by
  obtain ⟨p1, p2, p3, p4⟩ := V0 hc (f := a.count 2 + 1) (a0 := a) (a := a) (tr := []) ⟨h3, hn, rfl, (fun l hl => by cases hl), by simp⟩ (by omega)
  simp only [Bv]
  generalize Gj cls (a.count 2 + 1) a [] = p at *
  obtain ⟨ok, a1, tr⟩ := p
  simp only at p1 p2 p3 p4 ⊢
  have hk := q4e (a.count 2)
  have hun := p1.un
  split
  ·rename_i h1
   subst h1
   exact ⟨fun _ => hun, (fun e => by cases e), fun _ _ m hm he hs => (by have := (p2 m hm he hs).1; cases this), by simp, hu, by simp only; omega, fun _ => rfl⟩
  ·rename_i h1
   have h1 : ok = true := by simpa using h1
   subst h1
   have p4 := p4 rfl
   obtain ⟨o1, o2⟩ := V1 (a := a1)
   generalize Jd a1 = v at *
   split
   ·rename_i hv
    have htot : q21 a1 := fun x hx => by
     have := p1.v3 x hx
     have := o1 hv x hx
     omega
    refine ⟨(fun e => by cases e), fun _ => ⟨htot, p1.ln, fun c hcc => ?_, rfl⟩, (fun e => by cases e), by simp, hu, by simp only; omega, fun _ => rfl⟩
    rcases p4 c hcc with h | ⟨l, hl, h2⟩
    ·exact h
    ·exfalso
     have h5 := (hc c hcc l hl).pos
     have := (q0I p1.v3 l).1 h2
     rw [List.getD_eq_getElem?_getD, List.getElem?_eq_getElem (by rw [p1.ln]; exact h5)] at this
     exact o1 hv _ (List.getElem_mem (by rw [p1.ln]; exact h5)) this
   ·rename_i hv
    have hv : v < a1.length := by omega
    have h2 := o2 hv
    have hle : a1.count 2 ≤ a.count 2 := by have := p1.le; omega
    have c0 := Ix (x := 0) h2 hv (by decide)
    have c1 := Ix (x := 1) h2 hv (by decide)
    have hpow : (2 : Int) ^ a1.count 2 = 2 * 2 ^ (a1.set v 0).count 2 := by rw [← c0, Int.pow_succ]; omega
    have hc01 : (a1.set v 1).count 2 = (a1.set v 0).count 2 := by omega
    have hpos := q4e ((a1.set v 0).count 2)
    have hmon := qAW hle
    split
    ·rename_i hul
     subst hul
     exact ⟨fun _ => hun, (fun e => by cases e), fun _ e => (by cases e), by simp, by simp, by simp only; omega, fun e => by omega⟩
    ·rename_i hul
     have r1ok := Gn hc (lim := lim) (f := f) (a := a1.set v 0) (u := u + 1) (p1.v3.set _ (.inl rfl)) (by simp [p1.ln]) (by omega) (by omega)
     generalize Bv cls lim f (a1.set v 0) (u + 1) = r1 at *
     obtain ⟨f1, b1, u1, s1⟩ := r1
     simp only
     have q1 := r1ok.lo
     have q2 := r1ok.hi
     have q3 := r1ok.few
     simp only at q1 q2 q3
     split
     ·rename_i hf1
      subst hf1
      have := r1ok.tot rfl
      exact ⟨(fun e => by cases e), fun _ => this, (fun e => by cases e), by simp only; omega, q2, by simp only; omega, fun _ => this.2.2.2⟩
     ·rename_i hf1
      have hf1 : f1 = false := by simpa using hf1
      subst hf1
      have hb := r1ok.back rfl
      simp only at hb
      subst hb
      have hset : (a1.set v 0).set v 2 = a1 := by rw [List.set_set]; exact Qa h2 hv
      split
      ·rename_i hs1
       subst hs1
       rw [hset]
       exact ⟨fun _ => hun, (fun e => by cases e), fun _ e => (by cases e), by simp only; omega, q2, by simp only; omega, fun e => r1ok.spent (by omega)⟩
      ·rename_i hs1
       have hs1 : s1 = false := by simpa using hs1
       subst hs1
       rw [hset]
       have r2ok := Gn hc (lim := lim) (f := f) (a := a1.set v 1) (u := u1) (p1.v3.set _ (.inr (.inl rfl))) (by simp [p1.ln]) (by omega) q2
       generalize Bv cls lim f (a1.set v 1) u1 = r2 at *
       obtain ⟨f2, b2, u2, s2⟩ := r2
       simp only
       have q4 := r2ok.lo
       have q5 := r2ok.hi
       have q6 := r2ok.few
       simp only [hc01] at q4 q5 q6
       split
       ·rename_i hf2
        subst hf2
        have := r2ok.tot rfl
        exact ⟨(fun e => by cases e), fun _ => this, (fun e => by cases e), by simp only; omega, q5, by simp only; omega, fun _ => this.2.2.2⟩
       ·rename_i hf2
        have hf2 : f2 = false := by simpa using hf2
        subst hf2
        have hb := r2ok.back rfl
        simp only at hb
        subst hb
        have hset : (a1.set v 1).set v 2 = a1 := by rw [List.set_set]; exact Qa h2 hv
        rw [hset]
        refine ⟨fun _ => hun, (fun e => by cases e), fun _ e m hm he hs => ?_, by simp only; omega, q5, by simp only; omega, fun e => r2ok.spent (by simp only [hc01]; omega)⟩
        simp only at e
        subst e
        have he1 := (p2 m hm he hs).2
        have hlm : v < m.length := by rw [he1.1]; exact hv
        have hmv : m.getD v 0 = 0 ∨ m.getD v 0 = 1 := by
         rw [List.getD_eq_getElem?_getD, List.getElem?_eq_getElem hlm]; exact hm _ (List.getElem_mem _)
        have ext : ∀ x, m.getD v 0 = x → q3K (a1.set v x) m := fun x hx => ⟨by simp [he1.1], fun i hi => by
         rw [Uy] at hi ⊢
         split
         ·rename_i hcc; rw [← hcc.1]; exact hx
         ·rename_i hcc; rw [if_neg hcc] at hi; exact he1.2 i hi⟩
        rcases hmv with e | e
        ·exact r1ok.none rfl rfl m hm (ext 0 e) hs
        ·exact r2ok.none rfl rfl m hm (ext 1 e) hs
theorem Zk {n : Nat} {cls : List (List Int)} (hc : q1p n cls) {lim lim' : Int} (hl : lim ≤ lim') : ∀ {f : Nat} {a : List Int} {u : Int}, CV3 a → a.length = n → a.count 2 < f → u ≤ lim → (Bv cls lim f a u).2.2.2 = false → Bv cls lim' f a u = Bv cls lim f a u
 | 0, a, u, h3, hn, hf, hu, h => rfl
 | f + 1, a, u, h3, hn, hf, hu, h => by
  obtain ⟨p1, p2, p3, p4⟩ := V0 hc (f := a.count 2 + 1) (a0 := a) (a := a) (tr := []) ⟨h3, hn, rfl, (fun l hl => by cases hl), by simp⟩ (by omega)
  simp only [Bv] at h ⊢
  generalize Gj cls (a.count 2 + 1) a [] = p at *
  obtain ⟨ok, a1, tr⟩ := p
  simp only at p1 p2 p3 p4 h ⊢
  by_cases h1 : ok = false
  ·rw [if_pos h1, if_pos h1]
  ·rw [if_neg h1] at h
   rw [if_neg h1, if_neg h1]
   obtain ⟨o1, o2⟩ := V1 (a := a1)
   generalize Jd a1 = v at *
   by_cases hv : a1.length ≤ v
   ·rw [if_pos hv, if_pos hv]
   ·rw [if_neg hv] at h
    rw [if_neg hv, if_neg hv]
    have hv : v < a1.length := by omega
    have h2 := o2 hv
    have hle : a1.count 2 ≤ a.count 2 := by have := p1.le; omega
    have c0 := Ix (x := 0) h2 hv (by decide)
    have c1 := Ix (x := 1) h2 hv (by decide)
    by_cases hul : u = lim
    ·rw [if_pos hul] at h; cases h
    ·rw [if_neg hul] at h
     rw [if_neg hul, if_neg (by omega)]
     have r1ok := Gn hc (lim := lim) (f := f) (a := a1.set v 0) (u := u + 1) (p1.v3.set _ (.inl rfl)) (by simp [p1.ln]) (by omega) (by omega)
     have ih1 := Zk hc hl (f := f) (a := a1.set v 0) (u := u + 1) (p1.v3.set _ (.inl rfl)) (by simp [p1.ln]) (by omega) (by omega)
     generalize hr1 : Bv cls lim f (a1.set v 0) (u + 1) = r1 at *
     obtain ⟨f1, b1, u1, s1⟩ := r1
     simp only at h ih1 r1ok
     by_cases hs1 : s1 = true
     ·subst hs1
      cases f1 with
      | true => simp only [if_true] at h; cases h
      | false => simp at h
     ·have hs1 : s1 = false := by simpa using hs1
      subst hs1
      rw [ih1 rfl]
      simp only
      by_cases hf1 : f1 = true
      ·rw [if_pos hf1, if_pos hf1]
      ·rw [if_neg hf1] at h
       rw [if_neg hf1, if_neg hf1]
       have hf1 : f1 = false := by simpa using hf1
       subst hf1
       have hb := r1ok.back rfl
       simp only at hb
       subst hb
       have hset : (a1.set v 0).set v 2 = a1 := by rw [List.set_set]; exact Qa h2 hv
       rw [hset] at h ⊢
       simp only [Bool.false_eq_true, if_false] at h ⊢
       have q2 := r1ok.hi
       simp only at q2
       have ih2 := Zk hc hl (f := f) (a := a1.set v 1) (u := u1) (p1.v3.set _ (.inr (.inl rfl))) (by simp [p1.ln]) (by omega) q2
       generalize Bv cls lim f (a1.set v 1) u1 = r2 at *
       obtain ⟨f2, b2, u2, s2⟩ := r2
       simp only at h ih2
       have hs2 : s2 = false := by
        cases f2 with
        | true => simpa using h
        | false => simpa using h
       rw [ih2 hs2]
end Go.Lg
namespace Go.Lg
open Go
section
variable {P : Program} {Γ : Tables} {Q : AX → St → Prop} {s : St}
/- probecard/cnfs.Check (function 13) -/
abbrev Yb : IC := .gh (.seq (.reg [od 34 (.bin .lss (tm 33) (tm 32))] [kp [1, 22, 23, 24, 31, 32, 33, 34] []]) (.seq (.cond (tm 34) .skip (.exit 3)) (.seq (.block 4 (.seq (.reg [od 35 (ia 1 31 33), od 36 (ld 1 35), om 6 36] [kp [1, 6, 22, 23, 24,
 31, 32, 33] []]) (.seq (.reg [om 37 6, od 38 (.bin .eql (tm 37) (ki 0)), om 39 38, oF 40 (.mv (tm 6)) 39, oF 41 (fa 0 1) 39, oF 42 (ld 1 41) 39, oF 43 (.un .neg (tm 42)) 39, oF 44 (.bin .lss (tm 40) (tm 43)) 39, od 45 (.pick (tm
 39) kT (tm 44)), om 46 45, oF 47 (.mv (tm 6)) 46, oF 48 (fa 0 1) 46, oF 49 (ld 1 48) 46, oF 50 (.bin .gtr (tm 47) (tm 49)) 46, od 51 (.pick (tm 46) kT (tm 50))] [kp [1, 22, 23, 24, 31, 32, 33, 51] []]) (.cond (tm 51) (.seq (.reg
 [od 2 (.mv (ki 1))] [kp [2] []]) .ret) .skip)))) (.reg [od 52 (.bin .add (tm 33) (ki 1)), om 33 52] [kp [1, 22, 23, 24, 31, 32, 33] []])))) [kp [1, 22, 23, 24, 31, 32, 33] []]
def Nv : IC := .loop Yb
abbrev Yc : IC := .gh (.seq (.reg [od 25 (.bin .lss (tm 24) (tm 23))] [kp [1, 22, 23, 24, 25] []]) (.seq (.cond (tm 25) .skip (.exit 1)) (.seq (.block 2 (.seq (.reg [od 26 (ia 1 22 24), od 27 (ld 1 26), om 4 27] [kp [1, 4, 22, 23, 24] []]) (.seq
 (.seq (.reg [om 28 4, od 29 (le 0 28), od 30 (.bin .gtr (tm 29) (ki 4096))] [kp [1, 4, 22, 23, 24, 30] []]) (.cond (tm 30) (.seq (.reg [od 2 (.mv (ki 3))] [kp [2] []]) .ret) .skip)) (.seq (.reg [om 31 4, od 32 (le 0 31), od 33 (.mv
 (ki 0))] [kp [1, 22, 23, 24, 31, 32, 33] []]) (.block 3 Nv))))) (.reg [od 53 (.bin .add (tm 24) (ki 1)), om 24 53] [kp [1, 22, 23, 24] []])))) [kp [1, 22, 23, 24] []]
def Nw : IC := .loop Yc
abbrev Jr : IC := (.seq (.reg [od 1 (.box true (tm 0)), od 2 (.mv (ki 0))] [kp [1] []]) (.seq (.block 0 (.seq (.reg [od 8 (fa 0 1), od 9 (ld 1 8), od 10 (.bin .lss (tm 9) (ki 0)), om 7 10] [kp [1, 7] []]) (.cond (tm 7) (.seq (.reg [od 2 (.mv (ki
 1))] [kp [2] []]) .ret) (.seq (.reg [od 12 (fa 0 1), od 13 (ld 1 12), od 14 (.bin .gtr (tm 13) (ki 65536)), om 15 14, oF 16 (fa 1 1) 15, oF 17 (ld 1 16) 15, oF 18 (le 0 17) 15, oF 19 (.bin .gtr (tm 18) (ki 262144)) 15, od 20 (.pick
 (tm 15) kT (tm 19)), om 11 20] [kp [1, 11] []]) (.cond (tm 11) (.seq (.reg [od 2 (.mv (ki 3))] [kp [2] []]) .ret) .skip))))) (.seq (.seq (.reg [od 21 (fa 1 1), od 22 (ld 1 21), od 23 (le 0 22), od 24 (.mv (ki 0))] [kp [1, 22, 23,
 24] []]) (.block 1 Nw)) (.seq (.reg [od 2 (.mv (ki 0))] [kp [2] []]) .ret))))
theorem Re (h : ∀ K : St → Prop, K = run P Γ Nv Q → run P Γ Yb (B5 K Q) s) : run P Γ Nv Q s := Au h
theorem Rf (h : ∀ K : St → Prop, K = run P Γ Nw Q → run P Γ Yc (B5 K Q) s) : run P Γ Nw Q s := Au h
def Hj : List RV := [.tmp 2]
/- probecard/cnfs.Holds (function 9) -/
abbrev Yd : IC := .gh (.seq (.reg [od 31 (.bin .lss (tm 30) (tm 29))] [kp [1, 5, 8, 22, 23, 24, 28, 29, 30, 31] []]) (.seq (.cond (tm 31) .skip (.exit 2)) (.seq (.block 3 (.seq (.reg [od 32 (ia 1 28 30), od 33 (ld 1 32), om 10 33] [kp [1, 5, 8, 10,
 22, 23, 24, 28, 29, 30] []]) (.reg [om 34 8, om 35 34, oF 36 (.mv (tm 5)) 35, oF 37 (.mv (tm 1)) 35, oF 38 (.mv (tm 10)) 35, oF 39 (.callv (tm 36) [(tm 37), (tm 38)]) 35, oF 40 (.bin .eql (tm 39) (ku 1)) 35, od 41 (.pick (tm 35) kT
 (tm 40)), om 8 41] [kp [1, 5, 8, 22, 23, 24, 28, 29, 30] []]))) (.reg [od 42 (.bin .add (tm 30) (ki 1)), om 30 42] [kp [1, 5, 8, 22, 23, 24, 28, 29, 30] []])))) [kp [1, 5, 8, 22, 23, 24, 28, 29, 30] []]
def Nx : IC := .loop Yd
abbrev Ye : IC := .gh (.seq (.reg [od 25 (.bin .lss (tm 24) (tm 23))] [kp [1, 5, 22, 23, 24, 25] []]) (.seq (.cond (tm 25) .skip (.exit 0)) (.seq (.block 1 (.seq (.reg [od 26 (ia 1 22 24), od 27 (ld 1 26), om 7 27] [kp [1, 5, 7, 22, 23, 24] []])
 (.seq (.reg [od 8 (.mv kF)] [kp [1, 5, 7, 8, 22, 23, 24] []]) (.seq (.seq (.reg [om 28 7, od 29 (le 0 28), od 30 (.mv (ki 0))] [kp [1, 5, 8, 22, 23, 24, 28, 29, 30] []]) (.block 2 Nx)) (.seq (.reg [om 43 8, od 44 (.un
 .not (tm 43))] [kp [1, 5, 22, 23, 24, 44] []]) (.cond (tm 44) (.seq (.reg [od 4 (.mv kF)] [kp [4] []]) .ret) .skip)))))) (.reg [od 45 (.bin .add (tm 24) (ki 1)), om 24 45] [kp [1, 5, 22, 23, 24] []])))) [kp [1, 5, 22, 23, 24] []]
def Ny : IC := .loop Ye
abbrev Yf : IC := (.seq (.reg [od 2 (.box true (tm 0)), od 4 (.mv kF)] [kp [1, 2] []]) (.seq (.seq (.reg [od 11 (lG 2 2), od 12 (.call 13 [(tm 11)]), od 13 (.bin .neq (tm 12) (ki 0)), om 14 13, oF 15 (.mv (tm 1)) 14, oF 16 (le 0 15) 14, oF 17 (fa 0
 2) 14, oF 18 (ld 1 17) 14, oF 19 (.bin .neq (tm 16) (tm 18)) 14, od 20 (.pick (tm 14) kT (tm 19))] [kp [1, 2, 20] []]) (.cond (tm 20) (.seq (.reg [od 4 (.mv kF)] [kp [4] []]) .ret) .skip)) (.seq (.reg [od 5 (.mv (.func 21))] [kp
 [1, 2, 5] []]) (.seq (.seq (.reg [od 21 (fa 1 2), od 22 (ld 1 21), od 23 (le 0 22), od 24 (.mv (ki 0))] [kp [1, 5, 22, 23, 24] []]) (.block 0 Ny)) (.seq (.reg [od 4 (.mv kT)] [kp [4] []]) .ret)))))
theorem Rh (h : ∀ K : St → Prop, K = run P Γ Nx Q → run P Γ Yd (B5 K Q) s) : run P Γ Nx Q s := Au h
theorem Ri (h : ∀ K : St → Prop, K = run P Γ Ny Q → run P Γ Ye (B5 K Q) s) : run P Γ Ny Q s := Au h
def S8 : List RV := [.tmp 4]
/- (probecard/cnfs.assignment).of (function 21) -/
abbrev Hq : IC := (.seq (.reg [od 4 (.mv (ku 0))] [kp [0, 1] []]) (.seq (.seq (.reg [om 5 1, od 6 (.bin .lss (tm 5) (ki 0))] [kp [0, 1, 6] []]) (.cond (tm 6) (.seq (.reg [om 7 0, om 8 1, od 9 (.un .neg (tm 8)), od 10 (.bin .sub (tm 9) (ki 1)), od 11
 (ia 1 7 10), od 12 (ld 1 11), od 13 (.call 46 [(tm 12)]), om 4 13] [kp [4] []]) .ret) .skip)) (.seq (.reg [om 14 0, om 15 1, od 16 (.bin .sub (tm 15) (ki 1)), od 17 (ia 1 14 16), od 18 (ld 1 17), om 4 18] [kp [4] []]) .ret)))
def Hr : List RV := [.tmp 4]
/- (probecard/cnfs.assignment).satisfy (function 50) -/
abbrev Ep : IC := (.seq (.reg [om 4 1, od 5 (.bin .lss (tm 4) (ki 0))] [kp [0, 1, 5] [1000000]]) (.cond (tm 5) (.reg [om 6 0, om 7 1, od 8 (.un .neg (tm 7)), od 9 (.bin .sub (tm 8) (ki 1)), od 10 (ia 1 6 9), on (.store 1 (tm 10) (ku 0))] [kp []
 [1000000]]) (.reg [om 11 0, om 12 1, od 13 (.bin .sub (tm 12) (ki 1)), od 14 (ia 1 11 13), on (.store 1 (tm 14) (ku 1))] [kp [] [1000000]])))
def Es : List RV := []
/- (*probecard/cnfs.solver).propagate (function 47) -/
abbrev Js : IC := .gh (.seq (.reg [od 27 (.bin .lss (tm 26) (tm 25))] [kp [0, 2, 4, 5, 8, 9, 10, 18, 19, 20, 24, 25, 26, 27] [61, 1000000, 1000001]]) (.seq (.cond (tm 27) .skip (.exit 4)) (.seq (.block 5 (.seq (.reg [od 28 (ia 1 24 26), od 29 (ld 1
 28), om 12 29] [kp [0, 2, 4, 5, 8, 9, 10, 12, 18, 19, 20, 24, 25, 26] [61, 1000000, 1000001]]) (.seq (.reg [om 30 4, om 31 0, od 32 (.nck (tm 31)), od 33 (fa 2 32), od 34 (ld 1 33), om 35 12, od 36 (.callv (tm 30) [(tm 34), (tm
 35)])] [kp [0, 2, 4, 5, 8, 9, 10, 12, 18, 19, 20, 24, 25, 26, 36] [61, 1000000, 1000001]]) (.block 6 (.seq (.reg [od 38 (.bin .eql (tm 36) (ku 1)), om 37 38] [kp [0, 2, 4, 5, 8, 9, 10, 12, 18, 19, 20, 24, 25, 26, 36, 37] [61,
 1000000, 1000001]]) (.cond (tm 37) (.reg [od 10 (.mv kT)] [kp [0, 2, 4, 5, 8, 9, 10, 18, 19, 20, 24, 25, 26] [61, 1000000, 1000001]]) (.seq (.reg [od 40 (.bin .eql (tm 36) (ku 2)), om 39 40] [kp [0, 2, 4, 5, 8, 9, 10, 12, 18, 19,
 20, 24, 25, 26, 39] [61, 1000000, 1000001]]) (.cond (tm 39) (.seq (.seq (.reg [om 41 8, od 42 (.bin .eql (tm 41) (ki 0)), om 43 42, oF 44 (.mv (tm 12)) 43, oF 45 (.mv (tm 9)) 43, oF 46 (.bin .neq (tm 44) (tm 45)) 43, od 47 (.pick
 (tm 43) kT (tm 46))] [kp [0, 2, 4, 5, 8, 10, 12, 18, 19, 20, 24, 25, 26, 47] [61, 1000000, 1000001]]) (.cond (tm 47) (.reg [om 48 8, od 49 (.bin .add (tm 48) (ki 1)), om 8 49] [kp [0, 2, 4, 5, 8, 10, 12, 18, 19, 20, 24, 25, 26]
 [61, 1000000, 1000001]]) .skip)) (.reg [om 50 12, om 9 50] [kp [0, 2, 4, 5, 8, 9, 10, 18, 19, 20, 24, 25, 26] [61, 1000000, 1000001]])) .skip)))))))) (.reg [od 51 (.bin .add (tm 26) (ki 1)), om 26 51] [kp [0, 2, 4, 5, 8, 9, 10, 18,
 19, 20, 24, 25, 26] [61, 1000000, 1000001]])))) [kp [0, 2, 4, 5, 8, 9, 10, 18, 19, 20, 24, 25, 26] [61, 1000000, 1000001]]
def Dj : IC := .loop Js
abbrev Jt : IC := .gh (.seq (.reg [od 21 (.bin .lss (tm 20) (tm 19))] [kp [0, 2, 4, 5, 18, 19, 20, 21] [61, 1000000, 1000001]]) (.seq (.cond (tm 21) .skip (.exit 2)) (.seq (.block 3 (.seq (.reg [od 22 (ia 1 18 20), od 23 (ld 1 22), om 7 23] [kp [0,
 2, 4, 5, 7, 18, 19, 20] [61, 1000000, 1000001]]) (.seq (.reg [od 8 (.mv (ki 0)), od 9 (.mv (ki 0)), od 10 (.mv kF)] [kp [0, 2, 4, 5, 7, 8, 9, 10, 18, 19, 20] [61, 1000000, 1000001]]) (.seq (.seq (.reg [om 24 7, od 25 (le 0 24), od
 26 (.mv (ki 0))] [kp [0, 2, 4, 5, 8, 9, 10, 18, 19, 20, 24, 25, 26] [61, 1000000, 1000001]]) (.block 4 Dj)) (.block 7 (.seq (.reg [om 63 10, om 64 63, oF 65 (.mv (tm 8)) 64, oF 66 (.bin .gtr (tm 65) (ki 1))
 64, od 67 (.pick (tm 64) kT (tm 66)), om 62 67] [kp [0, 2, 4, 5, 8, 9, 18, 19, 20, 62] [61, 1000000, 1000001]]) (.cond (tm 62) .skip (.seq (.reg [om 69 8, od 70 (.bin .eql (tm 69) (ki 0)), om 68 70] [kp [0, 2, 4, 9, 18, 19, 20, 68]
 [61, 1000000, 1000001]]) (.cond (tm 68) (.seq (.reg [om 71 2, om 2 71, od 3 (.mv kF)] [.frz 61, kp [2, 3] [61, 1000000, 1000001]]) .ret) (.seq (.reg [om 52 0, od 53 (.nck (tm 52)), od 54 (fa 2 53), od 55 (ld 1 54), om 56 9, od 57
 (.hcall 50 [(tm 55), (tm 56)] [1000001] 57000)] [kp [0, 2, 4, 9, 18, 19, 20] [61, 1000000, 1000001]]) (.seq (.reg [om 58 2, om 59 9, od 60 (.bsl true 3 1 [(tm 59)]), od 61 (.app false 3 1 (tm 58) (tm 60)), om 2 61] [kp [0, 2, 4,
 18, 19, 20] [61, 1000000, 1000001]]) (.reg [od 5 (.mv kT)] [kp [0, 2, 4, 5, 18, 19, 20] [61, 1000000, 1000001]])))))))))))) (.reg [od 72 (.bin .add (tm 20) (ki 1)), om 20 72] [kp [0, 2, 4, 5, 18, 19, 20] [61, 1000000, 1000001]]))))
 [kp [0, 2, 4, 5, 18, 19, 20] [61, 1000000, 1000001]]
def Dk : IC := .loop Jt
abbrev Ju : IC := .gh (.seq (.seq (.reg [om 13 5] [kp [0, 2, 4, 13] [61, 1000000, 1000001]]) (.cond (tm 13) .skip (.exit 0))) (.block 1 (.seq (.reg [od 5 (.mv kF)] [kp [0, 2, 4, 5] [61, 1000000, 1000001]]) (.seq (.reg [om 14 0, od 15 (.nck (tm 14)),
 od 16 (fa 0 15), od 17 (fa 1 16), od 18 (ld 1 17), od 19 (le 0 18), od 20 (.mv (ki 0))] [kp [0, 2, 4, 5, 18, 19, 20] [61, 1000000, 1000001]]) (.block 2 Dk))))) [kp [0, 2, 4, 5] [61, 1000000, 1000001]]
def Dl : IC := .loop Ju
abbrev Jv : IC := (.seq (.reg [od 2 (.mv kN), od 3 (.mv kF)] [.nl 2 61 3 1, kp [0, 2] [61, 1000000, 1000001]]) (.seq (.reg [od 4 (.mv (.func 21))] [kp [0, 2, 4] [61, 1000000, 1000001]]) (.seq (.seq (.reg [od 5 (.mv kT)] [kp [0, 2, 4, 5] [61,
 1000000, 1000001]]) (.block 0 Dl)) (.seq (.reg [om 73 2, om 2 73, od 3 (.mv kT)] [.frz 61, kp [2, 3] [61, 1000000, 1000001]]) .ret))))
theorem Hf (h : ∀ K : St → Prop, K = run P Γ Dj Q → run P Γ Js (B5 K Q) s) : run P Γ Dj Q s := Au h
theorem Hg (h : ∀ K : St → Prop, K = run P Γ Dk Q → run P Γ Jt (B5 K Q) s) : run P Γ Dk Q s := Au h
theorem Hh (h : ∀ K : St → Prop, K = run P Γ Dl Q → run P Γ Ju (B5 K Q) s) : run P Γ Dl Q s := Au h
def Fb : List RV := [.tmp 2, .tmp 3]
/- (*probecard/cnfs.solver).undo (function 49) -/
abbrev Oq : IC := .gh (.seq (.reg [od 9 (.bin .lss (tm 8) (tm 7))] [kp [0, 6, 7, 8, 9] [1000000, 1000001]]) (.seq (.cond (tm 9) .skip (.exit 0)) (.seq (.block 1 (.seq (.reg [od 10 (ia 1 6 8), od 11 (ld 1 10), om 5 11] [kp [0, 5, 6, 7, 8] [1000000,
 1000001]]) (.reg [om 12 0, od 13 (.nck (tm 12)), od 14 (fa 2 13), od 15 (ld 1 14), om 16 5, om 17 5, od 18 (.un .neg (tm 17)), od 19 (.mmx true [(tm 16), (tm 18)]), od 20 (.bin .sub (tm 19) (ki 1)), od 21 (ia 1 15 20), on (.store 1
 (tm 21) (ku 2))] [kp [0, 6, 7, 8] [1000000, 1000001]]))) (.reg [od 22 (.bin .add (tm 8) (ki 1)), om 8 22] [kp [0, 6, 7, 8] [1000000, 1000001]])))) [kp [0, 6, 7, 8] [1000000, 1000001]]
def Fv : IC := .loop Oq
abbrev Ot : IC := (.seq (.reg [om 6 1, od 7 (le 0 6), od 8 (.mv (ki 0))] [kp [0, 6, 7, 8] [1000000, 1000001]]) (.block 0 Fv))
theorem L0 (h : ∀ K : St → Prop, K = run P Γ Fv Q → run P Γ Oq (B5 K Q) s) : run P Γ Fv Q s := Au h
def Ou : List RV := []
/- (*probecard/cnfs.solver).visit$1 (function 48) -/
abbrev H3 : IC := (.seq (.reg [od 3 (ld 1 0), od 4 (.un .not (tm 3))] [kp [1, 2, 4] [1000000, 1000001, 1000002, 1000003, 1000004]]) (.cond (tm 4) (.reg [od 5 (ld 1 1), od 6 (ld 1 2), od 7 (.hcall 49 [(tm 5), (tm 6)] [1000003, 1000004] 7000)] [kp []
 [1000000, 1000001, 1000002, 1000003, 1000004]]) .skip))
def H4 : List RV := []
/- probecard/cnfs.steps (function 22) -/
abbrev Nz : IC := (.seq (.reg [od 2 (.mv (ki 0))] [kp [0] []]) (.seq (.block 0 (.seq (.reg [om 4 0, od 5 (.bin .lss (tm 4) (ki 0)), om 3 5] [kp [0, 3] []]) (.cond (tm 3) (.seq (.reg [od 2 (.mv (ki 1))] [kp [2] []]) .ret) (.seq (.reg [om 7 0, od 8
 (.bin .gtr (tm 7) (ki 1000000)), om 6 8] [kp [6] []]) (.cond (tm 6) (.seq (.reg [od 2 (.mv (ki 3))] [kp [2] []]) .ret) .skip))))) (.seq (.reg [od 2 (.mv (ki 0))] [kp [2] []]) .ret)))
def O0 : List RV := [.tmp 2]
/- probecard/cnfs.Solve (function 10) -/
abbrev Yg : IC := .gh (.seq (.reg [od 35 (.bin .lss (tm 34) (tm 33))] [kp [9, 33, 34, 35] [25, 28]]) (.seq (.cond (tm 35) .skip (.exit 0)) (.seq (.block 1 (.seq (.reg [om 36 34, om 10 36] [kp [9, 10, 33, 34] [25, 28]]) (.reg [om 37 9, od 38 (.nck
 (tm 37)), od 39 (fa 2 38), od 40 (ld 1 39), om 41 10, od 42 (ia 1 40 41), on (.store 1 (tm 42) (ku 2))] [kp [9, 33, 34] [25, 28]]))) (.reg [od 43 (.bin .add (tm 34) (ki 1)), om 34 43] [kp [9, 33, 34] [25, 28]])))) [kp [9, 33, 34]
 [25, 28]]
def O1 : IC := .loop Yg
abbrev Yh : IC := (.seq (.reg [od 2 (.box true (tm 0)), od 4 (.mv kN), od 5 (.mv kF), od 6 (.mv (ki 0))] [kp [1, 2] []]) (.seq (.seq (.reg [od 12 (lG 2 2), od 13 (.call 13 [(tm 12)]), om 7 13] [kp [1, 2, 7] []]) (.seq (.reg [om 14 7, od 15 (.bin
 .neq (tm 14) (ki 0))] [kp [1, 2, 7, 15] []]) (.cond (tm 15) (.seq (.reg [om 16 7, od 4 (.mv kN), od 5 (.mv kF), om 6 16] [kp [4, 5, 6] [25]]) .ret) .skip))) (.seq (.seq (.reg [om 17 1, od 18 (.call 22 [(tm 17)]), om 8 18] [kp [1,
 2, 8] []]) (.seq (.reg [om 19 8, od 20 (.bin .neq (tm 19) (ki 0))] [kp [1, 2, 8, 20] []]) (.cond (tm 20) (.seq (.reg [om 21 8, od 4 (.mv kN), od 5 (.mv kF), om 6 21] [kp [4, 5, 6] [25]]) .ret) .skip))) (.seq (.reg [od 22 (lG 2 2),
 od 23 (fa 0 2), od 24 (ld 1 23), od 25 (.mk 31 1 [(.int .u8 0)] (tm 24) (tm 24)), om 26 1, od 27 (.build [(2, (tm 22)), (1, (tm 25)), (1, (tm 26)), (1, (ki 0)), (1, kF)]), od 28 (.box false (tm 27)), om 9 28] [kp [9] [25, 28]])
 (.seq (.seq (.reg [om 29 9, od 30 (.nck (tm 29)), od 31 (fa 2 30), od 32 (ld 1 31), od 33 (le 0 32), od 34 (.mv (ki 0))] [kp [9, 33, 34] [25, 28]]) (.block 0 O1)) (.seq (.seq (.reg [om 44 9, od 45 (.hcall 23 [(tm 44)]
 [28, 25] 45000), om 11 45] [kp [9, 11] [25, 28]]) (.block 2 (.seq (.reg [om 47 11, om 46 47] [kp [9, 46] [25, 28]]) (.cond (tm 46) (.seq (.reg [om 48 9, od 49 (.nck (tm 48)), od 50 (fa 2 49), od 51 (ld 1 50), om 4 51, od 5 (.mv
 kT), od 6 (.mv (ki 0))] [kp [4, 5, 6] [25]]) .ret) (.seq (.reg [om 53 9, od 54 (.nck (tm 53)), od 55 (fa 5 54), od 56 (ld 1 55), om 52 56] [kp [52] [25]]) (.cond (tm 52) (.seq (.reg [od 4 (.mv kN), od 5 (.mv kF), od 6 (.mv (ki 0))]
 [kp [4, 5, 6] [25]]) .ret) .skip)))))) (.seq (.reg [od 4 (.mv kN), od 5 (.mv kT), od 6 (.mv (ki 9))] [kp [4, 5, 6] [25]]) .ret)))))))
theorem Rj (h : ∀ K : St → Prop, K = run P Γ O1 Q → run P Γ Yg (B5 K Q) s) : run P Γ O1 Q s := Au h
def Ff : List RV := [.tmp 4, .tmp 5, .tmp 6]
end
end Go.Lg
namespace Go.Lg
open Go Go.Proofs
theorem q3L : Ax Tryd.prog 13 Jr 54 1 Hj = true := by kernel_rfl
theorem q3M : Ax Tryd.prog 9 Yf 46 2 S8 = true := by kernel_rfl
theorem V2 : Ax Tryd.prog 21 Hq 19 2 Hr = true := by kernel_rfl
theorem P3 : Ax Tryd.prog 50 Ep 15 2 Es = true := by kernel_rfl
theorem Qk : Ax Tryd.prog 47 Jv 74 1 Fb = true := by kernel_rfl
theorem Wv : Ax Tryd.prog 49 Ot 23 2 Ou = true := by kernel_rfl
theorem Tf : Ax Tryd.prog 48 H3 8 3 H4 = true := by kernel_rfl
theorem q3N : Ax Tryd.prog 22 Nz 9 1 O0 = true := by kernel_rfl
theorem q3O : Ax Tryd.prog 10 Yh 57 2 Ff = true := by kernel_rfl
end Go.Lg
namespace Go.Lg
open Go Go.Proofs
variable {Γ : Tables}
theorem Vv {α : Type} {f : α → T} {l : List α} {i : Nat} (d : α) (h0 : i < l.length) : ∀ h : i < (Dc f l).length, (Dc f l)[i] = [f (l.getD i d)] := fun h => by
 have := He (f := f) d h0
 rw [List.getElem?_eq_getElem h] at this
 simpa [List.getD_eq_getElem?_getD] using this
theorem elC {α : Type} {f : α → T} {l : List α} {i : Nat} (d : α) (h0 : i < l.length) : (Dc f l)[i]?.getD [] = [f (l.getD i d)] := by
 rw [List.getElem?_eq_getElem (by rw [A3]; exact h0)]
 exact Vv d h0 _
theorem Dy {α : Type} {l : List α} {i : Nat} {d : α} (h : i < l.length) : l.getD i d ∈ l := by
 rw [List.getD_eq_getElem?_getD, List.getElem?_eq_getElem h]; exact List.getElem_mem h
structure Cf where
 vars : Int
 cls : Sl (Sl Int)
def O2 (f : Cf) : List T := [tI f.vars, B6 f.cls]
def Cf.L (f : Cf) : List (List Int) := f.cls.l.map (·.l)
theorem qAX (a : Sl Int) (l : Int) (h0 : D7 a.l.length l) (hn : a.l.length ≤ 1000000000) (hv : ∀ v ∈ a.l, 0 ≤ v) : A5 Tryd.prog Γ 21 [tV a, tI l] (tK (Jc a.l l)) := by
 refine Ah V2 rfl ?_
 have hp := h0.pos
 have e1 := elC (f := tK) 0 hp
 have e1' := Vv (f := tK) 0 hp
 have hm := hv _ (Dy (d := 0) hp)
 have hi := q0H h0
 have hc : Jc a.l l = if l < 0 then q7K (a.l.getD (Ez l) 0) else a.l.getD (Ez l) 0 := rfl
 rw [hc]
 unfold D7 at h0
 generalize a.l.getD (Ez l) 0 = x at *
 by_cases hl : l < 0
 ·have hl2 : l = -(Ez l : Int) - 1 := by omega
  generalize Ez l = p at *
  have w1 : IntKind.i64.wrap (-l) = (p : Int) + 1 := by rw [A7] <;> omega
  have w2 : IntKind.i64.wrap (p : Int) = p := by rw [A7] <;> omega
  simp [Hq, hl, tV, w1, w2, A3, Ad, hp, e1, e1']
  refine A4 (qAJ x hm) rfl ?_
  simp [Hr, hl]
  rfl
 ·have hl2 : l = (Ez l : Int) + 1 := by omega
  generalize Ez l = p at *
  have w2 : IntKind.i64.wrap (l - 1) = p := by rw [A7] <;> omega
  simp [Hq, hl, tV, w2, A3, Ad, hp, e1, e1', Hr]
theorem q4f (a : List Int) (l : Int) (h0 : D7 a.length l) (hn : a.length ≤ 1000000000) : C3 Tryd.prog Γ 50 [(1000000, .sl 31 1 (Dz a))] [.ls 1000000 0 a.length none, .t (tI l)] (.t (.tup [])) [(1000000, .sl 31 1 (Dz (Vu a l)))] := by
 refine T9 P3 rfl ?_
 have hp := h0.pos
 have hi := q0H h0
 have hs : ∀ x : Int, (Dz a).set (Ez l) [tK x] = Dz (a.set (Ez l) x) := fun x => T8
 have hc : Vu a l = a.set (Ez l) (if l < 0 then 0 else 1) := rfl
 rw [hc]
 unfold D7 at h0
 by_cases hl : l < 0
 ·have hl2 : l = -(Ez l : Int) - 1 := by omega
  generalize Ez l = p at *
  have w1 : IntKind.i64.wrap (-l) = (p : Int) + 1 := by rw [A7] <;> omega
  have w2 : IntKind.i64.wrap (p : Int) = p := by rw [A7] <;> omega
  simp [Ep, hl, w1, w2, A3, Ad, hp, hs, Es]
 ·have hl2 : l = (Ez l : Int) + 1 := by omega
  generalize Ez l = p at *
  have w2 : IntKind.i64.wrap (l - 1) = p := by rw [A7] <;> omega
  simp [Ep, hl, w2, A3, Ad, hp, hs, Es]
theorem q7M (n : Int) : A5 Tryd.prog Γ 22 [tI n] (tI (if n < 0 then 1 else if n > 1000000 then 3 else 0)) := by
 refine Ah q3N rfl ?_
 by_cases h : n < 0
 ·simp [Nz, O0, h]
 ·by_cases h2 : n > 1000000
  ·simp [Nz, O0, h, h2]
  ·simp [Nz, O0, h, h2]
def q1B (v l : Int) : Bool := decide (l = 0) || decide (l < -v) || decide (v < l)
def q0J (v : Int) : List (List Int) → Int
 | [] => 0
 | c :: cs => if 4096 < c.length then 3 else if c.any (q1B v) then 1 else q0J v cs
def Ti (f : Cf) : Int := if f.vars < 0 then 1 else if 65536 < f.vars ∨ 262144 < f.cls.l.length then 3 else q0J f.vars f.L
theorem q68 {Q : AX → St → Prop} (f : Cf) (hv : 0 ≤ f.vars) (hv2 : f.vars ≤ 65536) (A B C : AV) (c : Sl Int) (hl : c.l.length ≤ 4096)
  (h0 : (∀ x ∈ c.l, q1B f.vars x = false) → Q (.exit 3) ⟨[(1, .t (.ip (O2 f) 0)), (22, A), (23, B), (24, C), (31, .t (C5 c)), (32, .t (tI c.l.length)), (33, .t (tI c.l.length)), (34, .t (tB false))], []⟩)
  (h1 : (∃ x ∈ c.l, q1B f.vars x = true) → Q .ret ⟨[(2, .t (tI 1))], []⟩) : ∀ (k i : Nat), k + i = c.l.length → (∀ j, j < i → q1B f.vars (c.l.getD j 0) = false) →
  run Tryd.prog Γ Nv Q ⟨[(1, .t (.ip (O2 f) 0)), (22, A), (23, B), (24, C), (31, .t (C5 c)), (32, .t (tI c.l.length)), (33, .t (tI i))], []⟩
 | 0, i, h, hj => by
  refine Re fun K hK => ?_
  have h2 : i = c.l.length := by omega
  subst h2
  have h0 := h0 fun x hx => by
   obtain ⟨j, hj2, rfl⟩ := List.getElem_of_mem hx
   have := hj j hj2
   rwa [List.getD_eq_getElem?_getD, List.getElem?_eq_getElem hj2] at this
  simp [C5, O2] at h0 ⊢
  simpa using h0
 | k + 1, i, h, hj => by
  refine Re fun K hK => ?_
  have h2 : i < c.l.length := by omega
  have e1 := elC (f := tI) 0 h2
  have e1' := Vv (f := tI) 0 h2
  have w1 : IntKind.i64.wrap ((i : Int) + 1) = (i : Int) + 1 := by rw [A7] <;> omega
  have w2 : IntKind.i64.wrap (-f.vars) = -f.vars := by rw [A7] <;> omega
  have hm := Dy (d := 0) h2
  have hcb : q1B f.vars (c.l.getD i 0) = (decide (c.l.getD i 0 = 0) || decide (c.l.getD i 0 < -f.vars) || decide (f.vars < c.l.getD i 0)) := rfl
  cases hb : q1B f.vars (c.l.getD i 0) with
  | true =>
   have h1 := h1 ⟨_, hm, hb⟩
   rw [hcb] at hb
   generalize c.l.getD i 0 = x at *
   have h3 : x = 0 ∨ x < -f.vars ∨ f.vars < x := by simpa [or_assoc] using hb
   by_cases x0 : x = 0
   ·subst x0
    simp [C5, O2, A3, Ad, h2, e1, e1', w1, w2]
    simpa using h1
   ·by_cases x1 : x < -f.vars
    ·simp [C5, O2, A3, Ad, h2, e1, e1', w1, w2, x0, x1]
     simpa using h1
    ·have x2 : f.vars < x := by omega
     simp [C5, O2, A3, Ad, h2, e1, e1', w1, w2, x0, x1, x2]
     simpa using h1
  | false =>
   have ih := q68 f hv hv2 A B C c hl h0 h1 k (i + 1) (by omega) fun j hj2 => by
    by_cases e : j = i
    ·subst e; exact hb
    ·exact hj j (by omega)
   rw [hcb] at hb
   generalize c.l.getD i 0 = x at *
   have h3 : ¬ x = 0 ∧ ¬ x < -f.vars ∧ ¬ f.vars < x := by simpa [and_assoc] using hb
   obtain ⟨x0, x1, x2⟩ := h3
   simp [C5, O2] at ih
   simp [C5, O2, A3, Ad, h2, e1, e1', w1, w2, x0, x1, x2]
   rw [hK]
   simpa using ih
theorem q86 {v : Int} : ∀ {cs : List (List Int)} {i : Nat}, i < cs.length → q0J v (cs.drop i) = (if 4096 < (cs.getD i []).length then 3 else if (cs.getD i []).any (q1B v) then 1 else q0J v (cs.drop (i + 1)))
 | [], i, h => by simp at h
 | c :: cs, 0, h => rfl
 | c :: cs, i + 1, h => by simpa using q86 (cs := cs) (i := i) (by simpa using h)
theorem q69 {Q : AX → St → Prop} (f : Cf) (hv : 0 ≤ f.vars) (hv2 : f.vars ≤ 65536) (hn : f.cls.l.length ≤ 262144)
  (h0 : q0J f.vars f.L = 0 → Q (.exit 1) ⟨[(1, .t (.ip (O2 f) 0)), (22, .t (B6 f.cls)), (23, .t (tI f.cls.l.length)), (24, .t (tI f.cls.l.length)), (25, .t (tB false))], []⟩)
  (h1 : q0J f.vars f.L ≠ 0 → Q .ret ⟨[(2, .t (tI (q0J f.vars f.L)))], []⟩) : ∀ (k i : Nat), k + i = f.cls.l.length → q0J f.vars (f.L.drop i) = q0J f.vars f.L →
  run Tryd.prog Γ Nw Q ⟨[(1, .t (.ip (O2 f) 0)), (22, .t (B6 f.cls)), (23, .t (tI f.cls.l.length)), (24, .t (tI i))], []⟩
 | 0, i, h, hj => by
  refine Rf fun K hK => ?_
  have h2 : i = f.cls.l.length := by omega
  subst h2
  have h0 := h0 (by rw [← hj, List.drop_eq_nil_of_le (by simp [Cf.L])]; rfl)
  simp [B6, O2] at h0 ⊢
  simpa using h0
 | k + 1, i, h, hj => by
  refine Rf fun K hK => ?_
  have h2 : i < f.cls.l.length := by omega
  have e1 := elC (f := C5) Sl.d h2
  have e1' := Vv (f := C5) Sl.d h2
  have w1 : IntKind.i64.wrap ((i : Int) + 1) = (i : Int) + 1 := by rw [A7] <;> omega
  have hL : f.L.getD i [] = (f.cls.l.getD i Sl.d).l := by simp [Cf.L, List.getD_eq_getElem?_getD, List.getElem?_map, List.getElem?_eq_getElem h2]
  have hat := q86 (v := f.vars) (cs := f.L) (i := i) (by simpa [Cf.L] using h2)
  rw [hj, hL] at hat
  have ih := q69 f hv hv2 hn h0 h1 k (i + 1) (by omega)
  generalize f.cls.l.getD i Sl.d = c at *
  have ec : C5 c = .sl (D9 c.l) c.cap c.nl := rfl
  by_cases hbig : 4096 < c.l.length
  ·rw [if_pos hbig] at hat
   have h1 := h1 (by rw [hat]; decide)
   rw [hat] at h1
   have hb2 : (4096 : Int) < c.l.length := by omega
   simp [B6, O2, A3, Ad, h2, e1, e1', w1, ec, hb2]
   simpa using h1
  ·rw [if_neg hbig] at hat
   have hb2 : ¬ (4096 : Int) < c.l.length := by omega
   have g := fun Q h0 h1 => q68 (Γ := Γ) (Q := Q) f hv hv2 (.t (B6 f.cls)) (.t (tI f.cls.l.length)) (.t (tI i)) c (by omega) h0 h1 c.l.length 0 (by omega) (fun j hj => by omega)
   simp [C5, O2, B6] at g
   simp [B6, O2, A3, Ad, h2, e1, e1', w1, ec, hb2]
   refine g _ (fun hx => ?_) (fun x hx hx2 => ?_)
   ·have hany : c.l.any (q1B f.vars) = false := by
     rw [List.any_eq_false]; intro x hx2; rw [hx x hx2]; simp
    rw [if_neg (by rw [hany]; simp)] at hat
    have ih := ih hat.symm
    simp [B6, O2] at ih
    simp [w1]
    rw [hK]
    simpa using ih
   ·have hany : c.l.any (q1B f.vars) = true := List.any_eq_true.2 ⟨x, hx, hx2⟩
    rw [if_pos hany] at hat
    have h1 := h1 (by rw [hat]; decide)
    rw [hat] at h1
    simpa [Fh] using h1
theorem S9 (f : Cf) (hi : I64 f.vars) : A5 Tryd.prog Γ 13 [.agg (O2 f)] (tI (Ti f)) := by
 refine Ah q3L rfl ?_
 by_cases h : f.vars < 0
 ·simp [Jr, Hj, O2, B6, h, Ti]
 ·by_cases h2 : 65536 < f.vars
  ·simp [Jr, Hj, O2, B6, h, h2, Ti, A3]
  ·by_cases h3 : 262144 < f.cls.l.length
   ·have h3' : (262144 : Int) < f.cls.l.length := by omega
    simp [Jr, Hj, O2, B6, h, h2, h3, h3', Ti, A3]
   ·have h3' : ¬ (262144 : Int) < f.cls.l.length := by omega
    have g := fun Q h0 h1 => q69 (Γ := Γ) (Q := Q) f (by omega) (by omega) (by omega) h0 h1 f.cls.l.length 0 (by omega) rfl
    simp [O2, B6] at g
    simp [Jr, O2, B6, h, h2, h3, h3', A3]
    have he : Ti f = q0J f.vars f.L := by unfold Ti; rw [if_neg h, if_neg (by omega)]
    refine g _ (fun e => ?_) (fun e => ?_)
    ·simp [Hj, he, e]
    ·simp [Hj, he]
def hS (f : Cf) (lim u : Int) (sp : Bool) (a : List Int) : List (Nat × Ak) := [(1000000, .bx [.t (tI f.vars), .t (B6 f.cls), .ls 1000001 0 a.length none, .t (tI lim), .t (tI u), .t (tB sp)]), (1000001, .sl 31 1 (Dz a))]
theorem qHd (l : Int) : (if l < -l then -l else l) - 1 = (if l < 0 then -l - 1 else l - 1) := by split <;> split <;> omega
theorem q87 {Q : AX → St → Prop} (f : Cf) (lim u : Int) (sp : Bool) (n : Nat) (hn : n ≤ 1000000000) (tr : Sl Int) (htr : tr.l.length ≤ 1000000000) (hok : ∀ l ∈ tr.l, D7 n l) (a0 : List Int) (ha : a0.length = n)
  (h0 : Q (.exit 0) ⟨[(0, .lp 1000000 0 0), (6, .t (C5 tr)), (7, .t (tI tr.l.length)), (8, .t (tI tr.l.length)), (9, .t (tB false))], hS f lim u sp (Da a0 tr.l)⟩) : ∀ (k i : Nat), k + i = tr.l.length → ∀ a : List Int, a.length = n → Da a (tr.l.drop i) = Da a0 tr.l →
  run Tryd.prog Γ Fv Q ⟨[(0, .lp 1000000 0 0), (6, .t (C5 tr)), (7, .t (tI tr.l.length)), (8, .t (tI i))], hS f lim u sp a⟩
 | 0, i, h, a, ha1, hu => by
  refine L0 fun K hK => ?_
  have h2 : i = tr.l.length := by omega
  subst h2
  rw [List.drop_length] at hu
  have hu : a = Da a0 tr.l := hu
  rw [← hu] at h0
  simp [C5, hS] at h0 ⊢
  simpa using h0
 | k + 1, i, h, a, ha1, hu => by
  refine L0 fun K hK => ?_
  have h2 : i < tr.l.length := by omega
  have e1 := elC (f := tI) 0 h2
  have e1' := Vv (f := tI) 0 h2
  have w1 : IntKind.i64.wrap ((i : Int) + 1) = (i : Int) + 1 := by rw [A7] <;> omega
  have hl := hok _ (Dy (d := 0) h2)
  have hd : tr.l.drop i = tr.l.getD i 0 :: tr.l.drop (i + 1) := by
   rw [List.getD_eq_getElem?_getD, List.getElem?_eq_getElem h2]; exact List.drop_eq_getElem_cons h2
  rw [hd] at hu
  have ih := q87 f lim u sp n hn tr htr hok a0 ha h0 k (i + 1) (by omega) (a.set (Ez (tr.l.getD i 0)) 2) (by simp [ha1]) hu
  generalize tr.l.getD i 0 = l at *
  have hp := hl.pos
  have hi := q0H hl
  have hx : (if l < -l then -l else l) - 1 = Ez l := by rw [qHd]; unfold D7 at hl; split <;> omega
  unfold D7 at hl
  have w2 : IntKind.i64.wrap (-l) = -l := by rw [A7] <;> omega
  have w3 : IntKind.i64.wrap ((if l < -l then -l else l) - 1) = Ez l := by rw [hx, A7] <;> omega
  have hs : (Dz a).set (Ez l) [tK 2] = Dz (a.set (Ez l) 2) := T8
  have hpa : Ez l < a.length := by omega
  simp [C5, hS] at ih
  simp [C5, hS, A3, Ad, h2, e1, e1', w1, w2, w3, Rr, F3, hpa, hs]
  rw [hK]
  simpa using ih
theorem qEC (f : Cf) (lim u : Int) (sp : Bool) (a : List Int) (hn : a.length ≤ 1000000000) (tr : Sl Int) (htr : tr.l.length ≤ 1000000000) (hok : ∀ l ∈ tr.l, D7 a.length l) : C3 Tryd.prog Γ 49 (hS f lim u sp a) [.lp 1000000 0 0, .t (C5 tr)] (.t (.tup [])) (hS f lim u sp (Da a tr.l)) := by
 refine T9 Wv rfl ?_
 have g := fun Q h0 => q87 (Γ := Γ) (Q := Q) f lim u sp a.length hn tr htr hok a rfl h0 tr.l.length 0 (by omega) a rfl rfl
 simp [C5, hS] at g
 simp [Ot, C5, hS, A3]
 refine g _ ?_
 simp [Ou]
abbrev hP (f : Cf) (lim u : Int) (sp : Bool) (a tr : List Int) : List (Nat × Ak) := (61, .sl 3 1 (D9 tr)) :: hS f lim u sp a
theorem q90 {f : Cf} {lim u : Int} {sp : Bool} {a tr : List Int} {l : Int} : Aa (List.map (An (hP f lim u sp a tr) 4) [.ls 1000001 0 a.length none, .t (tI l)]) = some [tV ⟨a, none, none⟩, tI l] := by
 simp [An, A2, Aa, tV, hS]
theorem q88 {Q : AX → St → Prop} (f : Cf) (lim u : Int) (sp ag : Bool) (a tr : List Int) (hn : a.length ≤ 1000000000) (hv : CV3 a) (c : Sl Int) (hc : c.l.length ≤ 1000000000) (hok : ∀ l ∈ c.l, D7 a.length l) (A B : AV) (R : Int × Int × Bool)
  (h0 : Q (.exit 4) ⟨[(0, .lp 1000000 0 0), (2, .ls 61 0 tr.length none), (4, .t (.fn 21 [])), (5, .t (tB ag)), (8, .t (tI R.1)), (9, .t (tI R.2.1)), (10, .t (tB R.2.2)), (18, .t (B6 f.cls)), (19, A), (20, B), (24, .t (C5 c)), (25, .t (tI c.l.length)), (26, .t (tI c.l.length)), (27, .t (tB false))], hP f lim u sp a tr⟩) :
  ∀ (k i : Nat), k + i = c.l.length → ∀ (o la : Int) (d : Bool), 0 ≤ o → o ≤ i → E1 a (c.l.drop i) o la d = R →
  run Tryd.prog Γ Dj Q ⟨[(0, .lp 1000000 0 0), (2, .ls 61 0 tr.length none), (4, .t (.fn 21 [])), (5, .t (tB ag)), (8, .t (tI o)), (9, .t (tI la)), (10, .t (tB d)), (18, .t (B6 f.cls)), (19, A), (20, B), (24, .t (C5 c)), (25, .t (tI c.l.length)), (26, .t (tI i))], hP f lim u sp a tr⟩
 | 0, i, h, o, la, d, ho, hoi, hR => by
  refine Hf fun K hK => ?_
  have h2 : i = c.l.length := by omega
  subst h2
  rw [List.drop_length] at hR
  simp only [E1] at hR
  subst hR
  simp [C5, B6, hP, hS] at h0 ⊢
  simpa using h0
 | k + 1, i, h, o, la, d, ho, hoi, hR => by
  refine Hf fun K hK => ?_
  have h2 : i < c.l.length := by omega
  have e1 := elC (f := tI) 0 h2
  have e1' := Vv (f := tI) 0 h2
  have w1 : IntKind.i64.wrap ((i : Int) + 1) = (i : Int) + 1 := by rw [A7] <;> omega
  have w2 : IntKind.i64.wrap (o + 1) = o + 1 := by rw [A7] <;> omega
  have hl := hok _ (Dy (d := 0) h2)
  have hd : c.l.drop i = c.l.getD i 0 :: c.l.drop (i + 1) := by
   rw [List.getD_eq_getElem?_getD, List.getElem?_eq_getElem h2]; exact List.drop_eq_getElem_cons h2
  rw [hd] at hR
  simp only [E1] at hR
  have ih := fun o la d => q88 f lim u sp ag a tr hn hv c hc hok A B R h0 k (i + 1) (by omega) o la d
  generalize c.l.getD i 0 = l at *
  have hspec := qAX (Γ := Γ) ⟨a, none, none⟩ l hl hn (fun v hm => by have := hv v hm; omega)
  simp [C5, B6, hP, hS, A3, Ad, h2, e1, e1']
  refine A4 hspec (q90 (f := f) (lim := lim) (u := u) (sp := sp) (tr := tr)) ?_
  generalize Jc a l = x at *
  by_cases x1 : x = 1
  ·rw [if_pos x1] at hR
   subst x1
   have ih := ih o la true ho (by omega) hR
   simp [C5, B6, hP, hS] at ih
   simp [C5, B6, hP, hS, w1, A3]
   rw [hK]
   simpa using ih
  ·rw [if_neg x1] at hR
   by_cases x2 : x = 2
   ·rw [if_pos x2] at hR
    subst x2
    by_cases hc1 : o = 0
    ·have ih := ih (o + 1) l d (by omega) (by omega) (by rwa [if_pos (.inl hc1)] at hR)
     simp [C5, B6, hP, hS] at ih
     subst hc1
     have w2 : IntKind.i64.wrap 1 = 1 := by rw [A7] <;> omega
     simp [C5, B6, hP, hS, w1, w2, A3]
     rw [hK]
     simpa using ih
    ·by_cases hc2 : l = la
     ·have ih := ih o l d ho (by omega) (by rwa [if_neg (by rintro (e | e) <;> contradiction)] at hR)
      simp [C5, B6, hP, hS] at ih
      subst hc2
      simp [C5, B6, hP, hS, w1, w2, hc1, A3]
      rw [hK]
      simpa using ih
     ·have ih := ih (o + 1) l d (by omega) (by omega) (by rwa [if_pos (.inr hc2)] at hR)
      simp [C5, B6, hP, hS] at ih
      simp [C5, B6, hP, hS, w1, w2, hc1, hc2, A3]
      rw [hK]
      simpa using ih
   ·rw [if_neg x2] at hR
    have ih := ih o la d ho (by omega) hR
    simp [C5, B6, hP, hS] at ih
    simp [C5, B6, hP, hS, w1, x1, x2, A3]
    rw [hK]
    simpa using ih
end Go.Lg
