/- Plain data as trees, and how calls are taken. Conditions: none. -/
import Derived.Test.YthgiocdefejbiaaGreatDoorPkC
import Derived.Test.YthgiocdefejbiaaGreatDoorProg
import Derived.KernelRfl
import Derived.Lib.Bytealg
import Derived.Test.YthgiocdefejbiaaGreatDoorRows
import Derived.Test.YthgiocdefejbiaaGreatDoorCards
import Derived.Test.YthgiocdefejbiaaGreatDoorTie
import Derived.ProofKit
import Derived.Deep.DeepHandedRow
import Derived.SevenTiedAt
set_option linter.unusedSimpArgs false
set_option linter.unusedVariables false
namespace Go.Lg
open Go
attribute [simp] D1 D6 T.one AV.one Value.oneCell' Dp G4 G3 B6 q1R ret qGv
@[simp] theorem qJm (a b : Int) : (a == b) = decide (a = b) := rfl
@[simp] theorem qOL (a b : Int) : (a != b) = !decide (a = b) := rfl
@[simp] theorem qOM (s : List UInt8) : (ByteArray.mk s.toArray).size = s.length := by simp [ByteArray.size]
def Aj {α : Type} (f : α → T) (l : List α) : List (List T) := l.map fun n => [f n]
theorem A5 {α : Type} {f : α → T} {l : List α} : (Aj f l).length = l.length := by simp [Aj]
theorem Cb {α : Type} {f : α → T} {l : List α} {i : Nat} (d : α) (h : i < l.length) : (Aj f l)[i]?.getD [] = [f (l[i]?.getD d)] := by simp [Aj, h]
theorem A8 {α : Type} {f : α → T} {l : List α} : E2 1 (Aj f l) := by
 intro e he; obtain ⟨x, _, rfl⟩ := List.mem_map.1 he; rfl
theorem q6w {α : Type} {f : α → T} {l m : List α} : Aj f l ++ Aj f m = Aj f (l ++ m) := by simp [Aj]
theorem Fj {α : Type} {f : α → T} {l : List α} {n : Nat} {x : α} : (Aj f l).set n [f x] = Aj f (l.set n x) := by simp [Aj, List.map_set]
theorem Cf {α : Type} {f : α → T} : Aj f [] = [] := rfl
@[simp] theorem qJn {s : Nat} : E2 s [] := fun e h => by cases h
def B1 {α : Type} (f : α → List T) (l : List α) : List (List T) := l.map f
theorem Ac {α : Type} {f : α → List T} {l : List α} : (B1 f l).length = l.length := by simp [B1]
theorem Ei {α : Type} {f : α → List T} {l : List α} {i : Nat} (d : α) (h : i < l.length) : (B1 f l)[i]?.getD [] = f (l[i]?.getD d) := by simp [B1, h]
theorem q3U {α : Type} {f : α → List T} {l : List α} {s : Nat} (h : ∀ x, (f x).length = s) : E2 s (B1 f l) := by
 intro e he; obtain ⟨x, _, rfl⟩ := List.mem_map.1 he; exact h x
theorem q3V {α : Type} {f : α → List T} {l m : List α} : B1 f l ++ B1 f m = B1 f (l ++ m) := by simp [B1]
@[simp] theorem Ar {α : Type} {f : α → T} {l : List α} : (Aj f l).take l.length = Aj f l := by rw [List.take_of_length_le (by simp [Aj])]
theorem D2 {α : Type} {f : α → T} {l : List α} {x : α} : Aj f l ++ [[f x]] = Aj f (l ++ [x]) := by simp [Aj]
@[simp] theorem qBE {α : Type} {f : α → List T} {l : List α} : (B1 f l).take l.length = B1 f l := by rw [List.take_of_length_le (by simp [B1])]
theorem q1T {α : Type} {f : α → List T} {l : List α} {x : α} : B1 f l ++ [f x] = B1 f (l ++ [x]) := by simp [B1]
structure Sl (α : Type) where
 l : List α
 cap : Option Nat
 nl : Option Bool
abbrev tI (n : Int) : T := .v (.int .i64 n)
abbrev tK (n : Int) : T := .v (.int .u8 n)
abbrev tB (b : Bool) : T := .v (.bool b)
abbrev Ak (l : List Int) : List (List T) := Aj tI l
def Av (s : Sl Int) : T := .sl (Ak s.l) s.cap s.nl
@[simp] theorem qLt {cs : List AV} : Qs (.bx cs) = ∀ c ∈ cs, G3 c := rfl
@[simp] theorem qLu {s : ByteArray} {p : Nat} : Qs (.it s p) = True := rfl
@[simp] theorem qKe {ty s : Nat} : Qs (.sl ty s []) = True := by simp [Qs]
theorem q2J {α : Type} {f : α → T} {l : List α} {ty s : Nat} (h : ∀ x, B6 (f x) = true) : Qs (.sl ty s (Aj f l)) := by
 intro e he t ht
 obtain ⟨x, _, rfl⟩ := List.mem_map.1 he
 simp only [List.mem_singleton] at ht; subst ht; exact h x
@[simp] theorem qGw {l : List Int} {ty s : Nat} : Qs (.sl ty s (Aj tI l)) = True := eq_true (q2J fun _ => rfl)
@[simp] theorem qMu {l : List Int} {ty s : Nat} : Qs (.sl ty s (Aj tK l)) = True := eq_true (q2J fun _ => rfl)
@[simp] theorem qMv {l : List Bool} {ty s : Nat} : Qs (.sl ty s (Aj tB l)) = True := eq_true (q2J fun _ => rfl)
section
variable {P : Program} {Γ : Tables} {hp : List (Nat × Bn)} {f : FuncId} {avs : List AV} {K : T → Prop} {ts : List T} {res : T}
theorem Ae (h : Ah P Γ f ts res) (ht : As (avs.map toT) = some ts) (hk : K res) : q5G P Γ hp f avs K ⟨⟩ := ⟨res, .inl ⟨ts, ht, h⟩, hk⟩
theorem A4 (h : A6 P Γ f ts res) (ht : As (avs.map (Am hp 4)) = some ts) (hk : K res) : q5G P Γ hp f avs K ⟨⟩ := ⟨res, .inr ⟨ts, ht, h⟩, hk⟩
theorem B7 {ic : IC} {N n : Nat} {rvs : List RV} {args : List T} (hc : Au P f ic N n rvs = true) (hn : args.length = n) (h : run P Γ ic (ret false rvs fun r => r = res) ⟨params 0 args, []⟩) : Ah P Γ f args res := by
 obtain ⟨r, h1, rfl⟩ := run_pure hc hn h; exact h1
theorem Aa {ic : IC} {N n : Nat} {rvs : List RV} {args : List T} (hc : Au P f ic N n rvs = true) (hn : args.length = n) (h : run P Γ ic (ret true rvs fun r => r = res) ⟨params 0 args, []⟩) : A6 P Γ f args res := by
 obtain ⟨r, h1, rfl⟩ := qBm hc hn h; exact h1
theorem N7 {ic : IC} {N n : Nat} {rvs : List RV} {args : List AV} {r0 : AV} {hp' : List (Nat × Bn)} (hc : Au P f ic N n rvs = true) (hn : args.length = n) (h : run P Γ ic (qGv rvs fun r h => r = r0 ∧ h = hp') ⟨qCX 0 args, hp⟩) : Hn P Γ f hp args r0 hp' := by
 obtain ⟨r, h', h1, rfl, rfl⟩ := qHx hc hn h; exact h1
end
end Go.Lg
namespace Go.Lg
open Go
section
variable {P : Program} {Γ : Tables} {Q : AX → St → Prop} {s : St}
/- probecard/netlists.Check (function 32) -/
abbrev q0G : IC := (.seq (.reg [od 1 (.box true (tm 0)), od 2 (.mv (ki 0))] [kp [1] []]) (.seq (.reg [od 6 (lG 4 1), od 7 (.call 91 [(tm 6)]), om 5 7, od 8 (ex 5 0), od 9 (ex 5 1), om 3 8, om 4 9] [kp [4] []]) (.seq (.reg [om 10 4, om 2 10] [kp [2]
 []]) .ret)))
def q0H : List RV := [.tmp 2]
/- probecard/netlists.Of (function 90) -/
abbrev q3W : IC := .gh (.seq (.reg [od 12 (.bin .lss (tm 11) (tm 10))] [kp [1, 5, 9, 10, 11, 12] [23]]) (.seq (.cond (tm 12) .skip (.exit 0)) (.seq (.block 1 (.seq (.reg [om 13 11, od 14 (ia 4 9 11), od 15 (lG 4 14), od 7 (.alloc false [(.int .u8 0),
 (.slice none 0 0), (.int .i64 0), (.int .i64 0)]), om 6 13, on (.store 4 (tm 7) (tm 15))] [kp [1, 5, 6, 7, 9, 10, 11] [7, 23]]) (.seq (.reg [om 16 1, od 17 (fa 0 7), od 18 (ld 1 17), od 19 (.call 144 [(tm 16), (tm 18)])] [kp [1, 5,
 6, 9, 10, 11, 19] [23]]) (.cond (tm 19) (.reg [om 20 5, om 21 6, od 22 (.bsl true 3 1 [(tm 21)]), od 23 (.app false 3 1 (tm 20) (tm 22)), om 5 23] [kp [1, 5, 9, 10, 11] [23]]) .skip)))) (.reg [od 24 (.bin .add (tm 11) (ki 1)), om
 11 24] [kp [1, 5, 9, 10, 11] [23]])))) [kp [1, 5, 9, 10, 11] [23]]
def Qv : IC := .loop q3W
abbrev q3X : IC := (.seq (.reg [od 2 (.box true (tm 0)), od 4 (.mv kN)] [kp [1, 2] []]) (.seq (.reg [od 5 (.mv kN)] [.nl 5 23 3 1, kp [1, 2, 5] [23]]) (.seq (.seq (.reg [od 8 (fa 0 2), od 9 (ld 1 8), od 10 (le 0 9), od 11 (.mv (ki 0))] [kp [1, 5, 9,
 10, 11] [23]]) (.block 0 Qv)) (.seq (.reg [om 25 5, od 26 (.hcall 86 [(tm 25)] [23] 26000), om 4 26] [kp [4] [23]]) .ret))))
theorem Yp (h : ∀ K : St → Prop, K = run P Γ Qv Q → run P Γ q3W (An K Q) s) : run P Γ Qv Q s := Af h
def q3Y : List RV := [.tmp 4]
/- probecard/netlists.States (function 31) -/
abbrev Yq : IC := (.seq (.reg [od 1 (.box true (tm 0)), od 2 (.mv kN)] [kp [1] []]) (.seq (.reg [od 3 (lG 4 1), od 4 (.bsl true 80 1 [(ku 14)]), od 5 (.call 90 [(tm 3), (tm 4)]), om 2 5] [kp [2] []]) .ret))
def Yr : List RV := [.tmp 2]
/- probecard/netlists.Comb (function 48) -/
abbrev q1U : IC := (.seq (.reg [od 2 (.mv kF)] [kp [0] []]) (.seq (.reg [om 3 0, od 4 (.bin .geq (tm 3) (ku 1)), om 5 4, oT 6 (.mv (tm 0)) 5, oT 7 (.bin .leq (tm 6) (ku 13)) 5, od 8 (.pick (tm 5) (tm 7) kF), om 2 8] [kp [2] []]) .ret))
def q1V : List RV := [.tmp 2]
/- slices.Clip[[]int,int] (function 86) -/
abbrev Ys : IC := (.seq (.reg [od 2 (.mv kN)] [kp [0] [1000000]]) (.seq (.reg [om 3 0, om 4 0, od 5 (le 0 4), om 6 0, od 7 (le 0 6), od 8 (.slice 1 (tm 3) none (some (tm 5)) (some (tm 7))), om 2 8] [kp [2] [1000000]]) .ret))
def Yt : List RV := [.tmp 2]
/- probecard/netlists.Levels (function 91) -/
def Fo : List RO := [om 45 6, om 46 8, od 47 (ia 1 45 46), od 48 (ld 1 47), od 49 (.bin .eql (tm 48) (ki 0))]
def O2 : List RO := [om 50 7, om 51 8, od 52 (.bsl true 3 1 [(tm 51)]), od 53 (.app false 3 1 (tm 50) (tm 52)), om 7 53]
def O3 : List RO := [od 54 (.bin .add (tm 31) (ki 1)), om 31 54]
abbrev Yu : IC := .gh (.seq (.reg [od 32 (.bin .lss (tm 31) (tm 30))] [kp [1, 5, 6, 7, 29, 30, 31, 32] [23, 27, 53]]) (.seq (.cond (tm 32) .skip (.exit 0)) (.seq (.block 1 (.seq (.reg [om 33 31, od 34 (ia 4 29 31), od 35 (lG 4 34), od 9 (.alloc
 false [(.int .u8 0), (.slice none 0 0), (.int .i64 0), (.int .i64 0)]), om 8 33, on (.store 4 (tm 9) (tm 35))] [kp [1, 5, 6, 7, 8, 9, 29, 30, 31] [9, 23, 27, 53]]) (.seq (.seq (.reg [od 36 (fa 0 9), od 37 (ld 1 36), od 38 (.call 48
 [(tm 37)])] [kp [1, 5, 6, 7, 8, 9, 29, 30, 31, 38] [9, 23, 27, 53]]) (.cond (tm 38) (.reg [om 39 6, om 40 8, od 41 (fa 1 9), od 42 (ld 1 41), od 43 (le 0 42), od 44 (ia 1 39 40), on (.store 1 (tm 44) (tm 43))] [kp [1, 5, 6, 7, 8,
 29, 30, 31] [23, 27, 53]]) .skip)) (.seq (.reg Fo [kp [1, 5, 6, 7, 8, 29, 30, 31, 49] [23, 27, 53]]) (.cond (tm 49) (.reg O2 [kp [1, 5, 6, 7, 29, 30, 31] [23, 27, 53]]) .skip))))) (.reg
 O3 [kp [1, 5, 6, 7, 29, 30, 31] [23, 27, 53]])))) [kp [1, 5, 6, 7, 29, 30, 31] [23, 27, 53]]
def J3 : IC := .loop Yu
abbrev Yv : IC := .gh (.seq (.reg [od 79 (.bin .lss (tm 78) (tm 77))] [kp [1, 5, 6, 7, 10, 11, 12, 76, 77, 78, 79] [23, 27, 53]]) (.seq (.cond (tm 79) .skip (.exit 4)) (.seq (.block 5 (.seq (.reg [od 80 (ia 2 76 78), od 81 (lG 2 80), od 14 (.alloc
 false [(.int .i64 0), (.int .i64 0)]), on (.store 2 (tm 14) (tm 81))] [kp [1, 5, 6, 7, 10, 11, 12, 14, 76, 77, 78] [14, 23, 27, 53]]) (.seq (.seq (.reg [od 82 (fa 0 1), od 83 (ld 1 82), od 84 (fa 0 14), od 85 (ld 1 84), od 86 (ia 4
 83 85), od 87 (fa 0 86), od 88 (ld 1 87), od 89 (.call 48 [(tm 88)]), od 90 (.un .not (tm 89))] [kp [1, 5, 6, 7, 10, 11, 12, 14, 76, 77, 78, 90] [14, 23, 27, 53]]) (.cond (tm 90) (.exit 5) .skip)) (.seq (.reg [om 91 5, od 92 (fa 0
 14), od 93 (.ldR 14 1 false (tm 92)), om 94 5, od 95 (fa 0 14), od 96 (.ldR 14 1 false (tm 95)), od 97 (ia 1 94 96), od 98 (.ldR 23 1 false (tm 97)), om 99 5, om 100 12, od 101 (ia 1 99 100), od 102 (.ldR 23 1 false (tm 101)), od
 103 (.bin .add (tm 102) (ki 1)), od 104 (.mmx true [(tm 98), (tm 103)]), od 105 (ia 1 91 93), on (.stR 23 1 (tm 105) (tm 104))] [kp [1, 5, 6, 7, 10, 11, 12, 14, 76, 77, 78] [14, 23, 27, 53]]) (.seq (.reg [om 106 6, od 107 (fa 0
 14), od 108 (ld 1 107), od 109 (ia 1 106 108), od 110 (ld 1 109), od 111 (.bin .sub (tm 110) (ki 1)), od 112 (ia 1 106 108), on (.store 1 (tm 112) (tm 111))] [kp [1, 5, 6, 7, 10, 11, 12, 14, 76, 77, 78] [14, 23, 27, 53]]) (.seq
 (.reg [om 113 6, od 114 (fa 0 14), od 115 (ld 1 114), od 116 (ia 1 113 115), od 117 (ld 1 116), od 118 (.bin .eql (tm 117) (ki 0))] [kp [1, 5, 6, 7, 10, 11, 12, 14, 76, 77, 78, 118] [14, 23, 27, 53]]) (.cond (tm 118) (.reg [om 119
 7, od 120 (fa 0 14), od 121 (ld 1 120), od 122 (.bsl true 3 1 [(tm 121)]), oz 123 (.app false 3 1 (tm 119) (tm 122)) 53, om 7 123] [kp [1, 5, 6, 7, 10, 11, 12, 76, 77, 78] [23, 27, 53]]) .skip))))))) (.reg [od 124 (.bin .add (tm
 78) (ki 1)), om 78 124] [kp [1, 5, 6, 7, 10, 11, 12, 76, 77, 78] [23, 27, 53]])))) [kp [1, 5, 6, 7, 10, 11, 12, 76, 77, 78] [23, 27, 53]]
def J4 : IC := .loop Yv
abbrev Yw : IC := .gh (.seq (.seq (.reg [om 57 11, om 58 7, od 59 (le 0 58), od 60 (.bin .lss (tm 57) (tm 59))] [kp [1, 5, 6, 7, 10, 11, 60] [23, 27, 53]]) (.cond (tm 60) .skip (.exit 2))) (.block 3 (.seq (.reg [om 61 7, om 62 11, od 63 (ia 1 61
 62), od 64 (ld 1 63), om 12 64] [kp [1, 5, 6, 7, 10, 11, 12] [23, 27, 53]]) (.seq (.reg [om 65 11, od 66 (.bin .add (tm 65) (ki 1)), om 11 66] [kp [1, 5, 6, 7, 10, 11, 12] [23, 27, 53]]) (.seq (.seq (.reg [om 67 10, om 68 12, od 69
 (ia 1 67 68), od 70 (ld 1 69), od 71 (le 0 70), od 72 (.bin .eql (tm 71) (ki 0))] [kp [1, 5, 6, 7, 10, 11, 12, 72] [23, 27, 53]]) (.cond (tm 72) (.exit 3) .skip)) (.seq (.reg [om 73 10, om 74 12, od 75 (ia 1 73 74), od 76 (ld 1
 75), od 77 (le 0 76), od 78 (.mv (ki 0))] [kp [1, 5, 6, 7, 10, 11, 12, 76, 77, 78] [23, 27, 53]]) (.block 4 J4))))))) [kp [1, 5, 6, 7, 10, 11] [23, 27, 53]]
def J5 : IC := .loop Yw
abbrev Yx : IC := (.seq (.reg [od 1 (.box true (tm 0)), od 2 (.mv kN), od 3 (.mv (ki 0))] [kp [1] []]) (.scope (.seq (.seq (.reg [od 15 (lG 4 1), od 16 (.call 145 [(tm 15)]), om 4 16] [kp [1, 4] []]) (.seq (.reg [om 17 4, od 18 (.bin .neq (tm 17)
 (ki 0))] [kp [1, 4, 18] []]) (.cond (tm 18) (.seq (.reg [om 19 4, od 2 (.mv kN), om 3 19] [kp [2, 3] [23]]) .ret) .skip))) (.seq (.reg [od 20 (fa 0 1), od 21 (ld 1 20), od 22 (le 0 21), od 23 (.mk 3 1 [(.int .i64 0)] (tm 22) (tm
 22)), om 5 23] [kp [1, 5] [23]]) (.seq (.reg [od 24 (fa 0 1), od 25 (ld 1 24), od 26 (le 0 25), od 27 (.mk 3 1 [(.int .i64 0)] (tm 26) (tm 26)), om 6 27] [kp [1, 5, 6] [23, 27]]) (.seq (.reg [od 7 (.mv kN)] [.nl 7 53 3 1, kp [1, 5,
 6, 7] [23, 27, 53]]) (.seq (.seq (.reg [od 28 (fa 0 1), od 29 (ld 1 28), od 30 (le 0 29), od 31 (.mv (ki 0))] [kp [1, 5, 6, 7, 29, 30, 31] [23, 27, 53]]) (.block 0 J3)) (.seq (.reg [od 55 (lG 4 1), od 56 (.call 146
 [(tm 55)]), om 10 56] [kp [1, 5, 6, 7, 10] [23, 27, 53]]) (.seq (.reg [od 11 (.mv (ki 0))] [kp [1, 5, 6, 7, 10, 11] [23, 27, 53]]) (.seq .skip (.seq (.block 2 J5) (.seq (.seq (.reg [om 125 11, od 126 (fa 0 1), od
 127 (ld 1 126), od 128 (le 0 127), od 129 (.bin .lss (tm 125) (tm 128))] [kp [5, 129] [23]]) (.cond (tm 129) (.seq (.reg [od 2 (.mv kN), od 3 (.mv (ki 6))] [kp [2, 3] [23]]) .ret) .skip)) (.seq (.reg [om 130 5, om 2 130, od 3 (.mv
 (ki 0))] [kp [2, 3] [23]]) .ret)))))))))))))
theorem Qw (h : ∀ K : St → Prop, K = run P Γ J3 Q → run P Γ Yu (An K Q) s) : run P Γ J3 Q s := Af h
theorem Qx (h : ∀ K : St → Prop, K = run P Γ J4 Q → run P Γ Yv (An K Q) s) : run P Γ J4 Q s := Af h
theorem Qy (h : ∀ K : St → Prop, K = run P Γ J5 Q → run P Γ Yw (An K Q) s) : run P Γ J5 Q s := Af h
attribute [simp] Fo O2 O3
def J6 : List RV := [.tmp 2, .tmp 3]
/- slices.Contains[[]probecard/api.Kind,probecard/api.Kind] (function 144) -/
abbrev Jz : IC := (.seq (.reg [od 4 (.mv kF)] [kp [0, 1] []]) (.seq (.reg [om 5 0, om 6 1, od 7 (.call 164 [(tm 5), (tm 6)]), od 8 (.bin .geq (tm 7) (ki 0)), om 4 8] [kp [4] []]) .ret))
def K1 : List RV := [.tmp 4]
/- probecard/netlists.shape (function 145) -/
abbrev q0I : IC := .gh (.seq (.reg [od 39 (.bin .lss (tm 38) (tm 37))] [kp [1, 36, 37, 38, 39] []]) (.seq (.cond (tm 39) .skip (.exit 1)) (.seq (.block 2 (.seq (.reg [od 40 (ia 4 36 38), od 41 (lG 4 40), od 4 (.alloc false [(.int .u8 0), (.slice none
 0 0), (.int .i64 0), (.int .i64 0)]), on (.store 4 (tm 4) (tm 41))] [kp [1, 4, 36, 37, 38] [4]]) (.seq (.reg [od 42 (lG 4 1), od 43 (lG 4 4), od 44 (.call 165 [(tm 42), (tm 43)]), om 5 44] [kp [1, 5, 36, 37, 38] []]) (.seq (.reg
 [om 45 5, od 46 (.bin .neq (tm 45) (ki 0))] [kp [1, 5, 36, 37, 38, 46] []]) (.cond (tm 46) (.seq (.reg [om 47 5, om 2 47] [kp [2] []]) .ret) .skip))))) (.reg [od 48 (.bin .add (tm 38) (ki 1)), om 38 48] [kp [1, 36, 37, 38] []]))))
 [kp [1, 36, 37, 38] []]
def K5 : IC := .loop q0I
abbrev q0J : IC := .gh (.seq (.reg [od 58 (.bin .lss (tm 57) (tm 56))] [kp [1, 55, 56, 57, 58] []]) (.seq (.cond (tm 58) .skip (.exit 3)) (.seq (.block 4 (.seq (.reg [od 59 (ia 3 55 57), od 60 (lG 3 59), od 8 (.alloc false [(.slice none 0 0), (.slice
 none 0 0), (.int .i64 0)]), on (.store 3 (tm 8) (tm 60))] [kp [1, 8, 55, 56, 57] [8]]) (.seq (.reg [od 61 (lG 4 1), od 62 (lG 3 8), od 63 (.call 167 [(tm 61), (tm 62)]), om 9 63] [kp [1, 9, 55, 56, 57] []]) (.seq (.reg [om 64 9, od
 65 (.bin .neq (tm 64) (ki 0))] [kp [1, 9, 55, 56, 57, 65] []]) (.cond (tm 65) (.seq (.reg [om 66 9, om 2 66] [kp [2] []]) .ret) .skip))))) (.reg [od 67 (.bin .add (tm 57) (ki 1)), om 57 67] [kp [1, 55, 56, 57] []])))) [kp [1, 55,
 56, 57] []]
def K6 : IC := .loop q0J
abbrev Fa : IC := (.seq (.reg [od 1 (.box true (tm 0)), od 2 (.mv (ki 0))] [kp [1] []]) (.seq (.block 0 (.seq (.reg [od 11 (fa 0 1), od 12 (ld 1 11), od 13 (le 0 12), od 14 (.bin .gtr (tm 13) (ki 16384)), om 15 14, oF 16 (fa 2 1) 15, oF 17 (ld 1 16)
 15, oF 18 (le 0 17) 15, oF 19 (.bin .gtr (tm 18) (ki 16)) 15, od 20 (.pick (tm 15) kT (tm 19)), om 21 20, oF 22 (fa 3 1) 21, oF 23 (ld 1 22) 21, oF 24 (le 0 23) 21, oF 25 (.bin .gtr (tm 24) (ki 16384)) 21, od 26 (.pick (tm 21) kT
 (tm 25)), om 10 26] [kp [1, 10] []]) (.cond (tm 10) (.seq (.reg [od 2 (.mv (ki 3))] [kp [2] []]) .ret) (.seq (.reg [od 28 (fa 1 1), od 29 (ld 1 28), od 30 (le 0 29), od 31 (fa 0 1), od 32 (ld 1 31), od 33 (le 0 32), od 34 (.bin
 .neq (tm 30) (tm 33)), om 27 34] [kp [1, 27] []]) (.cond (tm 27) (.seq (.reg [od 2 (.mv (ki 8))] [kp [2] []]) .ret) .skip))))) (.seq (.seq (.reg [od 35 (fa 0 1), od 36 (ld 1 35), od 37 (le 0 36), od 38 (.mv (ki 0))] [kp [1, 36, 37,
 38] []]) (.block 1 K5)) (.seq (.seq (.reg [od 49 (lG 4 1), od 50 (.call 166 [(tm 49)]), om 6 50] [kp [1, 6] []]) (.seq (.reg [om 51 6, od 52 (.bin .neq (tm 51) (ki 0))] [kp [1, 6, 52] []]) (.cond (tm 52) (.seq (.reg
 [om 53 6, om 2 53] [kp [2] []]) .ret) .skip))) (.seq (.seq (.reg [od 54 (fa 2 1), od 55 (ld 1 54), od 56 (le 0 55), od 57 (.mv (ki 0))] [kp [1, 55, 56, 57] []]) (.block 3 K6)) (.seq (.seq (.reg [od 68 (fa 3 1), od 69
 (ld 1 68), od 70 (lG 4 1), od 71 (.call 169 [(tm 70)]), od 72 (.call 168 [(tm 69), (tm 71)])] [kp [72] []]) (.cond (tm 72) (.seq (.reg [od 2 (.mv (ki 1))] [kp [2] []]) .ret) .skip)) (.seq (.reg [od 2 (.mv (ki 0))] [kp [2] []])
 .ret)))))))
theorem To (h : ∀ K : St → Prop, K = run P Γ K5 Q → run P Γ q0I (An K Q) s) : run P Γ K5 Q s := Af h
theorem Tq (h : ∀ K : St → Prop, K = run P Γ K6 Q → run P Γ q0J (An K Q) s) : run P Γ K6 Q s := Af h
def Ci : List RV := [.tmp 2]
/- probecard/netlists.Fanout (function 146) -/
def Ec : List RO := [om 37 3, om 38 8, om 39 3, om 40 8, od 41 (ia 1 39 40), od 42 (ld 1 41), om 43 5, om 44 7, od 45 (.build [(1, (tm 43)), (1, (tm 44))]), od 46 (.bsl true 192 2 [(tm 45)]), od 47 (.app false 192 2 (tm 42) (tm 46)), od 48 (ia 1 37
 38), on (.store 1 (tm 48) (tm 47))]
def O4 : List RO := [od 49 (.bin .add (tm 28) (ki 1)), om 28 49]
abbrev Yy : IC := .gh (.seq (.reg [od 29 (.bin .lss (tm 28) (tm 27))] [.keepB [3, 4, 5, 18, 19, 20, 26, 27, 28, 29] [14] 100000 16384]) (.seq (.cond (tm 29) .skip (.exit 2)) (.seq (.block 3 (.seq (.reg [om 30 28, od 31 (ia 1 26 28), od 32 (ld 1 31),
 om 7 30, om 8 32] [.keepB [3, 4, 5, 7, 8, 18, 19, 20, 26, 27, 28] [14] 100000 16384]) (.seq (.reg [om 33 4, om 34 8, od 35 (.callv (tm 33) [(tm 34)]), od 36 (.un .not (tm 35))] [.keepB [3, 4, 5, 7, 8, 18, 19, 20, 26, 27, 28, 36]
 [14] 100000 16384]) (.cond (tm 36) (.reg Ec [.renS 47 100000 8, .keepB [3, 4, 5, 18, 19, 20, 26, 27, 28] [14] 100000 16384]) .skip)))) (.reg O4 [.keepB [3, 4, 5, 18, 19, 20, 26, 27, 28] [14] 100000
 16384])))) [.keepB [3, 4, 5, 18, 19, 20, 26, 27, 28] [14] 100000 16384]
def J7 : IC := .loop Yy
abbrev Yz : IC := .gh (.seq (.reg [od 21 (.bin .lss (tm 20) (tm 19))] [.keepB [3, 4, 18, 19, 20, 21] [14] 100000 16384]) (.seq (.cond (tm 21) .skip (.exit 0)) (.seq (.block 1 (.seq (.reg [om 22 20, od 23 (ia 4 18 20), od 24 (lG 4 23), od 6 (.alloc
 false [(.int .u8 0), (.slice none 0 0), (.int .i64 0), (.int .i64 0)]), om 5 22, on (.store 4 (tm 6) (tm 24))] [.keepB [3, 4, 5, 6, 18, 19, 20] [6, 14] 100000 16384]) (.seq (.reg [od 25 (fa 1 6), od 26 (ld 1 25), od 27 (le 0 26),
 od 28 (.mv (ki 0))] [.keepB [3, 4, 5, 18, 19, 20, 26, 27, 28] [14] 100000 16384]) (.block 2 J7)))) (.reg [od 50 (.bin .add (tm 20) (ki 1)), om 20 50] [.keepB [3, 4, 18, 19, 20] [14] 100000 16384])))) [.keepB [3, 4,
 18, 19, 20] [14] 100000 16384]
def J8 : IC := .loop Yz
abbrev Z0 : IC := .gh (.seq (.reg [od 54 (.bin .lss (tm 53) (tm 52))] [kp [3, 51, 52, 53, 54] [14, 47]]) (.seq (.cond (tm 54) .skip (.exit 4)) (.seq (.block 5 (.seq (.reg [om 55 53, od 56 (ia 1 51 53), od 57 (ld 1 56), om 9 55, om 10 57] [kp [3, 9,
 10, 51, 52, 53] [14, 47]]) (.reg [om 58 3, om 59 9, om 60 10, od 61 (.call 170 [(tm 60)]), od 62 (ia 1 58 59), on (.store 1 (tm 62) (tm 61))] [kp [3, 51, 52, 53] [14, 47]]))) (.reg [od 63 (.bin .add (tm 53) (ki 1)), om 53 63] [kp
 [3, 51, 52, 53] [14, 47]])))) [kp [3, 51, 52, 53] [14, 47]]
def J9 : IC := .loop Z0
abbrev Z1 : IC := (.seq (.reg [od 1 (.box true (tm 0)), od 2 (.mv kN)] [kp [1] []]) (.seq (.reg [od 11 (fa 0 1), od 12 (ld 1 11), od 13 (le 0 12), od 14 (.mkB 190 [(.slice none 0 0)] (tm 13) (tm 13)), om 3 14] [.keepB [1, 3] [14] 100000 16384])
 (.seq (.reg [od 15 (lG 4 1), od 16 (.call 169 [(tm 15)]), om 4 16] [.keepB [1, 3, 4] [14] 100000 16384]) (.seq (.seq (.reg [od 17 (fa 0 1), od 18 (ld 1 17), od 19 (le 0 18), od 20 (.mv (ki 0))] [.keepB [3, 4, 18, 19, 20] [14]
 100000 16384]) (.block 0 J8)) (.seq (.seq (.reg [om 51 3, od 52 (le 0 51), od 53 (.mv (ki 0))] [.frzs 100000 16384, kp [3, 51, 52, 53] [14, 47]]) (.block 4 J9)) (.seq (.reg [om 64 3, om 2 64] [kp [2]
 [14, 47]]) .ret))))))
theorem Qz (h : ∀ K : St → Prop, K = run P Γ J7 Q → run P Γ Yy (An K Q) s) : run P Γ J7 Q s := Af h
theorem R7 (h : ∀ K : St → Prop, K = run P Γ J8 Q → run P Γ Yz (An K Q) s) : run P Γ J8 Q s := Af h
theorem R9 (h : ∀ K : St → Prop, K = run P Γ J9 Q → run P Γ Z0 (An K Q) s) : run P Γ J9 Q s := Af h
attribute [simp] Ec O4
def Z2 : List RV := [.tmp 2]
/- slices.Index[[]probecard/api.Kind,probecard/api.Kind] (function 164) -/
abbrev Oc : IC := .gh (.seq (.reg [od 9 (.bin .lss (tm 8) (tm 7))] [kp [0, 1, 7, 8, 9] []]) (.seq (.cond (tm 9) .skip (.exit 0)) (.seq (.block 1 (.seq (.reg [om 10 8, om 5 10] [kp [0, 1, 5, 7, 8] []]) (.seq (.reg [om 11 1, om 12 0, om 13 5, od 14
 (ia 1 12 13), od 15 (ld 1 14), od 16 (.bin .eql (tm 11) (tm 15))] [kp [0, 1, 5, 7, 8, 16] []]) (.cond (tm 16) (.seq (.reg [om 17 5, om 4 17] [kp [4] []]) .ret) .skip)))) (.reg [od 18 (.bin .add (tm 8) (ki 1)), om 8 18] [kp [0, 1,
 7, 8] []])))) [kp [0, 1, 7, 8] []]
def Ew : IC := .loop Oc
def Ho : List RO := [od 4 (.mv (.const (.int .i64 (-1))))]
abbrev Oe : IC := (.seq (.reg [od 4 (.mv (ki 0))] [kp [0, 1] []]) (.seq (.seq (.reg [om 6 0, od 7 (le 0 6), od 8 (.mv (ki 0))] [kp [0, 1, 7, 8] []]) (.block 0 Ew)) (.seq (.reg Ho [kp [4] []]) .ret)))
theorem Jh (h : ∀ K : St → Prop, K = run P Γ Ew Q → run P Γ Oc (An K Q) s) : run P Γ Ew Q s := Af h
attribute [simp] Ho
def Dq : List RV := [.tmp 4]
/- probecard/logic.Fanin (function 113) -/
abbrev Z3 : IC := (.seq (.reg [od 2 (.mv (ki 0)), od 3 (.mv (ki 0))] [kp [0] []]) (.seq (.seq (.reg [om 4 0, od 5 (.conv .i64 (tm 4)), od 6 (.bin .geq (tm 5) (ki 16))] [kp [0, 6] []]) (.cond (tm 6) (.seq (.reg [od 2 (.mv (ki 0)), od 3 (.mv (.const
 (.int .i64 (-1))))] [kp [2, 3] []]) .ret) .skip)) (.seq (.reg [om 7 0, od 8 (.iadrA 16 2 (.global 0) (tm 7)), od 9 (.iadrA 2 1 (tm 8) (ki 0)), od 10 (ld 1 9), om 11 0, od 12 (.iadrA 16 2 (.global 0) (tm 11)), od 13 (.iadrA 2 1 (tm
 12) (ki 1)), od 14 (ld 1 13), om 2 10, om 3 14] [kp [2, 3] []]) .ret)))
def Z4 : List RV := [.tmp 2, .tmp 3]
/- strings.IndexByte (function 162) -/
abbrev Vs : IC := (.seq (.reg [od 4 (.mv (ki 0))] [kp [0, 1] []]) (.seq (.reg [om 5 0, om 6 1, od 7 (.call 180 [(tm 5), (tm 6)]), om 4 7] [kp [4] []]) .ret))
def Vt : List RV := [.tmp 4]
/- probecard/netlists.node (function 165) -/
abbrev q1W : IC := (.seq (.reg [od 2 (.box true (tm 0)), od 3 (.box true (tm 1)), od 4 (.mv (ki 0))] [kp [2, 3] []]) (.seq (.reg [od 9 (fa 0 3), od 10 (ld 1 9), od 11 (.call 113 [(tm 10)]), om 8 11, od 12 (ex 8 0), od 13 (ex 8 1), om 5 12, om 6 13]
 [kp [2, 3, 5, 6] []]) (.seq (.reg [od 14 (.mkf 183 [(tm 2)]), om 7 14] [kp [2, 3, 5, 6, 7] []]) (.seq (.block 0 (.seq (.reg [od 16 (fa 0 3), od 17 (ld 1 16), od 18 (.bin .gtr (tm 17) (ku 15)), om 15 18] [kp [2, 3, 5, 6, 7, 15] []])
 (.cond (tm 15) (.seq (.reg [od 4 (.mv (ki 7))] [kp [4] []]) .ret) (.seq (.reg [od 20 (fa 1 3), od 21 (ld 1 20), od 22 (le 0 21), om 23 5, od 24 (.bin .lss (tm 22) (tm 23)), om 25 24, oF 26 (fa 1 3) 25, oF 27 (ld 1 26) 25, oF 28 (le
 0 27) 25, oF 29 (.mv (tm 6)) 25, oF 30 (.bin .gtr (tm 28) (tm 29)) 25, od 31 (.pick (tm 25) kT (tm 30)), om 19 31] [kp [2, 3, 7, 19] []]) (.cond (tm 19) (.seq (.reg [od 4 (.mv (ki 8))] [kp [4] []]) .ret) (.seq (.reg [od 33 (fa 1
 3), od 34 (ld 1 33), od 35 (lG 4 2), od 36 (.call 169 [(tm 35)]), od 37 (.call 168 [(tm 34), (tm 36)]), om 32 37] [kp [2, 3, 7, 32] []]) (.cond (tm 32) (.seq (.reg [od 4 (.mv (ki 1))] [kp [4] []]) .ret) (.seq (.reg [od 39 (fa 0 3),
 od 40 (ld 1 39), od 41 (.bin .eql (tm 40) (ku 13)), om 42 41, oT 43 (fa 1 3) 42, oT 44 (ld 1 43) 42, oT 45 (.mv (tm 7)) 42, oT 46 (.call 168 [(tm 44), (tm 45)]) 42, od 47 (.pick (tm 42) (tm 46) kF), om 38 47] [kp [2, 3, 38] []])
 (.cond (tm 38) (.seq (.reg [od 4 (.mv (ki 7))] [kp [4] []]) .ret) (.seq (.reg [od 49 (lG 4 2), od 50 (lG 4 3), od 51 (.call 184 [(tm 49), (tm 50)]), od 52 (.un .not (tm 51)), om 48 52] [kp [48] []]) (.cond (tm 48) (.seq (.reg [od 4
 (.mv (ki 1))] [kp [4] []]) .ret) .skip))))))))))) (.seq (.reg [od 4 (.mv (ki 0))] [kp [4] []]) .ret)))))
def E4 : List RV := [.tmp 4]
/- probecard/netlists.names (function 166) -/
abbrev q0K : IC := .gh (.seq (.reg [od 11 (.bin .lss (tm 10) (tm 9))] [kp [3, 8, 9, 10, 11] [6]]) (.seq (.cond (tm 11) .skip (.exit 0)) (.seq (.block 1 (.seq (.reg [od 12 (ia 1 8 10), od 13 (ld 1 12), om 5 13] [kp [3, 5, 8, 9, 10] [6]]) (.seq (.seq
 (.reg [om 14 5, od 15 (.call 185 [(tm 14)]), od 16 (.un .not (tm 15)), om 17 16, oF 18 (.mv (tm 3)) 17, oF 19 (.mv (tm 5)) 17, oF 20 (.lkup .str (.bool false) false (tm 18) (tm 19)) 17, od 21 (.pick (tm 17) kT (tm 20))] [kp [3, 5,
 8, 9, 10, 21] [6]]) (.cond (tm 21) (.seq (.reg [od 2 (.mv (ki 5))] [kp [2] []]) .ret) .skip)) (.reg [om 22 3, om 23 5, on (.mup .str (tm 22) (tm 23) kT)] [kp [3, 8, 9, 10] [6]])))) (.reg [od 24 (.bin .add (tm 10) (ki 1)), om 10 24]
 [kp [3, 8, 9, 10] [6]])))) [kp [3, 8, 9, 10] [6]]
def K7 : IC := .loop q0K
abbrev q0L : IC := (.seq (.reg [od 1 (.box true (tm 0)), od 2 (.mv (ki 0))] [kp [1] []]) (.seq (.reg [od 6 (.mkmap), om 3 6] [kp [1, 3] [6]]) (.seq (.seq (.reg [od 7 (fa 1 1), od 8 (ld 1 7), od 9 (le 0 8), od 10 (.mv (ki 0))] [kp [3, 8, 9, 10] [6]])
 (.block 0 K7)) (.seq (.reg [od 2 (.mv (ki 0))] [kp [2] []]) .ret))))
theorem Tt (h : ∀ K : St → Prop, K = run P Γ K7 Q → run P Γ q0K (An K Q) s) : run P Γ K7 Q s := Af h
def Rb : List RV := [.tmp 2]
/- probecard/netlists.memory (function 167) -/
abbrev Z5 : IC := (.seq (.reg [od 2 (.box true (tm 0)), od 3 (.box true (tm 1)), od 4 (.mv (ki 0))] [kp [2, 3] []]) (.seq (.reg [od 5 (.mv (.func 186))] [kp [2, 3, 5] []]) (.seq (.reg [od 7 (lG 4 2), od 8 (.call 169 [(tm 7)]), om 6 8] [kp [3, 5, 6]
 []]) (.seq (.block 0 (.seq (.reg [om 10 5, od 11 (fa 0 3), od 12 (ld 1 11), od 13 (.callv (tm 10) [(tm 12), (ki 8)]), om 14 13, oF 15 (.mv (tm 5)) 14, oF 16 (fa 1 3) 14, oF 17 (ld 1 16) 14, oF 18 (.callv (tm 15) [(tm 17), (ki 32)])
 14, od 19 (.pick (tm 14) kT (tm 18)), om 9 19] [kp [3, 6, 9] []]) (.cond (tm 9) (.seq (.reg [od 4 (.mv (ki 8))] [kp [4] []]) .ret) (.seq (.reg [od 21 (fa 0 3), od 22 (ld 1 21), om 23 6, od 24 (.call 168 [(tm 22), (tm 23)]), om 25
 24, oF 26 (fa 1 3) 25, oF 27 (ld 1 26) 25, oF 28 (.mv (tm 6)) 25, oF 29 (.call 168 [(tm 27), (tm 28)]) 25, od 30 (.pick (tm 25) kT (tm 29)), om 31 30, oF 32 (.mv (tm 6)) 31, oF 33 (fa 2 3) 31, oF 34 (ld 1 33) 31, oF 35 (.callv (tm
 32) [(tm 34)]) 31, od 36 (.pick (tm 31) kT (tm 35)), om 20 36] [kp [20] []]) (.cond (tm 20) (.seq (.reg [od 4 (.mv (ki 1))] [kp [4] []]) .ret) .skip))))) (.seq (.reg [od 4 (.mv (ki 0))] [kp [4] []]) .ret)))))
def Dz : List RV := [.tmp 4]
/- slices.ContainsFunc[[]int,int] (function 168) -/
abbrev Lj : IC := (.seq (.reg [od 4 (.mv kF)] [kp [0, 1] []]) (.seq (.reg [om 5 0, om 6 1, od 7 (.call 187 [(tm 5), (tm 6)]), od 8 (.bin .geq (tm 7) (ki 0)), om 4 8] [kp [4] []]) .ret))
def Ll : List RV := [.tmp 4]
/- probecard/netlists.outside (function 169) -/
abbrev X8 : IC := (.seq (.reg [od 1 (.box true (tm 0)), od 2 (.mv (.const .nilFunc))] [kp [1] []]) (.seq (.reg [od 3 (.mkf 188 [(tm 1)]), om 2 3] [kp [2] []]) .ret))
def X9 : List RV := [.tmp 2]
/- slices.Clip[[]probecard/api.Line,probecard/api.Line] (function 170) -/
abbrev Q4 : IC := (.seq (.reg [od 2 (.mv kN)] [kp [0] []]) (.seq (.reg [om 3 0, om 4 0, od 5 (le 0 4), om 6 0, od 7 (le 0 6), od 8 (.slice 2 (tm 3) none (some (tm 5)) (some (tm 7))), om 2 8] [kp [2] []]) .ret))
def Q5 : List RV := [.tmp 2]
/- internal/stringslite.IndexByte (function 180) -/
abbrev Lm : IC := (.seq (.reg [od 4 (.mv (ki 0))] [kp [0, 1] []]) (.seq (.reg [om 5 0, om 6 1, od 7 (.call 197 [(tm 5), (tm 6)]), om 4 7] [kp [4] []]) .ret))
def Ln : List RV := [.tmp 4]
/- probecard/netlists.node$1 (function 183) -/
abbrev Z6 : IC := (.seq (.reg [od 3 (.mv kF)] [kp [0, 1] []]) (.seq (.reg [od 4 (fa 0 1), od 5 (ld 1 4), om 6 0, od 7 (ia 4 5 6), od 8 (fa 0 7), od 9 (ld 1 8), od 10 (.bin .neq (tm 9) (ku 12)), om 3 10] [kp [3] []]) .ret))
def Z7 : List RV := [.tmp 3]
/- probecard/netlists.bit (function 184) -/
abbrev Ff : IC := (.seq (.reg [od 2 (.box true (tm 0)), od 3 (.box true (tm 1)), od 4 (.mv kF)] [kp [2, 3] []]) (.seq (.seq (.reg [od 5 (fa 0 3), od 6 (ld 1 5), od 7 (.bin .neq (tm 6) (ku 15))] [kp [2, 3, 7] []]) (.cond (tm 7) (.seq (.reg [od 8 (fa
 2 3), od 9 (ld 1 8), od 10 (.bin .eql (tm 9) (ki 0)), om 11 10, oT 12 (fa 3 3) 11, oT 13 (ld 1 12) 11, oT 14 (.bin .eql (tm 13) (ki 0)) 11, od 15 (.pick (tm 11) (tm 14) kF), om 4 15] [kp [4] []]) .ret) .skip)) (.seq (.reg [od 16
 (fa 2 3), od 17 (ld 1 16), od 18 (.bin .geq (tm 17) (ki 0)), om 19 18, oT 20 (fa 2 3) 19, oT 21 (ld 1 20) 19, oT 22 (fa 2 2) 19, oT 23 (ld 1 22) 19, oT 24 (le 0 23) 19, oT 25 (.bin .lss (tm 21) (tm 24)) 19, od 26 (.pick (tm 19) (tm
 25) kF), om 27 26, oT 28 (fa 3 3) 27, oT 29 (ld 1 28) 27, oT 30 (.bin .geq (tm 29) (ki 0)) 27, od 31 (.pick (tm 27) (tm 30) kF), om 32 31, oT 33 (fa 3 3) 32, oT 34 (ld 1 33) 32, oT 35 (fa 2 2) 32, oT 36 (ld 1 35) 32, oT 37 (fa 2 3)
 32, oT 38 (ld 1 37) 32, oT 39 (ia 3 36 38) 32, oT 40 (fa 1 39) 32, oT 41 (ld 1 40) 32, oT 42 (le 0 41) 32, oT 43 (.bin .lss (tm 34) (tm 42)) 32, od 44 (.pick (tm 32) (tm 43) kF), om 4 44] [kp [4] []]) .ret)))
def Fg : List RV := [.tmp 4]
/- probecard/netlists.IsName (function 185) -/
abbrev Ja : IC := (.seq (.reg [od 2 (.mv kF)] [kp [0] []]) (.seq (.reg [od 3 (.mv (.func 198))] [kp [0, 3] []]) (.seq (.reg [om 4 0, od 5 (.bin .neq (tm 4) (.const (sV []))), om 6 5, oT 7 (.mv (tm 0)) 6, oT 8 (le 1 7) 6, oT 9 (.bin .leq (tm 8) (ki
 32)) 6, od 10 (.pick (tm 6) (tm 9) kF), om 11 10, oT 12 (.mv (tm 0)) 11, oT 13 (.mv (tm 3)) 11, oT 14 (.call 200 [(tm 12), (tm 13)]) 11, oT 15 (.un .not (tm 14)) 11, od 16 (.pick (tm 11) (tm 15) kF), om 2 16] [kp [2] []]) .ret)))
def Jb : List RV := [.tmp 2]
/- probecard/netlists.memory$1 (function 186) -/
abbrev Vu : IC := (.seq (.reg [od 4 (.mv kF)] [kp [0, 1] []]) (.seq (.reg [om 5 0, od 6 (le 0 5), od 7 (.bin .eql (tm 6) (ki 0)), om 8 7, oF 9 (.mv (tm 0)) 8, oF 10 (le 0 9) 8, oF 11 (.mv (tm 1)) 8, oF 12 (.bin .gtr (tm 10) (tm 11)) 8, od 13 (.pick
 (tm 8) kT (tm 12)), om 4 13] [kp [4] []]) .ret))
def Vv : List RV := [.tmp 4]
/- slices.IndexFunc[[]int,int] (function 187) -/
abbrev Q6 : IC := .gh (.seq (.reg [od 9 (.bin .lss (tm 8) (tm 7))] [kp [0, 1, 7, 8, 9] []]) (.seq (.cond (tm 9) .skip (.exit 0)) (.seq (.block 1 (.seq (.reg [om 10 8, om 5 10] [kp [0, 1, 5, 7, 8] []]) (.seq (.reg [om 11 1, om 12 0, om 13 5, od 14
 (ia 1 12 13), od 15 (ld 1 14), od 16 (.callv (tm 11) [(tm 15)])] [kp [0, 1, 5, 7, 8, 16] []]) (.cond (tm 16) (.seq (.reg [om 17 5, om 4 17] [kp [4] []]) .ret) .skip)))) (.reg [od 18 (.bin .add (tm 8) (ki 1)), om 8 18] [kp [0, 1, 7,
 8] []])))) [kp [0, 1, 7, 8] []]
def Fb : IC := .loop Q6
abbrev Q7 : IC := (.seq (.reg [od 4 (.mv (ki 0))] [kp [0, 1] []]) (.seq (.seq (.reg [om 6 0, od 7 (le 0 6), od 8 (.mv (ki 0))] [kp [0, 1, 7, 8] []]) (.block 0 Fb)) (.seq (.reg [od 4 (.mv (.const (.int .i64 (-1))))] [kp [4] []])
 .ret)))
theorem K8 (h : ∀ K : St → Prop, K = run P Γ Fb Q → run P Γ Q6 (An K Q) s) : run P Γ Fb Q s := Af h
def Ia : List RV := [.tmp 4]
/- probecard/netlists.outside$1 (function 188) -/
abbrev Tu : IC := (.seq (.reg [od 3 (.mv kF)] [kp [0, 1] []]) (.seq (.reg [om 4 0, od 5 (.bin .lss (tm 4) (ki 0)), om 6 5, oF 7 (.mv (tm 0)) 6, oF 8 (fa 0 1) 6, oF 9 (ld 1 8) 6, oF 10 (le 0 9) 6, oF 11 (.bin .geq (tm 7) (tm 10)) 6, od 12 (.pick (tm
 6) kT (tm 11)), om 3 12] [kp [3] []]) .ret))
def Tv : List RV := [.tmp 3]
/- probecard/netlists.IsName$1 (function 198) -/
abbrev Hf : IC := (.seq (.reg [od 2 (.mv kF)] [kp [0] []]) (.seq (.reg [om 3 0, od 4 (.bin .leq (tm 3) (.const (.int .i32 32))), om 5 4, oF 6 (.mv (tm 0)) 5, oF 7 (.bin .gtr (tm 6) (.const (.int .i32 126))) 5, od 8 (.pick (tm 5) kT (tm 7)), om 9 8,
 oF 10 (.mv (tm 0)) 9, oF 11 (.call 199 [(.const (sV [40, 41, 61, 44, 35])), (tm 10)]) 9, od 12 (.pick (tm 9) kT (tm 11)), om 2 12] [kp [2] []]) .ret))
def Hg : List RV := [.tmp 2]
/- strings.ContainsRune (function 199) -/
abbrev Q8 : IC := (.seq (.reg [od 4 (.mv kF)] [kp [0, 1] []]) (.seq (.reg [om 5 0, om 6 1, od 7 (.call 206 [(tm 5), (tm 6)]), od 8 (.bin .geq (tm 7) (ki 0)), om 4 8] [kp [4] []]) .ret))
def Q9 : List RV := [.tmp 4]
/- strings.ContainsFunc (function 200) -/
abbrev Qa : IC := (.seq (.reg [od 4 (.mv kF)] [kp [0, 1] []]) (.seq (.reg [om 5 0, om 6 1, od 7 (.call 207 [(tm 5), (tm 6)]), od 8 (.bin .geq (tm 7) (ki 0)), om 4 8] [kp [4] []]) .ret))
def Qb : List RV := [.tmp 4]
/- strings.IndexRune (function 206) -/
abbrev Vw : IC := (.seq (.reg [od 4 (.mv (ki 0))] [kp [0, 1] []]) (.block 0 (.seq (.reg [om 161 1, od 162 (.bin .leq (.const (.int .i32 0)) (tm 161)), om 163 162, oT 164 (.mv (tm 1)) 163, oT 165 (.bin .lss (tm 164) (.const (.int .i32 128))) 163, od
 166 (.pick (tm 163) (tm 165) kF), om 160 166] [kp [0, 1, 160] []]) (.cond (tm 160) (.seq (.reg [om 167 0, om 168 1, od 169 (.conv .u8 (tm 168)), od 170 (.call 162 [(tm 167), (tm 169)]), om 4 170] [kp [4] []]) .ret) (.seq (.reg [om
 172 1, od 173 (.bin .eql (tm 172) (.const (.int .i32 65533))), om 171 173] [kp [1, 171] []]) (.cond (tm 171) .dead (.seq (.reg [om 184 1, od 185 (.call 208 [(tm 184)]), od 186 (.un .not (tm 185)), om 183 186] [kp [183] []]) (.cond
 (tm 183) .dead .dead))))))))
def Vx : List RV := [.tmp 4]
/- strings.IndexFunc (function 207) -/
abbrev Vy : IC := (.seq (.reg [od 4 (.mv (ki 0))] [kp [0, 1] []]) (.seq (.reg [om 5 0, om 6 1, od 7 (.call 211 [(tm 5), (tm 6), kT]), om 4 7] [kp [4] []]) .ret))
def Vz : List RV := [.tmp 4]
/- unicode/utf8.ValidRune (function 208) -/
abbrev W0 : IC := .gh (.seq (.reg [od 11 (.nxt (tm 10)), od 12 (ex 11 0)] [kp [1, 2, 10, 11, 12] [10]]) (.seq (.cond (tm 12) .skip (.exit 0)) (.block 1 (.seq (.reg [od 13 (ex 11 1), od 14 (ex 11 2), om 7 13, om 8 14] [kp [1, 2, 7, 8, 10] [10]])
 (.seq (.reg [om 15 1, om 16 8, od 17 (.callv (tm 15) [(tm 16)]), om 18 2, od 19 (.eqb true (tm 17) (tm 18))] [kp [1, 2, 7, 10, 19] [10]]) (.cond (tm 19) (.seq (.reg [om 20 7, om 6 20] [kp [6] []]) .ret) .skip)))))) [kp [1, 2, 10]
 [10]]
def Hh : IC := .loop W0
abbrev W1 : IC := (.seq (.reg [od 6 (.mv (ki 0))] [kp [0, 1, 2] []]) (.seq (.seq (.reg [om 9 0, od 10 (.rng (tm 9))] [kp [1, 2, 10] [10]]) (.block 0 Hh)) (.seq (.reg [od 6 (.mv (.const (.int .i64 (-1))))] [kp [6] []]) .ret)))
theorem Og (h : ∀ K : St → Prop, K = run P Γ Hh Q → run P Γ W0 (An K Q) s) : run P Γ Hh Q s := Af h
def Lo : List RV := [.tmp 6]
end
end Go.Lg
namespace Go.Lg
open Go Go.Proofs
theorem q6C : Au Tryz.prog 32 q0G 11 1 q0H = true := by kernel_rfl
theorem q9I : Au Tryz.prog 90 q3X 27 2 q3Y = true := by kernel_rfl
theorem q4y : Au Tryz.prog 31 Yq 6 1 Yr = true := by kernel_rfl
theorem q6x : Au Tryz.prog 48 q1U 9 1 q1V = true := by kernel_rfl
theorem q4z : Au Tryz.prog 86 Ys 9 1 Yt = true := by kernel_rfl
theorem q50 : Au Tryz.prog 91 Yx 131 1 J6 = true := by kernel_rfl
theorem Wx : Au Tryz.prog 144 Jz 9 2 K1 = true := by kernel_rfl
theorem q6D : Au Tryz.prog 145 Fa 73 1 Ci = true := by kernel_rfl
theorem q51 : Au Tryz.prog 146 Z1 65 1 Z2 = true := by kernel_rfl
theorem q09 : Au Tryz.prog 164 Oe 19 2 Dq = true := by kernel_rfl
theorem q9J : Au Tryz.prog 113 Z3 15 1 Z4 = true := by kernel_rfl
theorem q3B : Au Tryz.prog 162 Vs 8 2 Vt = true := by kernel_rfl
theorem q6y : Au Tryz.prog 165 q1W 53 2 E4 = true := by kernel_rfl
theorem q6E : Au Tryz.prog 166 q0L 25 1 Rb = true := by kernel_rfl
theorem q52 : Au Tryz.prog 167 Z5 37 2 Dz = true := by kernel_rfl
theorem Y4 : Au Tryz.prog 168 Lj 9 2 Ll = true := by kernel_rfl
theorem q3Z : Au Tryz.prog 169 X8 4 1 X9 = true := by kernel_rfl
theorem q14 : Au Tryz.prog 170 Q4 9 1 Q5 = true := by kernel_rfl
theorem Y5 : Au Tryz.prog 180 Lm 8 2 Ln = true := by kernel_rfl
theorem q53 : Au Tryz.prog 183 Z6 11 2 Z7 = true := by kernel_rfl
theorem q8A : Au Tryz.prog 184 Ff 45 2 Fg = true := by kernel_rfl
theorem q54 : Au Tryz.prog 185 Ja 17 1 Jb = true := by kernel_rfl
theorem q3C : Au Tryz.prog 186 Vu 14 2 Vv = true := by kernel_rfl
theorem q15 : Au Tryz.prog 187 Q7 19 2 Ia = true := by kernel_rfl
theorem q2K : Au Tryz.prog 188 Tu 13 2 Tv = true := by kernel_rfl
theorem q3D : Au Tryz.prog 198 Hf 13 1 Hg = true := by kernel_rfl
theorem q16 : Au Tryz.prog 199 Q8 9 2 Q9 = true := by kernel_rfl
theorem q17 : Au Tryz.prog 200 Qa 9 2 Qb = true := by kernel_rfl
theorem q3E : Au Tryz.prog 206 Vw 187 2 Vx = true := by kernel_rfl
theorem q3F : Au Tryz.prog 207 Vy 8 2 Vz = true := by kernel_rfl
theorem q3G : Au Tryz.prog 211 W1 21 3 Lo = true := by kernel_rfl
end Go.Lg
set_option maxRecDepth 100000
namespace Go.Lg
open Go Go.Proofs
variable {Γ : Tables}
theorem qBp (es : List (List T)) (cap : Option Nat) (nl : Option Bool) (hw : E2 2 es) : Ah Tryz.prog Γ 170 [.sl es cap nl] (.sl es (some es.length) nl) := by
 refine B7 q14 rfl ?_
 simp [Q4, Q5, ret, hw]
theorem qF6 (ty : Nat) (es : List (List T)) (len : Nat) (cap : Option Nat) (hw : E2 1 es) : Hn Tryz.prog Γ 86 [(1000000, .sl ty 1 es)] [.ls 1000000 0 len cap] (.ls 1000000 0 len (some len)) [(1000000, .sl ty 1 es)] := by
 refine N7 q4z rfl ?_
 simp [Ys, Yt, qGv, hw]
def q18 {α : Type} (p : α → Bool) (l : List α) : Int := match l.findIdx? p with | some i => i | none => -1
theorem q2L {α : Type} {p : α → Bool} {l : List α} {i : Nat} (hp : ∀ j, j < i → ∀ x, l[j]? = some x → p x = false) (x : α) (hx : l[i]? = some x) (h : p x = true) : l.findIdx? p = some i := by
 rw [List.findIdx?_eq_some_iff_getElem]
 have hi := (List.getElem?_eq_some_iff.1 hx).1
 refine ⟨hi, ?_, fun j hj => ?_⟩
 ·have := (List.getElem?_eq_some_iff.1 hx).2; rw [this]; exact h
 ·have := hp j hj l[j] (List.getElem?_eq_getElem (by omega))
  simp [this]
theorem q2l (l : List Int) (c : Option Nat) (nl : Option Bool) (x : Int) (hl : l.length ≤ 1000000000) : ∀ (k i : Nat), k + i = l.length → (∀ j, j < i → ∀ y, l[j]? = some y → (y == x) = false) →
  run Tryz.prog Γ Ew (Lh 0 (An (run Tryz.prog Γ (.seq (.reg Ho [.keep [4] []]) .ret) (ret true Dq fun r => r = tI (q18 (· == x) l))) (ret true Dq fun r => r = tI (q18 (· == x) l)))) ⟨[(0, .t (.sl (Aj tK l) c nl)), (1, .t (tK x)), (7, .t (tI l.length)), (8, .t (tI i))], []⟩
 | 0, i, h, hp => by
  refine Jh fun K hK => ?_
  have h2 : ¬ i < l.length := by omega
  simp (disch := omega) [A5, Cb (0 : Int), A8, A9, h2, ret, Dq, Dp, G4, G3, B6]
  have : l.findIdx? (· == x) = none := by
   rw [List.findIdx?_eq_none_iff]
   intro y hy
   obtain ⟨j, hj, rfl⟩ := List.getElem_of_mem hy
   exact hp j (by omega) _ (List.getElem?_eq_getElem hj)
  have e : l.findIdx? (fun y => decide (y = x)) = _ := this
  simp [q18, e]
 | k + 1, i, h, hp => by
  refine Jh fun K hK => ?_
  have h2 : i < l.length := by omega
  simp (disch := omega) [A5, Cb (0 : Int), A8, A9, h2]
  refine ⟨fun hc => ?_, fun hc => ?_⟩
  ·simp [Bv, ret, Dq, Dp, G4, G3, B6]
   have := q2L (p := (· == x)) hp l[i] (List.getElem?_eq_getElem h2) (by simp [hc])
   have e : l.findIdx? (fun y => decide (y = x)) = _ := this
   simp [q18, e]
  ·simp (disch := omega) [Bv, A9]
   rw [hK]
   exact_mod_cast q2l l c nl x hl k (i + 1) (by omega) (fun j hj y hy => by
    rcases Nat.lt_succ_iff_lt_or_eq.1 hj with hj | rfl
    ·exact hp j hj y hy
    ·rw [List.getElem?_eq_getElem h2] at hy; simp at hy; subst hy
     simp; exact fun e => hc e.symm)
theorem qF7 (l : List Int) (c : Option Nat) (nl : Option Bool) (x : Int) (hl : l.length ≤ 1000000000) : A6 Tryz.prog Γ 164 [.sl (Aj tK l) c nl, tK x] (tI (q18 (· == x) l)) := by
 refine Aa q09 rfl ?_
 simp (disch := omega) [Oe, A5, A9]
 exact_mod_cast q2l l c nl x hl l.length 0 (by omega) (by simp)
theorem qBF (l : List Int) (c : Option Nat) (nl : Option Bool) (x : Int) (hl : l.length ≤ 1000000000) : A6 Tryz.prog Γ 144 [.sl (Aj tK l) c nl, tK x] (tB (l.contains x)) := by
 refine Aa Wx rfl ?_
 simp (disch := omega) [Jz, A5, A9]
 refine A4 (qF7 l c nl x hl) rfl ?_
 simp [ret, K1, Dp, G4, G3, B6]
 unfold q18
 cases h : l.findIdx? (· == x) with
 | none =>
  rw [List.findIdx?_eq_none_iff] at h
  have : ¬ x ∈ l := fun hx => by simpa using h x hx
  simp [this]
 | some i =>
  rw [List.findIdx?_eq_some_iff_getElem] at h
  obtain ⟨hi, h1, _⟩ := h
  have : x ∈ l := by rw [← (show l[i] = x by simpa using h1)]; exact List.getElem_mem hi
  simp [this]
theorem Qc {cs : List T} : As (cs.map fun t => some t) = some cs := by
 induction cs with
 | nil => rfl
 | cons t cs ih => simp only [List.map_cons, As, ih, Option.map_some]
theorem Z8 {hp : List (Nat × Bn)} {f : FuncId} {K : T → Prop} {cs : List T} {t res : T} (h : A6 Tryz.prog Γ f (t :: cs) res) (hk : K res) : q5G Tryz.prog Γ hp f (.t t :: cs.map .t) K ⟨⟩ :=
 A4 h (by simp only [List.map_cons, List.map_map, Function.comp_def, As, Am]; rw [Qc]; rfl) hk
theorem q3a {Q : AX → St → Prop} (l : List Int) (c : Option Nat) (nl : Option Bool) (f : FuncId) (cs : List T) (p : Int → Bool) (hp : ∀ x ∈ l, A6 Tryz.prog Γ f (tI x :: cs) (tB (p x))) (hl : l.length ≤ 1000000000)
  (h0 : (∀ x ∈ l, p x = false) → Q (.exit 0) ⟨[(0, .t (.sl (Ak l) c nl)), (1, .t (.fn f cs)), (7, .t (tI l.length)), (8, .t (tI l.length)), (9, .t (tB false))], []⟩)
  (h1 : ∀ i : Nat, l.findIdx? p = some i → Q .ret ⟨[(4, .t (tI i))], []⟩) : ∀ (k i : Nat), k + i = l.length → (∀ j, j < i → ∀ y, l[j]? = some y → p y = false) →
  run Tryz.prog Γ Fb Q ⟨[(0, .t (.sl (Ak l) c nl)), (1, .t (.fn f cs)), (7, .t (tI l.length)), (8, .t (tI i))], []⟩
 | 0, i, h, hq => by
  refine K8 fun K hK => ?_
  have h2 : ¬ i < l.length := by omega
  simp (disch := omega) [A5, Cb (0 : Int), A8, A9, h2]
  have h3 : i = l.length := by omega
  subst h3
  refine h0 fun y hy => ?_
  obtain ⟨j, hj, rfl⟩ := List.getElem_of_mem hy
  exact hq j (by omega) _ (List.getElem?_eq_getElem hj)
 | k + 1, i, h, hq => by
  refine K8 fun K hK => ?_
  have h2 : i < l.length := by omega
  simp (disch := omega) [A5, Cb (0 : Int), A8, A9, h2]
  refine Z8 (hp l[i] (List.getElem_mem h2)) ?_
  simp
  refine ⟨fun hc => ?_, fun hc => ?_⟩
  ·simp [Bv]
   exact h1 i (q2L hq l[i] (List.getElem?_eq_getElem h2) hc)
  ·simp (disch := omega) [Bv, A9]
   rw [hK]
   exact_mod_cast q3a l c nl f cs p hp hl h0 h1 k (i + 1) (by omega) (fun j hj y hy => by
    rcases Nat.lt_succ_iff_lt_or_eq.1 hj with hj | rfl
    ·exact hq j hj y hy
    ·rw [List.getElem?_eq_getElem h2] at hy; simp at hy; subst hy; exact hc)
theorem qBG (l : List Int) (c : Option Nat) (nl : Option Bool) (f : FuncId) (cs : List T) (p : Int → Bool) (hp : ∀ x ∈ l, A6 Tryz.prog Γ f (tI x :: cs) (tB (p x))) (hl : l.length ≤ 1000000000) : A6 Tryz.prog Γ 187 [.sl (Ak l) c nl, .fn f cs] (tI (q18 p l)) := by
 refine Aa q15 rfl ?_
 simp (disch := omega) [Q7, A5, A9]
 refine q3a l c nl f cs p hp hl (fun h => ?_) (fun i h => ?_) l.length 0 (by omega) (by simp)
 ·have : l.findIdx? p = none := List.findIdx?_eq_none_iff.2 h
  simp [ret, Ia, Dp, G4, G3, B6, q18, this]
 ·simp [ret, Ia, Dp, G4, G3, B6, q18, h]
theorem q1X (l : List Int) (c : Option Nat) (nl : Option Bool) (f : FuncId) (cs : List T) (p : Int → Bool) (hp : ∀ x ∈ l, A6 Tryz.prog Γ f (tI x :: cs) (tB (p x))) (hl : l.length ≤ 1000000000) : A6 Tryz.prog Γ 168 [.sl (Ak l) c nl, .fn f cs] (tB (l.any p)) := by
 refine Aa Y4 rfl ?_
 simp (disch := omega) [Lj, A5, A9]
 refine A4 (qBG l c nl f cs p hp hl) rfl ?_
 simp [ret, Ll, Dp, G4, G3, B6]
 unfold q18
 cases h : l.findIdx? p with
 | none =>
  rw [List.findIdx?_eq_none_iff] at h
  have : l.any p = false := by rw [List.any_eq_false]; intro x hx; simp [h x hx]
  simp [this]
 | some i =>
  rw [List.findIdx?_eq_some_iff_getElem] at h
  obtain ⟨hi, h1, _⟩ := h
  have : l.any p = true := List.any_eq_true.2 ⟨_, List.getElem_mem hi, h1⟩
  simp [this]
theorem q8B (k : Int) : A6 Tryz.prog Γ 48 [tK k] (tB (decide (1 ≤ k ∧ k ≤ 13))) := by
 refine Aa q6x rfl ?_
 by_cases h1 : 1 ≤ k <;> by_cases h2 : k ≤ 13 <;> simp [q1U, ret, q1V, Dp, G4, G3, B6, h1, h2]
structure Nd where
 k : Int
 inn : Sl Int
 mem : Int
 bit : Int
structure Mm where
 addr : Sl Int
 data : Sl Int
 write : Int
structure Bd where
 nodes : Sl Nd
 names : Sl (List UInt8)
 mems : Sl Mm
 outs : Sl Int
def E0 (x : Nd) : List T := [tK x.k, Av x.inn, tI x.mem, tI x.bit]
def Ug (m : Mm) : List T := [Av m.addr, Av m.data, tI m.write]
def tS (l : List UInt8) : T := .v (sV l)
def Ab (s : Sl Nd) : T := .sl (B1 E0 s.l) s.cap s.nl
def Ad (s : Sl (List UInt8)) : T := .sl (Aj tS s.l) s.cap s.nl
def Ag (s : Sl Mm) : T := .sl (B1 Ug s.l) s.cap s.nl
def tC (c : Bd) : List T := [Ab c.nodes, Ad c.names, Ag c.mems, Av c.outs]
def Nd.d : Nd := ⟨0, ⟨[], none, none⟩, 0, 0⟩
def Mm.d : Mm := ⟨⟨[], none, none⟩, ⟨[], none, none⟩, 0⟩
theorem Bi {l : List Nd} : E2 4 (B1 E0 l) := q3U fun _ => rfl
theorem P0 {l : List Mm} : E2 3 (B1 Ug l) := q3U fun _ => rfl
structure CirOk (c : Bd) : Prop where
 nodes : c.nodes.l.length ≤ 1000000000
 names : c.names.l.length ≤ 1000000000
 mems : c.mems.l.length ≤ 1000000000
 outs : c.outs.l.length ≤ 1000000000
 kind : ∀ x ∈ c.nodes.l, 0 ≤ x.k ∧ x.k ≤ 255
 inn : ∀ x ∈ c.nodes.l, x.inn.l.length ≤ 1000000000
 addr : ∀ m ∈ c.mems.l, m.addr.l.length ≤ 1000000000 ∧ m.data.l.length ≤ 1000000000
def Re (c : Bd) (n : Int) : Bool := decide (n < 0 ∨ (c.nodes.l.length : Int) ≤ n)
theorem q19 (c : Bd) (n : Int) (hc : c.nodes.l.length ≤ 1000000000) : A6 Tryz.prog Γ 188 [tI n, .ip (tC c) 0] (tB (Re c n)) := by
 refine Aa q2K rfl ?_
 by_cases h1 : n < 0 <;> simp (disch := omega) [Tu, ret, Tv, Dp, G4, G3, B6, h1, tC, Ab, Ac, A9, Re]
theorem Y6 (c : Bd) : Ah Tryz.prog Γ 169 [.agg (tC c)] (.fn 188 [.ip (tC c) 0]) := by
 refine B7 q3Z rfl ?_
 simp [X8, ret, X9, tC, D1, D6, T.one, AV.one, Ab, Ad, Ag, Av]
theorem q0M (c : Bd) (hc : c.nodes.l.length ≤ 1000000000) (l : List Int) (cap : Option Nat) (nl : Option Bool) (hl : l.length ≤ 1000000000) : A6 Tryz.prog Γ 168 [.sl (Ak l) cap nl, .fn 188 [.ip (tC c) 0]] (tB (l.any (Re c))) :=
 q1X l cap nl _ _ _ (fun x _ => q19 c x hc) hl
def Uh : List (Int × Int) := [(0, 0), (0, 0), (0, 0), (1, 1), (1, 1), (2, 16), (2, 16), (2, 16), (2, 16), (2, 16), (2, 16), (3, 3), (2, 2), (1, 16), (1, 1), (0, 0)]
def qGx : List T := Uh.flatMap fun p => [tI p.1, tI p.2]
def O5 (k : Int) : Int × Int := if 16 ≤ k then (0, -1) else Uh.getD k.toNat (0, 0)
def GOk (Γ : Tables) : Prop := Γ 0 = some qGx
theorem Dj (hΓ : GOk Γ) (k : Int) (h0 : 0 ≤ k) (h1 : k ≤ 255) : A6 Tryz.prog Γ 113 [tK k] (.tup [tI (O5 k).1, tI (O5 k).2]) := by
 unfold GOk at hΓ
 refine Aa q9J rfl ?_
 by_cases h2 : 16 ≤ k
 ·simp (disch := omega) [Z3, ret, Z4, Dp, G4, G3, B6, h2, A9, O5]
 ·have h3 : k = 0 ∨ k = 1 ∨ k = 2 ∨ k = 3 ∨ k = 4 ∨ k = 5 ∨ k = 6 ∨ k = 7 ∨ k = 8 ∨ k = 9 ∨ k = 10 ∨ k = 11 ∨ k = 12 ∨ k = 13 ∨ k = 14 ∨ k = 15 := by omega
  rcases h3 with rfl | rfl | rfl | rfl | rfl | rfl | rfl | rfl | rfl | rfl | rfl | rfl | rfl | rfl | rfl | rfl <;>
  simp (disch := omega) [Z3, ret, Z4, Dp, G4, G3, B6, A9, O5, hΓ, qGx, Uh] <;> exact ⟨rfl, rfl⟩
def q1Y (c : Bd) (x : Nd) : Bool :=
 if x.k ≠ 15 then decide (x.mem = 0 ∧ x.bit = 0)
 else decide (0 ≤ x.mem ∧ x.mem < c.mems.l.length ∧ 0 ≤ x.bit ∧ x.bit < ((c.mems.l.getD x.mem.toNat Mm.d).data.l.length))
theorem qI1 (c : Bd) (x : Nd) (hc : CirOk c) : A6 Tryz.prog Γ 184 [.agg (tC c), .agg (E0 x)] (tB (q1Y c x)) := by
 refine Aa q8A rfl ?_
 have hm := hc.mems
 by_cases h1 : x.k = 15
 ·by_cases h2 : 0 ≤ x.mem
  ·by_cases h3 : x.mem < c.mems.l.length
   ·have h3' : x.mem.toNat < c.mems.l.length := by omega
    by_cases h4 : 0 ≤ x.bit
    ·simp (disch := omega) [Ff, ret, Fg, Dp, G4, G3, B6, D1, D6, T.one, AV.one, tC, E0, Ab, Ad, Ag, Av, h1, h2, h3, h4, h3', Ac, Ei Mm.d, A9, P0, Ug, A5, q1Y]
    ·simp (disch := omega) [Ff, ret, Fg, Dp, G4, G3, B6, D1, D6, T.one, AV.one, tC, E0, Ab, Ad, Ag, Av, h1, h2, h3, h4, h3', Ac, Ei Mm.d, A9, P0, Ug, A5, q1Y]
   ·simp (disch := omega) [Ff, ret, Fg, Dp, G4, G3, B6, D1, D6, T.one, AV.one, tC, E0, Ab, Ad, Ag, Av, h1, h2, h3, Ac, Ei Mm.d, A9, P0, Ug, A5, q1Y]
  ·simp (disch := omega) [Ff, ret, Fg, Dp, G4, G3, B6, D1, D6, T.one, AV.one, tC, E0, Ab, Ad, Ag, Av, h1, h2, Ac, Ei Mm.d, A9, P0, Ug, A5, q1Y]
 ·by_cases h2 : x.mem = 0
  ·simp (disch := omega) [Bv, Ff, Fg, tC, E0, Ab, Ad, Ag, Av, h1, h2, q1Y, -decide_eq_decide]
  ·have h2' : (x.mem == 0) = false := by simpa using h2
   simp (disch := omega) [Bv, Ff, Fg, tC, E0, Ab, Ad, Ag, Av, h1, h2, h2', q1Y]
def Wy (l : List Int) (most : Int) : Bool := decide (l.length = 0 ∨ most < l.length)
theorem q6z (l : List Int) (cap : Option Nat) (nl : Option Bool) (most : Int) (hl : l.length ≤ 1000000000) : A6 Tryz.prog Γ 186 [.sl (Ak l) cap nl, tI most] (tB (Wy l most)) := by
 refine Aa q3C rfl ?_
 by_cases h : l.length = 0 <;> simp (disch := omega) [Vu, ret, Vv, Dp, G4, G3, B6, A5, h, Wy, A9]
def q3b (c : Bd) (n : Int) : Bool := decide ((c.nodes.l.getD n.toNat Nd.d).k ≠ 12)
theorem qF8 (c : Bd) (n : Int) (h0 : 0 ≤ n) (h1 : n < c.nodes.l.length) : A6 Tryz.prog Γ 183 [tI n, .ip (tC c) 0] (tB (q3b c n)) := by
 refine Aa q53 rfl ?_
 have h2 : n.toNat < c.nodes.l.length := by omega
 simp (disch := omega) [Z6, ret, Z7, Dp, G4, G3, B6, tC, Ab, Ac, Ei Nd.d, Bi, h0, h1, h2, q3b, E0]
def Dv (c : Bd) (x : Nd) : Int :=
 if 15 < x.k then 7 else if (x.inn.l.length : Int) < (O5 x.k).1 ∨ (O5 x.k).2 < x.inn.l.length then 8 else if x.inn.l.any (Re c) then 1
 else if x.k = 13 ∧ x.inn.l.any (q3b c) = true then 7 else if q1Y c x = false then 1 else 0
theorem q4m {c : Bd} {l : List Int} (h : l.any (Re c) = false) : ∀ n ∈ l, 0 ≤ n ∧ n < c.nodes.l.length := by
 intro n hn
 have := List.any_eq_false.1 h n hn
 simp only [Re, decide_eq_true_eq, not_or, Int.not_lt, Int.not_le] at this
 exact this
theorem qGy (hΓ : GOk Γ) (c : Bd) (x : Nd) (hc : CirOk c) (hk : 0 ≤ x.k ∧ x.k ≤ 255) (hl : x.inn.l.length ≤ 1000000000) : A6 Tryz.prog Γ 165 [.agg (tC c), .agg (E0 x)] (tI (Dv c x)) := by
 refine Aa q6y rfl ?_
 have hn := hc.nodes
 have e1 := q0M (Γ := Γ) c hn x.inn.l x.inn.cap x.inn.nl hl
 have e2 := Dj hΓ x.k hk.1 hk.2
 have e3 := Y6 (Γ := Γ) c
 have e4 := qI1 (Γ := Γ) c x hc
 simp (disch := omega) [q1W, D1, D6, T.one, AV.one, tC, E0, Ab, Ad, Ag, Av]
 refine A4 e2 rfl ?_
 simp (disch := omega)
 simp
 refine ⟨fun h1 => ?_, fun h1 => ?_⟩
 ·simp [Bv, ret, E4, Dp, G4, G3, B6, Dv, h1]
 by_cases h2 : (x.inn.l.length : Int) < (O5 x.k).1
 ·simp (disch := omega) [Bv, A5, A9, h2, ret, E4, Dp, G4, G3, B6, Dv, h1]
 by_cases h3 : (O5 x.k).2 < x.inn.l.length
 ·simp (disch := omega) [Bv, A5, A9, h2, h3, ret, E4, Dp, G4, G3, B6, Dv, h1]
 simp (disch := omega) [Bv, A5, A9, h2, h3]
 refine Ae e3 rfl ?_
 simp (disch := omega)
 refine A4 e1 rfl ?_
 simp (disch := omega) [-List.any_eq_true, -List.any_eq_false]
 refine ⟨fun h4 => ?_, fun h4 => ?_⟩
 ·simp [-List.any_eq_true, -List.any_eq_false, Bv, ret, E4, Dp, G4, G3, B6, Dv, h1, h2, h3, h4]
 have h4' : x.inn.l.any (Re c) = false := h4
 by_cases h5 : x.k = 13
 ·have e5 := q1X (Γ := Γ) x.inn.l x.inn.cap x.inn.nl 183 [.ip (tC c) 0] (q3b c) (fun n hm => qF8 c n (q4m h4' n hm).1 (q4m h4' n hm).2) hl
  simp (disch := omega) [Bv, h5]
  refine A4 e5 rfl ?_
  simp [-List.any_eq_true, -List.any_eq_false]
  refine ⟨fun h6 => ?_, fun h6 => ?_⟩
  ·have h6' : x.inn.l.any (q3b c) = true := h6
   simp [-List.any_eq_true, -List.any_eq_false, Bv, ret, E4, Dp, G4, G3, B6, Dv, h1, h2, h3, h4', h5, h6']
   simp [h5] at h2 h3; omega
  ·have h6' : x.inn.l.any (q3b c) = false := h6
   have e : Dv c x = if q1Y c x = false then 1 else 0 := by
    unfold Dv
    rw [if_neg (by omega), if_neg (by omega), if_neg (by simp [h4']), if_neg (by simp [h6'])]
   rw [e]
   simp (disch := omega) [Bv, h6']
   rw [show E0 x = [tK 13, Av x.inn, tI x.mem, tI x.bit] from by simp [E0, h5]] at e4
   refine A4 e4 rfl ?_
   simp
   refine ⟨fun h7 => ?_, fun h7 => ?_⟩ <;> simp [Bv, E4, h7]
 ·have e : Dv c x = if q1Y c x = false then 1 else 0 := by
   unfold Dv
   rw [if_neg (by omega), if_neg (by omega), if_neg (by simp [h4']), if_neg (by simp [h5])]
  rw [e]
  simp (disch := omega) [Bv, h5]
  refine A4 e4 rfl ?_
  simp
  refine ⟨fun h7 => ?_, fun h7 => ?_⟩ <;> simp [Bv, E4, h7]
theorem qOX : (Tryz.prog.funcs[197]?).map (fun f => (f.name, f.body.isNone, f.origin)) = some ("internal/bytealg.IndexByteString", true, "") := by kernel_rfl
abbrev tR (n : Int) : T := .v (.int .i32 n)
theorem q3c (s : ByteArray) (c : Int) : A6 Tryz.prog Γ 197 [.v (.string s), tK c] (tI (Lib.indexByte s.data.toList c.toNat.toUInt8)) := by
 intro w X vs hg hx hts
 obtain ⟨x, xs, rfl, h1, h2⟩ := hts.cons_inv
 obtain ⟨y, ys, rfl, h3, h4⟩ := h2.cons_inv
 have := h4.nil_inv; subst this
 cases h1; cases h3
 refine .inr ⟨.int .i64 (Lib.indexByte s.data.toList c.toNat.toUInt8), ?_, RowKit.Below.refl _ _, .v _⟩
 have h := qOX
 simp only [Option.map_eq_some_iff, Prod.mk.injEq] at h
 obtain ⟨fn, hf, hn, hb, ho⟩ := h
 have e1 : Extern.findNext fn = none := by
  simp only [Extern.findNext, hn, ho]
  have a : Extern.allNextRows.lookup "internal/bytealg.IndexByteString" = none := by kernel_rfl
  have b : Extern.allNextRows.lookup "" = none := by kernel_rfl
  rw [a, b]; rfl
 have e2 : Extern.find fn = some Extern.BytealgIndexByte.indexByte := by
  simp only [Extern.find, hn, ho]
  have a : Extern.allGenericRows.lookup "internal/bytealg.IndexByteString" = none := by kernel_rfl
  have b : Extern.allTypedRows.lookup "internal/bytealg.IndexByteString" = none := by kernel_rfl
  have c : Extern.allRows.lookup "internal/bytealg.IndexByteString" = some Extern.BytealgIndexByte.indexByte := by kernel_rfl
  rw [a, b, c]; rfl
 have hnn : ¬ fn.name = "runtime.NumGoroutine" := by rw [hn]; decide
 have hr := Lib.run_indexByteString (P := Tryz.prog) s c w
 have hb' : fn.body = none := by simpa using hb
 simp [callFunc, hf, hnn, hb', e1, e2, hr]
theorem qGz (s : ByteArray) (c : Int) : A6 Tryz.prog Γ 180 [.v (.string s), tK c] (tI (Lib.indexByte s.data.toList c.toNat.toUInt8)) := by
 refine Aa Y5 rfl ?_
 simp [Lm]
 refine A4 (q3c s c) rfl ?_
 simp [Ln]
theorem q3d (s : ByteArray) (c : Int) : A6 Tryz.prog Γ 162 [.v (.string s), tK c] (tI (Lib.indexByte s.data.toList c.toNat.toUInt8)) := by
 refine Aa q3B rfl ?_
 simp [Vs]
 refine A4 (qGz s c) rfl ?_
 simp [Vt]
theorem qAK (s : ByteArray) (c : Int) (h0 : 0 ≤ c) (h1 : c < 128) : A6 Tryz.prog Γ 206 [.v (.string s), tR c] (tI (Lib.indexByte s.data.toList c.toNat.toUInt8)) := by
 refine Aa q3E rfl ?_
 simp (disch := omega) [Vw, h0, h1, Bm]
 refine A4 (q3d s c) rfl ?_
 simp [Vx]
theorem q70 (s : ByteArray) (c : Int) (h0 : 0 ≤ c) (h1 : c < 128) : A6 Tryz.prog Γ 199 [.v (.string s), tR c] (tB (decide (0 ≤ Lib.indexByte s.data.toList c.toNat.toUInt8))) := by
 refine Aa q16 rfl ?_
 simp (disch := omega) [Q8]
 refine A4 (qAK s c h0 h1) rfl ?_
 simp [Q9]
def qH0 (c : Int) : Bool := decide (c ≤ 32 ∨ 126 < c ∨ 0 ≤ Lib.indexByte [40, 41, 61, 44, 35] c.toNat.toUInt8)
theorem qH1 (c : Int) : A6 Tryz.prog Γ 198 [tR c] (tB (qH0 c)) := by
 refine Aa q3D rfl ?_
 by_cases h1 : c ≤ 32
 ·simp [Hf, Hg, h1, qH0]
 by_cases h2 : 126 < c
 ·simp [Hf, Hg, h1, h2, qH0]
 simp [Hf, h1, h2]
 refine A4 (q70 ⟨#[40, 41, 61, 44, 35]⟩ c (by omega) (by omega)) rfl ?_
 simp [Hg, qH0, h1, h2]
theorem qF9 (s : List UInt8) (i : Nat) (hi : i < s.length) (ha : s[i] < 128) : Utf8.decode ⟨s.toArray⟩ i = ((s[i]).toNat, 1) := by
 have e : (ByteArray.mk s.toArray).get! (i + 0) = s[i] := by
  simp [ByteArray.get!, hi]
 have h2 : (s[i]).toNat < 128 := by simpa [UInt8.lt_iff_toNat_lt] using ha
 unfold Utf8.decode
 simp only [e, h2, ↓reduceIte]
def qFA (s : List UInt8) : Bool := s.any fun b => qH0 b.toNat
theorem q3e {Q : AX → St → Prop} (s : List UInt8) (ha : ∀ b ∈ s, b < 128)
  (h0 : qFA s = false → Q (.exit 0) ⟨[(1, .t (.fn 198 [])), (2, .t (tB true)), (10, .li 10), (11, .t (.tup [tB false])), (12, .t (tB false))], [(10, .it ⟨s.toArray⟩ s.length)]⟩)
  (h1 : qFA s = true → ∀ i : Nat, Q .ret ⟨[(6, .t (tI i))], []⟩) : ∀ (k i : Nat), k + i = s.length → (∀ j, j < i → ∀ b, s[j]? = some b → qH0 b.toNat = false) →
  run Tryz.prog Γ Hh Q ⟨[(1, .t (.fn 198 [])), (2, .t (tB true)), (10, .li 10)], [(10, .it ⟨s.toArray⟩ i)]⟩
 | 0, i, h, hq => by
  refine Og fun K hK => ?_
  have h2 : ¬ i < s.length := by omega
  have h3 : i = s.length := by omega
  have h4 : ¬ i < (ByteArray.mk s.toArray).size := by simpa [ByteArray.size] using h2
  simp [h2]
  subst h3
  refine h0 (List.any_eq_false.2 fun b hb => ?_)
  obtain ⟨j, hj, rfl⟩ := List.getElem_of_mem hb
  simp [hq j hj _ (List.getElem?_eq_getElem hj)]
 | k + 1, i, h, hq => by
  refine Og fun K hK => ?_
  have h2 : i < s.length := by omega
  have h4 : i < (ByteArray.mk s.toArray).size := by simpa [ByteArray.size] using h2
  simp [h2, qF9 s i h2 (ha _ (List.getElem_mem h2))]
  refine A4 (qH1 s[i].toNat) rfl ?_
  simp
  refine ⟨fun hc => ?_, fun hc => ?_⟩
  ·simp [Bv]
   exact h1 (List.any_eq_true.2 ⟨_, List.getElem_mem h2, hc⟩) i
  ·simp [Bv]
   rw [hK]
   exact q3e s ha h0 h1 k (i + 1) (by omega) (fun j hj b hb => by
    rcases Nat.lt_succ_iff_lt_or_eq.1 hj with hj | rfl
    ·exact hq j hj b hb
    ·rw [List.getElem?_eq_getElem h2] at hb; simp at hb; subst hb; exact hc)
theorem qCZ (s : List UInt8) (ha : ∀ b ∈ s, b < 128) : ∃ n : Int, A6 Tryz.prog Γ 211 [tS s, .fn 198 [], tB true] (tI n) ∧ (0 ≤ n ↔ qFA s = true) := by
 have : ∃ r, A6 Tryz.prog Γ 211 [tS s, .fn 198 [], tB true] r ∧ ∃ n, r = tI n ∧ (0 ≤ n ↔ qFA s = true) := by
  refine qBm q3G rfl ?_
  simp [W1, tS, sV]
  refine q3e s ha (fun h => ?_) (fun h i => ?_) s.length 0 (by omega) (by simp)
  ·simp [Lo, h]
  ·simp [Lo, h]
 obtain ⟨_, h1, n, rfl, h2⟩ := this
 exact ⟨n, h1, h2⟩
theorem q9K (s : List UInt8) (ha : ∀ b ∈ s, b < 128) : ∃ n : Int, A6 Tryz.prog Γ 207 [tS s, .fn 198 []] (tI n) ∧ (0 ≤ n ↔ qFA s = true) := by
 obtain ⟨n, h1, h2⟩ := qCZ (Γ := Γ) s ha
 refine ⟨n, Aa q3F rfl ?_, h2⟩
 simp [Vy]
 refine A4 h1 rfl ?_
 simp [Vz]
theorem q3f (s : List UInt8) (ha : ∀ b ∈ s, b < 128) : A6 Tryz.prog Γ 200 [tS s, .fn 198 []] (tB (qFA s)) := by
 obtain ⟨n, h1, h2⟩ := q9K (Γ := Γ) s ha
 refine Aa q17 rfl ?_
 simp [Qa]
 refine A4 h1 rfl ?_
 simp [Qb, h2]
def q6F (s : List UInt8) : Bool := decide (s ≠ [] ∧ s.length ≤ 32) && !qFA s
theorem qDg (s : List UInt8) (ha : ∀ b ∈ s, b < 128) : A6 Tryz.prog Γ 185 [tS s] (tB (q6F s)) := by
 refine Aa q54 rfl ?_
 have h := q3f (Γ := Γ) s ha
 by_cases h1 : s = []
 ·simp [Ja, Jb, tS, sV, h1, q6F]
 have h1' : s.isEmpty = false := by simpa using h1
 by_cases h2 : s.length ≤ 32
 ·have h2' : (s.length : Int) ≤ 32 := by omega
  simp [Ja, tS, sV, h1, h1', h2']
  refine A4 h rfl ?_
  simp [Jb, q6F, h1, h2]
 ·have h2' : ¬ (s.length : Int) ≤ 32 := by omega
  simp [Ja, Jb, tS, sV, h1, h1', h2', h2, q6F]
def Ph (c : Bd) (m : Mm) : Int :=
 if Wy m.addr.l 8 = true ∨ Wy m.data.l 32 = true then 8 else if m.addr.l.any (Re c) = true ∨ m.data.l.any (Re c) = true ∨ Re c m.write = true then 1 else 0
theorem qDh (c : Bd) (m : Mm) (hc : CirOk c) (hm : m.addr.l.length ≤ 1000000000 ∧ m.data.l.length ≤ 1000000000) : A6 Tryz.prog Γ 167 [.agg (tC c), .agg (Ug m)] (tI (Ph c m)) := by
 refine Aa q52 rfl ?_
 have hn := hc.nodes
 have e1 := q0M (Γ := Γ) c hn m.addr.l m.addr.cap m.addr.nl hm.1
 have e2 := q0M (Γ := Γ) c hn m.data.l m.data.cap m.data.nl hm.2
 have e3 := Y6 (Γ := Γ) c
 have e4 := q6z (Γ := Γ) m.addr.l m.addr.cap m.addr.nl 8 hm.1
 have e5 := q6z (Γ := Γ) m.data.l m.data.cap m.data.nl 32 hm.2
 have e6 := q19 (Γ := Γ) c m.write hn
 simp [Z5, tC, Ug, Ab, Ad, Ag, Av]
 refine Ae e3 rfl ?_
 simp
 refine A4 e4 rfl ?_
 have fin2 : ∀ b : Bool, b = decide (m.addr.l.any (Re c) = true ∨ m.data.l.any (Re c) = true ∨ Re c m.write = true) → (Wy m.addr.l 8 = false) → (Wy m.data.l 32 = false) → Ph c m = if b then 1 else 0 := by
  intro b hb h1 h2
  subst hb
  unfold Ph
  rw [if_neg (by simp [h1, h2])]
  simp
 by_cases h1 : Wy m.addr.l 8 = true
 ·simp [h1, Dz, Ph]
 have h1' : Wy m.addr.l 8 = false := by simpa using h1
 simp [h1']
 refine A4 e5 rfl ?_
 by_cases h2 : Wy m.data.l 32 = true
 ·simp [h2, Dz, Ph]
 have h2' : Wy m.data.l 32 = false := by simpa using h2
 simp [h2']
 refine A4 e1 rfl ?_
 generalize m.addr.l.any (Re c) = b1 at e1 fin2
 generalize m.data.l.any (Re c) = b2 at e2 fin2
 generalize Re c m.write = b3 at e6 fin2
 cases b1 with
 | true => simp [Dz, fin2 true (by simp) h1' h2']
 | false =>
  simp
  refine A4 e2 rfl ?_
  cases b2 with
  | true => simp [Dz, fin2 true (by simp) h1' h2']
  | false =>
   simp
   refine Z8 e6 ?_
   cases b3 with
   | true => simp [Dz, fin2 true (by simp) h1' h2']
   | false => simp [Dz, fin2 false (by simp) h1' h2']
def qAL (l : List (List UInt8)) : List (Value × T) := l.map fun s => (sV s, tB true)
theorem qKf (a b : List UInt8) : q2h (sV a) (sV b) = decide (a = b) := by
 simp only [q2h, sV]
 by_cases h : a = b
 ·subst h; simp [qCQ]
 ·have : ¬ (ByteArray.mk a.toArray) = ⟨b.toArray⟩ := fun e => h (by simpa using e)
  have h2 : ((ByteArray.mk a.toArray) == ⟨b.toArray⟩) = false := by
   cases hq : ((ByteArray.mk a.toArray) == ⟨b.toArray⟩)
   ·rfl
   ·exact absurd ((qCQ _ _).1 hq) this
  rw [h2]; simp [h]
theorem qAM (x : List UInt8) : ∀ l : List (List UInt8), Gf (sV x) (qAL l) = if x ∈ l then some (tB true) else none
 | [] => rfl
 | y :: l => by
  have ih := qAM x l
  simp only [qAL, List.map_cons, Gf, qKf] at ih ⊢
  by_cases h : x = y
  ·simp [h]
  ·simp [h, ih]
theorem qBq (x : List UInt8) : ∀ l : List (List UInt8), x ∉ l → q7q (sV x) (tB true) (qAL l) = qAL (l ++ [x])
 | [], _ => rfl
 | y :: l, h => by
  have ih := qBq x l (fun hm => h (List.mem_cons_of_mem _ hm))
  have hne : x ≠ y := fun e => h (by simp [e])
  simp only [qAL, List.map_cons, q7q, qKf, List.cons_append] at ih ⊢
  simp [hne, ih]
theorem qH2 (l : List (List UInt8)) : Ox .str (qAL l) := by
 intro e he; obtain ⟨s, _, rfl⟩ := List.mem_map.1 he; rfl
def Ji : List (List UInt8) → List (List UInt8) → Int
 | _, [] => 0
 | done, s :: l => if q6F s = false ∨ s ∈ done then 5 else Ji (done ++ [s]) l
theorem qAN {Q : AX → St → Prop} (n : Sl (List UInt8)) (hl : n.l.length ≤ 1000000000) (ha : ∀ s ∈ n.l, ∀ b ∈ s, b < 128) (R : Int)
  (h0 : R = 0 → ∀ m : List (Value × T), Q (.exit 0) ⟨[(3, .lm 6), (8, .t (Ad n)), (9, .t (tI n.l.length)), (10, .t (tI n.l.length)), (11, .t (tB false))], [(6, .mp m)]⟩)
  (h5 : R = 5 → Q .ret ⟨[(2, .t (tI 5))], []⟩) : ∀ (k i : Nat), k + i = n.l.length → Ji (n.l.take i) (n.l.drop i) = R →
  run Tryz.prog Γ K7 Q ⟨[(3, .lm 6), (8, .t (Ad n)), (9, .t (tI n.l.length)), (10, .t (tI i))], [(6, .mp (qAL (n.l.take i)))]⟩
 | 0, i, h, hR => by
  refine Tt fun K hK => ?_
  have h2 : ¬ i < n.l.length := by omega
  have h3 : i = n.l.length := by omega
  simp [h2, Ad]
  subst h3
  refine h0 ?_ _
  rw [← hR]; simp [Ji]
 | k + 1, i, h, hR => by
  refine Tt fun K hK => ?_
  have h2 : i < n.l.length := by omega
  simp (disch := omega) [h2, Ad, A5, Cb ([] : List UInt8), A8]
  refine A4 (qDg n.l[i] (ha _ (List.getElem_mem h2))) rfl ?_
  have hd : n.l.drop i = n.l[i] :: n.l.drop (i + 1) := List.drop_eq_getElem_cons h2
  rw [hd] at hR
  simp only [Ji] at hR
  have ht : n.l.take i ++ [n.l[i]] = n.l.take (i + 1) := by rw [List.take_add_one]; simp [h2]
  by_cases hq : q6F n.l[i] = true
  ·have hfit := qH2 (n.l.take i)
   simp [hq, tS, KT.fits, sV, hfit]
   rw [show (Value.string ⟨(n.l[i]).toArray⟩) = sV n.l[i] from rfl, qAM]
   by_cases hm : n.l[i] ∈ n.l.take i
   ·simp [hm]
    refine h5 ?_
    rw [← hR, if_pos (.inr hm)]
   ·rw [if_neg (by simp [hq, hm]), ht] at hR
    simp (disch := omega) [hm, sV, KT.fits, hfit, A9]
    rw [hK]
    have := qAN n hl ha R h0 h5 k (i + 1) (by omega) hR
    rw [show (Value.string ⟨(n.l[i]).toArray⟩) = sV n.l[i] from rfl, qBq _ _ hm, ht]
    exact_mod_cast this
  ·have hq' : q6F n.l[i] = false := by simpa using hq
   simp [hq']
   refine h5 ?_
   rw [← hR, if_pos (.inl hq')]
theorem qFB (c : Bd) (hc : CirOk c) (ha : ∀ s ∈ c.names.l, ∀ b ∈ s, b < 128) : A6 Tryz.prog Γ 166 [.agg (tC c)] (tI (Ji [] c.names.l)) := by
 refine Aa q6E rfl ?_
 simp [q0L, tC, Ab, Ad, Ag, Av, A5]
 refine qAN c.names hc.names ha (Ji [] c.names.l) (fun h m => ?_) (fun h => ?_) c.names.l.length 0 (by omega) (by simp)
 ·simp [Rb, h]
 ·simp [Rb, h]
def Ds : List Int → Int
 | [] => 0
 | e :: l => if e ≠ 0 then e else Ds l
theorem q5I {α : Type} (f : α → Int) (l : List α) (i : Nat) (h : i < l.length) : Ds ((l.drop i).map f) = if f l[i] ≠ 0 then f l[i] else Ds ((l.drop (i + 1)).map f) := by
 rw [List.drop_eq_getElem_cons h]; rfl
theorem q8s {Q : AX → St → Prop} (hΓ : GOk Γ) (c : Bd) (hc : CirOk c) (R : Int)
  (h0 : R = 0 → Q (.exit 1) ⟨[(1, .t (.ip (tC c) 0)), (36, .t (Ab c.nodes)), (37, .t (tI c.nodes.l.length)), (38, .t (tI c.nodes.l.length)), (39, .t (tB false))], []⟩)
  (h5 : R ≠ 0 → Q .ret ⟨[(2, .t (tI R))], []⟩) : ∀ (k i : Nat), k + i = c.nodes.l.length → Ds ((c.nodes.l.drop i).map (Dv c)) = R →
  run Tryz.prog Γ K5 Q ⟨[(1, .t (.ip (tC c) 0)), (36, .t (Ab c.nodes)), (37, .t (tI c.nodes.l.length)), (38, .t (tI i))], []⟩
 | 0, i, h, hR => by
  refine To fun K hK => ?_
  have h2 : ¬ i < c.nodes.l.length := by omega
  have h3 : i = c.nodes.l.length := by omega
  simp [h2]
  subst h3
  exact h0 (by rw [← hR]; simp [Ds])
 | k + 1, i, h, hR => by
  refine To fun K hK => ?_
  have h2 : i < c.nodes.l.length := by omega
  have hn := hc.nodes
  have hx := List.getElem_mem h2
  rw [q5I (Dv c) _ _ h2] at hR
  have e := qGy (Γ := Γ) hΓ c c.nodes.l[i] hc (hc.kind _ hx) (hc.inn _ hx)
  simp (disch := omega) [h2, Ab, Ac, Ei Nd.d, Bi, E0, tC, Av]
  refine A4 e rfl ?_
  by_cases hq : Dv c c.nodes.l[i] = 0
  ·rw [if_neg (by simp [hq])] at hR
   simp (disch := omega) [hq, A9]
   rw [hK]
   have := q8s hΓ c hc R h0 h5 k (i + 1) (by omega) hR
   simpa [tC, Ab, Av] using this
  ·rw [if_pos (by simpa using hq)] at hR
   simp [hq]
   rw [hR]
   exact h5 (by rw [← hR]; exact hq)
theorem qAO {Q : AX → St → Prop} (c : Bd) (hc : CirOk c) (R : Int)
  (h0 : R = 0 → Q (.exit 3) ⟨[(1, .t (.ip (tC c) 0)), (55, .t (Ag c.mems)), (56, .t (tI c.mems.l.length)), (57, .t (tI c.mems.l.length)), (58, .t (tB false))], []⟩)
  (h5 : R ≠ 0 → Q .ret ⟨[(2, .t (tI R))], []⟩) : ∀ (k i : Nat), k + i = c.mems.l.length → Ds ((c.mems.l.drop i).map (Ph c)) = R →
  run Tryz.prog Γ K6 Q ⟨[(1, .t (.ip (tC c) 0)), (55, .t (Ag c.mems)), (56, .t (tI c.mems.l.length)), (57, .t (tI i))], []⟩
 | 0, i, h, hR => by
  refine Tq fun K hK => ?_
  have h2 : ¬ i < c.mems.l.length := by omega
  have h3 : i = c.mems.l.length := by omega
  simp [h2]
  subst h3
  exact h0 (by rw [← hR]; simp [Ds])
 | k + 1, i, h, hR => by
  refine Tq fun K hK => ?_
  have h2 : i < c.mems.l.length := by omega
  have hn := hc.mems
  have hx := List.getElem_mem h2
  rw [q5I (Ph c) _ _ h2] at hR
  have e := qDh (Γ := Γ) c c.mems.l[i] hc (hc.addr _ hx)
  simp (disch := omega) [h2, Ag, Ac, Ei Mm.d, P0, Ug, tC, Av]
  refine A4 e rfl ?_
  by_cases hq : Ph c c.mems.l[i] = 0
  ·rw [if_neg (by simp [hq])] at hR
   simp (disch := omega) [hq, A9]
   rw [hK]
   have := qAO c hc R h0 h5 k (i + 1) (by omega) hR
   simpa [tC, Ag, Av] using this
  ·rw [if_pos (by simpa using hq)] at hR
   simp [hq]
   rw [hR]
   exact h5 (by rw [← hR]; exact hq)
def E5 (c : Bd) : Int :=
 if 16384 < c.nodes.l.length ∨ 16 < c.mems.l.length ∨ 16384 < c.outs.l.length then 3 else if c.names.l.length ≠ c.nodes.l.length then 8
 else if Ds (c.nodes.l.map (Dv c)) ≠ 0 then Ds (c.nodes.l.map (Dv c))
 else if Ji [] c.names.l ≠ 0 then Ji [] c.names.l
 else if Ds (c.mems.l.map (Ph c)) ≠ 0 then Ds (c.mems.l.map (Ph c))
 else if c.outs.l.any (Re c) = true then 1 else 0
theorem qFC (hΓ : GOk Γ) (c : Bd) (hc : CirOk c) (ha : ∀ s ∈ c.names.l, ∀ b ∈ s, b < 128) : A6 Tryz.prog Γ 145 [.agg (tC c)] (tI (E5 c)) := by
 refine Aa q6D rfl ?_
 have hn := hc.nodes
 have hm := hc.mems
 have ho := hc.outs
 have hnn := hc.names
 have en := qFB (Γ := Γ) c hc ha
 have eo := Y6 (Γ := Γ) c
 have ec := q0M (Γ := Γ) c hn c.outs.l c.outs.cap c.outs.nl ho
 by_cases h1 : 16384 < c.nodes.l.length ∨ 16 < c.mems.l.length ∨ 16384 < c.outs.l.length
 ·have : E5 c = 3 := by unfold E5; rw [if_pos h1]
  rw [this]
  by_cases g1 : (16384 : Int) < c.nodes.l.length
  ·simp [Fa, Ci, tC, Ab, Ad, Ag, Av, Ac, A5, g1]
  by_cases g2 : (16 : Int) < c.mems.l.length
  ·simp [Fa, Ci, tC, Ab, Ad, Ag, Av, Ac, A5, g1, g2]
  have g3 : (16384 : Int) < c.outs.l.length := by omega
  simp [Fa, Ci, tC, Ab, Ad, Ag, Av, Ac, A5, g1, g2, g3]
 have g1 : ¬ (16384 : Int) < c.nodes.l.length := by omega
 have g2 : ¬ (16 : Int) < c.mems.l.length := by omega
 have g3 : ¬ (16384 : Int) < c.outs.l.length := by omega
 by_cases h2 : c.names.l.length = c.nodes.l.length
 case neg =>
  have : E5 c = 8 := by unfold E5; rw [if_neg h1, if_pos h2]
  have h2' : ¬ (c.names.l.length : Int) = c.nodes.l.length := by omega
  rw [this]
  simp [Fa, Ci, tC, Ab, Ad, Ag, Av, Ac, A5, g1, g2, g3, h2']
 simp [Fa, tC, Ab, Ad, Ag, Av, Ac, A5, g1, g2, g3, h2]
 have e0 : E5 c = if Ds (c.nodes.l.map (Dv c)) ≠ 0 then Ds (c.nodes.l.map (Dv c))
   else if Ji [] c.names.l ≠ 0 then Ji [] c.names.l
   else if Ds (c.mems.l.map (Ph c)) ≠ 0 then Ds (c.mems.l.map (Ph c))
   else if c.outs.l.any (Re c) = true then 1 else 0 := by
  unfold E5; rw [if_neg h1, if_neg (by simp [h2])]
 refine q8s hΓ c hc (Ds (c.nodes.l.map (Dv c))) (fun h3 => ?_) (fun h3 => ?_) c.nodes.l.length 0 (by omega) (by simp)
 case refine_2 =>
  rw [if_pos h3] at e0
  simp [Ci, e0]
 rw [if_neg (by rw [h3]; decide)] at e0
 simp [tC, Ab, Ad, Ag, Av]
 refine A4 en rfl ?_
 by_cases h4 : Ji [] c.names.l = 0
 case neg =>
  rw [if_pos h4] at e0
  simp [h4, Ci, e0]
 rw [if_neg (by rw [h4]; decide)] at e0
 simp [h4, Ac]
 refine qAO c hc (Ds (c.mems.l.map (Ph c))) (fun h5 => ?_) (fun h5 => ?_) c.mems.l.length 0 (by omega) (by simp)
 case refine_2 =>
  rw [if_pos h5] at e0
  simp [Ci, e0]
 rw [if_neg (by rw [h5]; decide)] at e0
 simp [tC, Ab, Ad, Ag, Av]
 refine Ae eo rfl ?_
 simp
 refine A4 ec rfl ?_
 generalize c.outs.l.any (Re c) = b at e0
 cases b <;> simp [Ci, e0]
def N5 (ks : List Int) : List Nd → Nat → List Int
 | [], _ => []
 | x :: l, i => if ks.contains x.k then (i : Int) :: N5 ks l (i + 1) else N5 ks l (i + 1)
theorem q71 (ks : List Int) : ∀ (a b : List Nd) (i : Nat), N5 ks (a ++ b) i = N5 ks a i ++ N5 ks b (i + a.length)
 | [], b, i => by simp [N5]
 | x :: a, b, i => by
  have := q71 ks a b (i + 1)
  simp only [List.cons_append, N5, this, List.length_cons]
  split <;> simp [Nat.add_assoc, Nat.add_comm 1]
theorem V9 (ks : List Int) : ∀ (a : List Nd) (i : Nat), (N5 ks a i).length ≤ a.length
 | [], _ => by simp [N5]
 | x :: a, i => by
  have := V9 ks a (i + 1)
  simp only [N5]
  split <;> simp <;> omega
theorem qG4 {Q : AX → St → Prop} (n : Sl Nd) (hl : n.l.length ≤ 1000000000) (ks : List Int) (kc : Option Nat) (kn : Option Bool) (hk : ks.length ≤ 1000000000)
  (h0 : Q (.exit 0) ⟨[(1, .t (.sl (Aj tK ks) kc kn)), (5, .ls 23 0 (N5 ks n.l 0).length none), (9, .t (Ab n)), (10, .t (tI n.l.length)), (11, .t (tI n.l.length)), (12, .t (tB false))], [(23, .sl 3 1 (Ak (N5 ks n.l 0)))]⟩) : ∀ (k i : Nat), k + i = n.l.length →
  run Tryz.prog Γ Qv Q ⟨[(1, .t (.sl (Aj tK ks) kc kn)), (5, .ls 23 0 (N5 ks (n.l.take i) 0).length none), (9, .t (Ab n)), (10, .t (tI n.l.length)), (11, .t (tI i))], [(23, .sl 3 1 (Ak (N5 ks (n.l.take i) 0)))]⟩
 | 0, i, h => by
  refine Yp fun K hK => ?_
  have h2 : ¬ i < n.l.length := by omega
  have h3 : i = n.l.length := by omega
  simp [h2]
  subst h3
  simpa using h0
 | k + 1, i, h => by
  refine Yp fun K hK => ?_
  have h2 : i < n.l.length := by omega
  have ht : n.l.take (i + 1) = n.l.take i ++ [n.l[i]] := by rw [List.take_add_one]; simp [h2]
  have hlen := V9 ks (n.l.take i) 0
  have htl : (n.l.take i).length = i := by simp; omega
  have hal : N5 ks (n.l.take (i + 1)) 0 = if ks.contains n.l[i].k then N5 ks (n.l.take i) 0 ++ [(i : Int)] else N5 ks (n.l.take i) 0 := by
   rw [ht, q71, htl]
   simp only [N5, Nat.zero_add]
   split <;> simp
  have e := qBF (Γ := Γ) ks kc kn n.l[i].k hk
  simp (disch := omega) [h2, Ab, Ac, Ei Nd.d, Bi, E0, Av]
  refine A4 e rfl ?_
  generalize ks.contains n.l[i].k = b at hal
  have ih := qG4 n hl ks kc kn hk h0 k (i + 1) (by omega)
  rw [hal] at ih
  cases b with
  | false =>
   simp (disch := omega) [A9]
   rw [hK]
   simpa [Ab] using ih
  | true =>
   have hw : E2 1 [[tI (i : Int)]] := by intro e he; simp at he; subst he; rfl
   simp (disch := omega) [A9, A5, A8, hw]
   rw [hK]
   simp [Ab] at ih
   rw [D2 (f := tI) (x := (i : Int))]
   exact ⟨by omega, ih⟩
theorem qJo (c : Bd) (hc : CirOk c) (ks : List Int) (kc : Option Nat) (kn : Option Bool) (hk : ks.length ≤ 1000000000) :
  A6 Tryz.prog Γ 90 [.agg (tC c), .sl (Aj tK ks) kc kn] (.sl (Ak (N5 ks c.nodes.l 0)) (some (N5 ks c.nodes.l 0).length) none) := by
 refine Aa q9I rfl ?_
 simp [q3X, tC, Ab, Ad, Ag, Av, Ac]
 refine qG4 c.nodes hc.nodes ks kc kn hk ?_ c.nodes.l.length 0 (by omega)
 simp
 refine ⟨_, _, qF6 3 (Ak (N5 ks c.nodes.l 0)) (N5 ks c.nodes.l 0).length none A8, ?_⟩
 simp [q3Y]
abbrev O9 := List (Int × Int)
def tLn (p : Int × Int) : List T := [tI p.1, tI p.2]
def qAP (i : Nat) (r : O9) : AV := if r = [] then .t (.sl [] (some 0) (some true)) else .ls (100000 + i) 0 r.length none
def D3 (rows : List O9) : List AV := rows.mapIdx qAP
def Lp (rows : List O9) (id : Nat) : Option Bn := match rows[id - 100000]? with
 | some r => if r = [] then none else some (.sl 192 2 (B1 tLn r))
 | none => none
def Lq (k : Nat) (g : Nat → Option Bn) : List (Nat × Bn) := (List.range' 100000 k).filterMap fun id => (g id).map fun r => (id, r)
def Da (rows : List O9) : List (Nat × Bn) := Lq 16384 (Lp rows)
theorem qAQ {α β : Type} {f g : α → Option β} : ∀ {l : List α}, (∀ x ∈ l, f x = g x) → l.filterMap f = l.filterMap g
 | [], _ => rfl
 | x :: l, h => by
  rw [List.filterMap_cons, List.filterMap_cons, h x List.mem_cons_self, qAQ (l := l) fun y hy => h y (List.mem_cons_of_mem _ hy)]
theorem qJp {l : List Nat} {g : Nat → Option Bn} {t : Nat} : A7 (l.filterMap fun id => (g id).map fun r => (id, r)) t = if t ∈ l then g t else none := by
 induction l with
 | nil => simp [A7]
 | cons k l ih =>
  rw [List.filterMap_cons]
  cases hg : g k with
  | none =>
   simp only [Option.map_none, ih]
   by_cases h : t = k
   ·subst h; simp [hg]
   ·simp [h]
  | some r =>
   simp only [Option.map_some, A7, ih]
   by_cases h : k = t
   ·subst h; simp [hg]
   ·simp [h, Ne.symm h]
theorem Pi {k : Nat} {g : Nat → Option Bn} {t : Nat} : A7 (Lq k g) t = if 100000 ≤ t ∧ t < 100000 + k then g t else none := by
 unfold Lq; rw [qJp]
 by_cases h : 100000 ≤ t ∧ t < 100000 + k
 ·rw [if_pos h, if_pos (by rw [List.mem_range'_1]; exact h)]
 ·rw [if_neg h, if_neg (by rw [List.mem_range'_1]; exact h)]
theorem qBr {rows : List O9} {l : List (Nat × Bn)} (h : ∀ t ∈ List.range' 100000 16384, A7 l t = Lp rows t) : Lg.keep (List.range' 100000 16384) l = Da rows := by
 unfold Lg.keep Da Lq
 exact qAQ fun t ht => by rw [h t ht]
theorem q8C {env : List (Nat × AV)} {hp : List (Nat × Bn)} {ks : List Nat} {rows : List O9} (hk : (hp.map (·.1)).filter (fun id => !([14] : List Nat).contains id && !(decide (100000 ≤ id) && decide (id < 100000 + 16384))) = [])
  (h14 : A7 hp 14 = some (.bx (D3 rows))) (hr : ∀ t, 100000 ≤ t → t < 116384 → A7 hp t = Lp rows t) :
  Gh.run (.keepB ks [14] 100000 16384) ⟨env, hp⟩ = ⟨Lg.keep ks env, (14, .bx (D3 rows)) :: Da rows⟩ := by
 simp only [Gh.run, q9j, hk, J2, q88, h14, qAH, List.cons_append, List.nil_append]
 congr 2
 simp only [Lg.keep, Da, Lq]
 refine qAQ fun t ht => ?_
 rw [List.mem_range'_1] at ht
 rw [hr t ht.1 (by omega)]
theorem q1Z {k : Nat} {g : Nat → Option Bn} : ∀ p ∈ Lq k g, 100000 ≤ p.1 ∧ p.1 < 100000 + k := by
 intro p hp
 obtain ⟨id, hid, he⟩ := List.mem_filterMap.1 hp
 rw [List.mem_range'_1] at hid
 cases hg : g id with
 | none => rw [hg] at he; cases he
 | some r => rw [hg] at he; simp at he; subst he; exact hid
theorem q8t {rows : List O9} : ((Da rows).map (·.1)).filter (fun id => !([14] : List Nat).contains id && !(decide (100000 ≤ id) && decide (id < 100000 + 16384))) = [] := by
 rw [List.filter_eq_nil_iff]
 intro id hid
 obtain ⟨p, hp, rfl⟩ := List.mem_map.1 hid
 have := q1Z p hp
 simp [this.1, this.2]
theorem q4n {rows : List O9} {t : Nat} : A7 ((14, .bx (D3 rows)) :: Da rows) t = if t = 14 then some (.bx (D3 rows)) else if 100000 ≤ t ∧ t < 116384 then Lp rows t else none := by
 simp only [A7, Da, Pi]
 by_cases h : t = 14
 ·simp [h]
 ·simp [h, Ne.symm h]
theorem Y7 {env : List (Nat × AV)} {ks : List Nat} {rows : List O9} : Gh.run (.keepB ks [14] 100000 16384) ⟨env, (14, .bx (D3 rows)) :: Da rows⟩ = ⟨Lg.keep ks env, (14, .bx (D3 rows)) :: Da rows⟩ := by
 refine q8C ?_ (by simp [A7]) fun t h1 h2 => ?_
 ·rw [List.map_cons, List.filter_cons]; simp only [q8t]; simp
 ·rw [q4n, if_neg (by omega), if_pos ⟨h1, h2⟩]
theorem qCa {id : Nat} (h : id < 100000) (rows : List O9) : (D3 rows).map (Et id) = D3 rows := by
 apply List.ext_getElem?
 intro i
 simp only [D3, List.getElem?_map, List.getElem?_mapIdx, Option.map_map]
 cases rows[i]? with
 | none => rfl
 | some r =>
  simp only [Option.map_some, Function.comp_def, qAP]
  split
  ·rfl
  ·simp only [Et, kill1]; rw [if_neg (by omega)]
theorem qJq {env : List (Nat × AV)} {ks : List Nat} {rows : List O9} {q : Bn} : Gh.run (.keepB ks [14] 100000 16384) ⟨env, (6, q) :: (14, .bx (D3 rows)) :: Da rows⟩ = ⟨(Lg.keep ks env).map (fun p => (p.1, Et 6 p.2)), (14, .bx (D3 rows)) :: Da rows⟩ := by
 have hk : (((6, q) :: (14, Bn.bx (D3 rows)) :: Da rows).map (·.1)).filter (fun id => !([14] : List Nat).contains id && !(decide (100000 ≤ id) && decide (id < 100000 + 16384))) = [6] := by
  rw [List.map_cons, List.map_cons, List.filter_cons, List.filter_cons]; simp only [q8t]; simp
 have hl : ∀ t, t ≠ 6 → A7 (St.kill 6 ⟨Lg.keep ks env, (6, q) :: (14, .bx (D3 rows)) :: Da rows⟩).hp t = A7 ((14, .bx (D3 rows)) :: Da rows) t := by
  intro t ht
  rw [q1P, if_neg ht]
  show (A7 ((6, q) :: (14, .bx (D3 rows)) :: Da rows) t).map _ = _
  rw [A7, if_neg (Ne.symm ht), q4n]
  by_cases h : t = 14
  ·simp [h, Qn, qCa]
  ·simp only [h, ↓reduceIte]
   split
   ·unfold Lp
    split
    ·split <;> simp [Qn]
    ·rfl
   ·rfl
 simp only [Gh.run, q9j, hk, J2, q88, qAH, List.cons_append, List.nil_append]
 rw [hl 14 (by omega)]
 simp only [A7, ↓reduceIte, List.cons_append, List.nil_append]
 congr 2
 refine qBr fun t ht => ?_
 rw [List.mem_range'_1] at ht
 rw [hl t (by omega), q4n, if_neg (by omega), if_pos ⟨ht.1, by omega⟩]
def Ib (rows : List O9) (n : Nat) (p : Int × Int) : List O9 := rows.set n (rows.getD n [] ++ [p])
theorem q6G {rows : List O9} {n : Nat} {p : Int × Int} : (Ib rows n p).length = rows.length := by simp [Ib]
theorem qH3 {env : List (Nat × AV)} {ks : List Nat} {rows : List O9} {n : Nat} {p : Int × Int} {hp : List (Nat × Bn)} {cs : List AV} (hn : n < rows.length) (hn2 : rows.length ≤ 16384)
  (hlen : cs.length = rows.length) (hcs : ∀ i, i ≠ n → cs[i]? = (D3 rows)[i]?) (hc : cs[n]? = some (.ls 47 0 ((rows.getD n []).length + 1) none)) (h47 : A7 hp 47 = some (.sl 192 2 (B1 tLn (rows.getD n [] ++ [p])))) (h14 : A7 hp 14 = some (.bx cs))
  (hno : A7 hp (100000 + n) = none) (hoth : ∀ t, 100000 ≤ t → t < 116384 → t ≠ 100000 + n → A7 hp t = Lp rows t) (hkeys : ∀ q ∈ hp, q.1 = 47 ∨ q.1 = 14 ∨ (100000 ≤ q.1 ∧ q.1 < 116384)) :
  Gh.run (.keepB ks [14] 100000 16384) (q6u 47 (100000 + n) ⟨env, hp⟩) = ⟨(Lg.keep ks (env.map fun q => (q.1, C2 (I9 47 (100000 + n)) q.2))), (14, .bx (D3 (Ib rows n p))) :: Da (Ib rows n p)⟩ := by
 have hr : q6u 47 (100000 + n) ⟨env, hp⟩ = ⟨env.map fun q => (q.1, C2 (I9 47 (100000 + n)) q.2), q0F 47 (100000 + n) hp⟩ := by
  unfold q6u
  rw [if_pos]
  simp [hno, h47]; omega
 rw [hr]
 have hget : ∀ i, (Ib rows n p)[i]? = if i = n then some (rows.getD n [] ++ [p]) else rows[i]? := by
  intro i
  unfold Ib
  rw [List.getElem?_set]
  by_cases h : n = i
  ·subst h; simp [hn]
  ·simp [h, Ne.symm h]
 have hl := fun t => q6A (a := 47) (b := 100000 + n) (t := t) hno (by omega)
 refine q8C ?_ ?_ fun t h1 h2 => ?_
 ·rw [List.filter_eq_nil_iff]
  intro id hid
  have : id = 100000 + n ∨ id ≠ 47 ∧ ∃ q ∈ hp, q.1 = id := by
   clear hl hr hno hoth h14 h47
   induction hp with
   | nil => simp [q0F] at hid
   | cons q l ih =>
    obtain ⟨k, r⟩ := q
    simp only [q0F, List.map_cons, List.mem_cons] at hid
    rcases hid with hid | hid
    ·by_cases h : k = 47
     ·left; simpa [h] using hid
     ·right; simp [h] at hid; subst hid; exact ⟨h, _, List.mem_cons_self, rfl⟩
    ·rcases ih (fun q hq => hkeys q (List.mem_cons_of_mem _ hq)) hid with h | ⟨h, q, hq, e⟩
     ·exact .inl h
     ·exact .inr ⟨h, q, List.mem_cons_of_mem _ hq, e⟩
  rcases this with h | ⟨h, q, hq, rfl⟩
  ·subst h; simp; intro _; omega
  ·rcases hkeys q hq with e | e | ⟨e1, e2⟩
   ·exact absurd e h
   ·simp [e]
   ·simp; intro _; omega
 ·rw [hl, if_neg (by omega), if_neg (by omega), h14]
  simp only [Option.map_some, D7, Option.some.injEq, Bn.bx.injEq]
  apply List.ext_getElem?
  intro i
  simp only [List.getElem?_map, D3, List.getElem?_mapIdx]
  rw [hget]
  by_cases h : i = n
  ·subst h
   rw [hc]
   have : ¬ (rows.getD i [] ++ [p] = []) := by simp
   simp only [↓reduceIte, Option.map_some, Option.some.injEq]
   unfold qAP
   rw [if_neg this]
   simp [C2, ren1, ren0, I9]
  ·rw [hcs i h, if_neg h]
   simp only [D3, List.getElem?_mapIdx, Option.map_map]
   cases hrow : rows[i]? with
   | none => rfl
   | some r =>
    simp only [Option.map_some, Function.comp_def, qAP, Option.some.injEq]
    split
    ·rfl
    ·simp only [C2, ren1, ren0, I9]; rw [if_neg (by omega)]
 ·rw [hl]
  by_cases h : t = 100000 + n
  ·rw [if_pos h, h47]
   subst h
   unfold Lp
   rw [show 100000 + n - 100000 = n by omega, hget, if_pos rfl]
   simp [D7]
  ·rw [if_neg h, if_neg (by omega), hoth t h1 h2 h]
   unfold Lp
   rw [hget, if_neg (by omega)]
   cases rows[t - 100000]? with
   | none => rfl
   | some r => simp only; split <;> simp [D7]
def q8D (k i : Nat) (r : O9) : AV := if r = [] then .t (.sl [] (some 0) (some true)) else if k ≤ i then .t (.sl (B1 tLn r) none none) else .ls (100000 + i) 0 r.length none
theorem qI2 {env : List (Nat × AV)} {rows : List O9} (he : ∀ id r, 100000 ≤ id → ∀ p ∈ env, Do id r p.2 = p.2) (k : Nat) : St.freeze (100000 + k) ⟨env, (14, .bx (rows.mapIdx (q8D (k + 1)))) :: Lq (k + 1) (Lp rows)⟩ = ⟨env, (14, .bx (rows.mapIdx (q8D k))) :: Lq k (Lp rows)⟩ := by
 have hsplit : Lq (k + 1) (Lp rows) = Lq k (Lp rows) ++ (match Lp rows (100000 + k) with | some r => [(100000 + k, r)] | none => []) := by
  unfold Lq
  rw [← List.range'_append (s := 100000) (m := k) (n := 1) (step := 1)]
  rw [List.filterMap_append]
  congr 1
  cases hr : Lp rows (100000 + k) <;> simp [hr]
 have hl : A7 ((14, Bn.bx (rows.mapIdx (q8D (k + 1)))) :: Lq (k + 1) (Lp rows)) (100000 + k) = Lp rows (100000 + k) := by
  rw [A7, if_neg (by omega), Pi, if_pos (by omega)]
 simp only [St.freeze, hl]
 cases hr : Lp rows (100000 + k) with
 | none =>
  rw [hr] at hsplit
  simp only [hsplit, List.append_nil]
  refine congrArg (fun l => (⟨env, (14, Bn.bx l) :: Lq k (Lp rows)⟩ : St)) ?_
  apply List.ext_getElem?
  intro i
  simp only [List.getElem?_mapIdx]
  cases hi : rows[i]? with
  | none => rfl
  | some r =>
   simp only [Option.map_some, q8D]
   by_cases h0 : r = []
   ·simp [h0]
   ·by_cases hik : i = k
    ·subst hik
     unfold Lp at hr
     rw [show 100000 + i - 100000 = i by omega, hi] at hr
     simp [h0] at hr
    ·have : (k + 1 ≤ i) = (k ≤ i) := by apply propext; omega
     simp [this]
 | some q =>
  obtain ⟨r, hrow, hne, rfl⟩ : ∃ r, rows[k]? = some r ∧ r ≠ [] ∧ q = .sl 192 2 (B1 tLn r) := by
   unfold Lp at hr
   rw [show 100000 + k - 100000 = k by omega] at hr
   split at hr
   ·rename_i r h
    split at hr
    ·cases hr
    ·rename_i hne; simp only [Option.some.injEq] at hr; exact ⟨r, h, hne, hr.symm⟩
   ·cases hr
  rw [hr] at hsplit
  simp only [Bn.closed, ↓reduceIte]
  have e1 : env.map (fun p => (p.1, Do (100000 + k) (.sl 192 2 (B1 tLn r)) p.2)) = env := by
   conv => rhs; rw [← List.map_id env]
   refine List.map_congr_left fun p hp => ?_
   rw [he _ _ (by omega) p hp]; rfl
  have e2 : del (100000 + k) ((14, Bn.bx (rows.mapIdx (q8D (k + 1)))) :: Lq (k + 1) (Lp rows)) = (14, Bn.bx (rows.mapIdx (q8D (k + 1)))) :: Lq k (Lp rows) := by
   rw [hsplit]
   unfold del
   rw [List.filter_cons, if_pos (by simp; omega), List.filter_append]
   congr 1
   have h1 : (Lq k (Lp rows)).filter (fun p => p.1 != 100000 + k) = Lq k (Lp rows) := by
    rw [List.filter_eq_self]
    intro p hp
    have := q1Z p hp
    simp; omega
   rw [h1]; simp
  rw [e1, e2]
  have e3 : (Lq k (Lp rows)).map (fun p => (p.1, I8 (100000 + k) (.sl 192 2 (B1 tLn r)) p.2)) = Lq k (Lp rows) := by
   conv => rhs; rw [← List.map_id (Lq k (Lp rows))]
   refine List.map_congr_left fun p hp => ?_
   obtain ⟨id, hid, hee⟩ := List.mem_filterMap.1 hp
   cases hg : Lp rows id with
   | none => rw [hg] at hee; cases hee
   | some q =>
    rw [hg] at hee
    simp only [Option.map_some, Option.some.injEq] at hee; subst hee
    unfold Lp at hg
    split at hg
    ·split at hg
     ·cases hg
     ·simp only [Option.some.injEq] at hg; subst hg; rfl
    ·cases hg
  rw [List.map_cons, e3]
  refine congrArg (fun l => (⟨env, (14, Bn.bx l) :: Lq k (Lp rows)⟩ : St)) ?_
  apply List.ext_getElem?
  intro i
  simp only [List.getElem?_map, List.getElem?_mapIdx, Option.map_map]
  cases hi : rows[i]? with
  | none => rfl
  | some r' =>
   simp only [Option.map_some, Function.comp_def, q8D]
   by_cases h0 : r' = []
   ·simp [h0, Do, frz1, frz0]
   ·simp only [h0, ↓reduceIte]
    by_cases hik : i = k
    ·subst hik
     rw [hrow] at hi; cases hi
     rw [if_neg (by omega), if_pos (Nat.le_refl _)]
     simp [Do, frz1, frz0, Am, A7]
    ·by_cases hlt : k + 1 ≤ i
     ·rw [if_pos hlt, if_pos (by omega)]; rfl
     ·rw [if_neg hlt, if_neg (by omega)]
      simp only [Do, frz1, frz0]
      rw [if_neg (by omega)]
theorem qG5 {env : List (Nat × AV)} {rows : List O9} (he : ∀ id r, 100000 ≤ id → ∀ p ∈ env, Do id r p.2 = p.2) : ∀ k, qF1 100000 k ⟨env, (14, .bx (rows.mapIdx (q8D k))) :: Lq k (Lp rows)⟩ = ⟨env, (14, .bx (rows.mapIdx (q8D 0))) :: []⟩
 | 0 => by simp [qF1, Lq]
 | k + 1 => by
  rw [qF1, qI2 he k]
  exact qG5 he k
def qBH (r : O9) : T := if r = [] then .sl [] (some 0) (some true) else .sl (B1 tLn r) none none
theorem qI3 {env : List (Nat × AV)} {rows : List O9} (hl : rows.length ≤ 16384) (he : ∀ id r, 100000 ≤ id → ∀ p ∈ env, Do id r p.2 = p.2) : Gh.run (.frzs 100000 16384) ⟨env, (14, .bx (D3 rows)) :: Da rows⟩ = ⟨env, [(14, .bx (rows.map fun r => .t (qBH r)))]⟩ := by
 have h1 : D3 rows = rows.mapIdx (q8D 16384) := by
  apply List.ext_getElem?
  intro i
  simp only [D3, List.getElem?_mapIdx]
  cases hi : rows[i]? with
  | none => rfl
  | some r =>
   have := (List.getElem?_eq_some_iff.1 hi).1
   simp only [Option.map_some, qAP, q8D]
   rw [if_neg (show ¬ 16384 ≤ i by omega)]
 have h2 : rows.mapIdx (q8D 0) = rows.map fun r => .t (qBH r) := by
  apply List.ext_getElem?
  intro i
  simp only [List.getElem?_mapIdx, List.getElem?_map]
  cases rows[i]? with
  | none => rfl
  | some r =>
   simp only [Option.map_some, q8D, qBH, Nat.zero_le, ↓reduceIte]
   split <;> rfl
 have := qG5 (rows := rows) he 16384
 rw [h2] at this
 simp only [Gh.run, h1, Da]
 exact this
theorem Ui {rows : List O9} : (D3 rows).length = rows.length := by simp [D3]
theorem qI4 {rows : List O9} {n : Nat} (h : n < rows.length) : ((D3 rows).drop n).take 1 = [qAP n (rows.getD n [])] := by
 have : (D3 rows).drop n = qAP n (rows.getD n []) :: (D3 rows).drop (n + 1) := by
  rw [List.drop_eq_getElem_cons (by rw [Ui]; exact h)]
  simp [D3, h]
 rw [this]; rfl
theorem qCb {l : O9} : E2 2 (B1 tLn l) := q3U fun _ => rfl
theorem qLv {Q : AX → St → Prop} (rows : List O9) (n : Nat) (hn : n < rows.length) (hn2 : rows.length ≤ 16384) (i k : Int) (hr : (rows.getD n []).length ≤ 1000000000) (t4 t18 t19 t20 t26 t27 t28 t36 : T) (m : Nat) (hm : m = rows.length)
  (h : Q .normal ⟨[(3, .lb 14 m), (4, .t t4), (5, .t (tI i)), (18, .t t18), (19, .t t19), (20, .t t20), (26, .t t26), (27, .t t27), (28, .t t28)], (14, .bx (D3 (Ib rows n (i, k)))) :: Da (Ib rows n (i, k))⟩) :
  H5 Tryz.prog Γ Ec ⟨[(3, .lb 14 m), (4, .t t4), (5, .t (tI i)), (7, .t (tI k)), (8, .t (tI n)), (18, .t t18), (19, .t t19), (20, .t t20), (26, .t t26), (27, .t t27), (28, .t t28), (36, .t t36)], (14, .bx (D3 rows)) :: Da rows⟩
   (fun s1 => Q .normal (ghs [.renS 47 100000 8, .keepB [3, 4, 5, 18, 19, 20, 26, 27, 28] [14] 100000 16384] s1)) ⟨⟩ := by
 subst hm
 have hw : E2 2 [[tI i, tI k]] := by intro e he; simp at he; subst he; rfl
 have hlk47 : A7 (Da rows) 47 = none := by rw [Da, Pi, if_neg (by omega)]
 have hat := qI4 hn
 have hlk : A7 (Da rows) (100000 + n) = if rows.getD n [] = [] then none else some (.sl 192 2 (B1 tLn (rows.getD n []))) := by
  rw [Da, Pi, if_pos (by omega)]
  unfold Lp
  rw [show 100000 + n - 100000 = n by omega, List.getElem?_eq_getElem hn]
  simp [hn]
 have hadd : Ib rows n (i, k) = rows.set n (rows.getD n [] ++ [(i, k)]) := rfl
 have fin := @qH3
 generalize hrow : rows.getD n [] = row at hr hat hlk hadd
 have hlen1 : n + 1 ≤ rows.length := hn
 have hset : ∀ (j : Nat), j ≠ n → ∀ (l : List AV) (x : AV), l.length = rows.length → (l.take n ++ x :: l.drop (n + 1))[j]? = l[j]? := by
  intro j hj l x hl
  rw [List.getElem?_append]
  by_cases hlt : j < n
  ·rw [if_pos (by simp; omega), List.getElem?_take, if_pos hlt]
  ·rw [if_neg (by simp; omega)]
   have e : (l.take n).length = n := by simp; omega
   rw [e, show j - n = (j - n - 1) + 1 by omega, List.getElem?_cons_succ, List.getElem?_drop]
   congr 1; omega
 have hseta : ∀ (l : List AV) (x : AV), l.length = rows.length → (l.take n ++ x :: l.drop (n + 1))[n]? = some x := by
  intro l x hl
  rw [List.getElem?_append, if_neg (by simp; omega)]
  have e : (l.take n).length = n := by simp; omega
  rw [e]; simp
 by_cases h0 : row = []
 ·subst h0
  simp only [qAP, ↓reduceIte] at hat hlk
  simp (disch := omega) [-Gh.run, G8, hat, Ui, hn, hw, hlk47, hlen1]
  rw [show ∀ st, A7 st.env 8 = some (.t (tI n)) → (Gh.renS 47 100000 8).run st = q6u 47 (100000 + n) st from fun st hs => by simp [Gh.run, hs]]
  rw [fin (p := (i, k)) hn hn2 (by simp [Ui]; omega) (fun j hj => hset j hj _ _ Ui) (by rw [hseta _ _ Ui, hrow]; first | done | rfl) (by rw [hrow]; first | done | rfl) (by simp [A7]) (by rw [A7, if_neg (by omega), A7, if_neg (by omega)]; exact hlk) (fun t h1 h2 h3 => ?_) (fun q hq => ?_)]
  ·simpa [C2, ren1, ren0, I9] using h
  ·rw [A7, if_neg (by omega), A7, if_neg (by omega), Da, Pi, if_pos (by omega)]
  ·rcases List.mem_cons.1 hq with rfl | hq
   ·exact .inl rfl
   ·rcases List.mem_cons.1 hq with rfl | hq
    ·exact .inr (.inl rfl)
    ·have := q1Z q hq; exact .inr (.inr (by omega))
  ·rfl
 ·simp only [qAP, h0, ↓reduceIte] at hat hlk
  have h14 : ¬ 14 = 100000 + n := by omega
  have htl : ∀ t, A7 ((Da rows).filter fun p => p.1 != 100000 + n) t = if t = 100000 + n then none else A7 (Da rows) t := fun t => q9s (100000 + n) (Da rows) t
  have hkl : ∀ l : List (Nat × Bn), (∀ p ∈ l, p ∈ Da rows) → l.map (fun p => (p.1, Qn (100000 + n) p.2)) = l := by
   intro l hl
   conv => rhs; rw [← List.map_id l]
   refine List.map_congr_left fun p hp => ?_
   obtain ⟨id, hid, hee⟩ := List.mem_filterMap.1 (hl p hp)
   cases hg : Lp rows id with
   | none => rw [hg] at hee; cases hee
   | some q =>
    rw [hg] at hee
    simp only [Option.map_some, Option.some.injEq] at hee; subst hee
    unfold Lp at hg
    split at hg
    ·split at hg
     ·cases hg
     ·simp only [Option.some.injEq] at hg; subst hg; rfl
    ·cases hg
  have hk : (del (100000 + n) ((14, Bn.bx (D3 rows)) :: Da rows)).map (fun p => (p.1, Qn (100000 + n) p.2)) = (14, .bx ((D3 rows).map (Et (100000 + n)))) :: (Da rows).filter fun p => p.1 != 100000 + n := by
   have e : del (100000 + n) ((14, Bn.bx (D3 rows)) :: Da rows) = (14, Bn.bx (D3 rows)) :: (Da rows).filter fun p => p.1 != 100000 + n := by
    unfold del
    rw [List.filter_cons, if_pos (by simp; omega)]
   rw [e, List.map_cons, hkl _ (fun p hp => (List.mem_filter.1 hp).1)]
   rfl
  have hl47 : A7 ((Da rows).filter fun p => p.1 != 100000 + n) 47 = none := by rw [htl, if_neg (by omega)]; exact hlk47
  generalize htail : (Da rows).filter (fun p => p.1 != 100000 + n) = tl at htl hk hl47
  have hkeys : ∀ q ∈ tl, 100000 ≤ q.1 ∧ q.1 < 116384 := by
   intro q hq
   rw [← htail] at hq
   have := q1Z q (List.mem_filter.1 hq).1
   omega
  have hcs : ∀ j, j ≠ n → ((D3 rows).map (Et (100000 + n)))[j]? = (D3 rows)[j]? := by
   intro j hj
   simp only [D3, List.getElem?_map, List.getElem?_mapIdx, Option.map_map]
   cases rows[j]? with
   | none => rfl
   | some r =>
    simp only [Option.map_some, Function.comp_def, qAP]
    split
    ·rfl
    ·simp only [Et, kill1]; rw [if_neg (by omega)]
  have hcl : ((D3 rows).map (Et (100000 + n))).length = rows.length := by simp [Ui]
  simp (disch := omega) [-Gh.run, G8, -del, -Qn, hat, Ui, hn, hw, hlk, hlen1, Ac, qCb, h14, hk, hl47]
  refine ⟨by omega, ?_⟩
  rw [show ∀ st, A7 st.env 8 = some (.t (tI n)) → (Gh.renS 47 100000 8).run st = q6u 47 (100000 + n) st from fun st hs => by simp [Gh.run, hs]]
  ·rw [fin (p := (i, k)) hn hn2 (by simp [hcl]; omega) (fun j hj => (hset j hj _ _ hcl).trans (hcs j hj)) (by rw [hseta _ _ hcl, hrow]) (by rw [hrow]; simp [A7]; rw [show [tI i, tI k] = tLn (i, k) from rfl, q1T]) (by simp [A7]) (by rw [A7, if_neg (by omega), A7, if_neg (by omega), htl, if_pos rfl]) (fun t h1 h2 h3 => ?_) (fun q hq => ?_)]
   ·simpa [C2, ren1, ren0, I9] using h
   ·rw [A7, if_neg (by omega), A7, if_neg (by omega), htl, if_neg h3, Da, Pi, if_pos (by omega)]
   ·rcases List.mem_cons.1 hq with rfl | hq
    ·exact .inl rfl
    ·rcases List.mem_cons.1 hq with rfl | hq
     ·exact .inr (.inl rfl)
     ·exact .inr (.inr (hkeys q hq))
  ·rfl
def K9 (c : Bd) (i : Nat) : List Int → Nat → List O9 → List O9
 | [], _, rows => rows
 | n :: l, k, rows => K9 c i l (k + 1) (if Re c n then rows else Ib rows n.toNat (i, k))
def Hi (c : Bd) : List Nd → Nat → List O9 → List O9
 | [], _, rows => rows
 | x :: l, i, rows => Hi c l (i + 1) (K9 c i x.inn.l 0 rows)
def RB (rows : List O9) (B : Nat) : Prop := ∀ r ∈ rows, r.length ≤ B
theorem RB.add {rows : List O9} {B n : Nat} {p : Int × Int} (h : RB rows B) : RB (Ib rows n p) (B + 1) := by
 intro r hr
 unfold Ib at hr
 by_cases hn : n < rows.length
 ·rcases List.mem_or_eq_of_mem_set hr with hr | rfl
  ·have := h r hr; omega
  ·have : (rows.getD n []).length ≤ B := by
    have e : rows.getD n [] = rows[n] := by simp [hn]
    rw [e]; exact h _ (List.getElem_mem hn)
   simp at this ⊢; omega
 ·rw [List.set_eq_of_length_le (by omega)] at hr
  have := h r hr; omega
theorem RB.mono {rows : List O9} {B C : Nat} (h : RB rows B) (hc : B ≤ C) : RB rows C := fun r hr => Nat.le_trans (h r hr) hc
theorem RB.at {rows : List O9} {B : Nat} (h : RB rows B) (n : Nat) : (rows.getD n []).length ≤ B := by
 by_cases hn : n < rows.length
 ·have e : rows.getD n [] = rows[n] := by simp [hn]
  rw [e]; exact h _ (List.getElem_mem hn)
 ·simp [List.getD, List.getElem?_eq_none (Nat.not_lt.1 hn)]
theorem Z9 (c : Bd) (i : Nat) : ∀ (l : List Int) (k : Nat) (rows : List O9) (B : Nat), RB rows B → (K9 c i l k rows).length = rows.length ∧ RB (K9 c i l k rows) (B + l.length)
 | [], k, rows, B, h => ⟨rfl, h⟩
 | n :: l, k, rows, B, h => by
  simp only [K9, List.length_cons]
  split
  ·have := Z9 c i l (k + 1) rows B h
   exact ⟨this.1, this.2.mono (by omega)⟩
  ·have := Z9 c i l (k + 1) _ (B + 1) (h.add (n := n.toNat) (p := (i, k)))
   exact ⟨this.1.trans q6G, this.2.mono (by omega)⟩
theorem q8E {Q : AX → St → Prop} (c : Bd) (hn : c.nodes.l.length ≤ 16384) (i : Nat) (s : Sl Int) (hs : s.l.length ≤ 1000000000) (R : List O9)
  (h0 : Q (.exit 2) ⟨[(3, .lb 14 c.nodes.l.length), (4, .t (.fn 188 [.ip (tC c) 0])), (5, .t (tI i)), (18, .t (Ab c.nodes)), (19, .t (tI c.nodes.l.length)), (20, .t (tI i)), (26, .t (Av s)), (27, .t (tI s.l.length)), (28, .t (tI s.l.length)), (29, .t (tB false))], (14, .bx (D3 R)) :: Da R⟩) :
  ∀ (kk k : Nat) (rows : List O9), kk + k = s.l.length → rows.length = c.nodes.l.length → (∀ n, (rows.getD n []).length + kk ≤ 1000000000) → K9 c i (s.l.drop k) k rows = R →
  run Tryz.prog Γ J7 Q ⟨[(3, .lb 14 c.nodes.l.length), (4, .t (.fn 188 [.ip (tC c) 0])), (5, .t (tI i)), (18, .t (Ab c.nodes)), (19, .t (tI c.nodes.l.length)), (20, .t (tI i)), (26, .t (Av s)), (27, .t (tI s.l.length)), (28, .t (tI k))], (14, .bx (D3 rows)) :: Da rows⟩
 | 0, k, rows, h, hl, hb, hR => by
  refine Qz fun K hK => ?_
  have h2 : ¬ k < s.l.length := by omega
  have h3 : k = s.l.length := by omega
  simp [h2, -Gh.run, G8, Y7]
  subst h3
  rw [List.drop_of_length_le (Nat.le_refl _)] at hR
  simp only [K9] at hR
  subst hR
  exact h0
 | kk + 1, k, rows, h, hl, hb, hR => by
  refine Qz fun K hK => ?_
  have h2 : k < s.l.length := by omega
  rw [List.drop_eq_getElem_cons h2] at hR
  simp only [K9] at hR
  have e := q19 (Γ := Γ) c s.l[k] (by omega)
  simp (disch := omega) [h2, -Gh.run, G8, Y7, -Ec, Av, A5, Cb (0 : Int), A8]
  refine Z8 e ?_
  by_cases ho : Re c s.l[k] = true
  ·rw [if_pos ho] at hR
   simp (disch := omega) [ho, -Gh.run, G8, Y7, -Ec, A9]
   rw [hK]
   have := q8E c hn i s hs R h0 kk (k + 1) rows (by omega) hl (fun n => by have := hb n; omega) hR
   simpa [Av] using this
  ·have ho' : Re c s.l[k] = false := by simpa using ho
   rw [if_neg ho] at hR
   have hr := q4m (c := c) (l := [s.l[k]]) (by simp [ho']) s.l[k] (by simp)
   simp (disch := omega) [ho', -Gh.run, G8, Y7, -Ec]
   have hz : ((s.l[k]).toNat : Int) = s.l[k] := by omega
   have := qLv (Γ := Γ) (Q := Lh 3 (An (run Tryz.prog Γ (.reg O4 [.keepB [3, 4, 5, 18, 19, 20, 26, 27, 28] [14] 100000 16384]) (An (fun s => An K Q .normal (ghs [.keepB [3, 4, 5, 18, 19, 20, 26, 27, 28] [14] 100000 16384] s)) (An K Q))) (An (fun s => An K Q .normal (ghs [.keepB [3, 4, 5, 18, 19, 20, 26, 27, 28] [14] 100000 16384] s)) (An K Q)))) rows (s.l[k]).toNat (by omega) (by omega) i k (by have := hb (s.l[k]).toNat; omega)
    (.fn 188 [.ip (tC c) 0]) (Ab c.nodes) (tI c.nodes.l.length) (tI i) (.sl (Ak s.l) s.cap s.nl) (tI s.l.length) (tI k) (tB true) c.nodes.l.length hl.symm ?_
   ·rw [hz] at this; exact this
   ·simp (disch := omega) [-Gh.run, G8, Y7, A9]
    rw [hK]
    have hbb : ∀ n, ((Ib rows (s.l[k]).toNat (i, k)).getD n []).length + kk ≤ 1000000000 := by
     intro n
     unfold Ib
     have h5 := hb n
     have h6 := hb (s.l[k]).toNat
     by_cases hq : n = (s.l[k]).toNat
     ·subst hq
      have hlt : (s.l[k]).toNat < rows.length := by omega
      simp [List.getD, List.getElem?_set, hlt] at h6 ⊢
      omega
     ·have : ¬ (s.l[k]).toNat = n := fun e => hq e.symm
      simp [List.getD, List.getElem?_set, this] at h5 ⊢
      omega
    have := q8E c hn i s hs R h0 kk (k + 1) (Ib rows (s.l[k]).toNat (i, k)) (by omega) (q6G.trans hl) hbb hR
    simpa [Av] using this
theorem qJr {ks rs : List Nat} {st : St} : Gh.run (.keep ks rs) st = ⟨(J2 ((st.hp.map (·.1)).filter fun id => !rs.contains id) ⟨Lg.keep ks st.env, st.hp⟩).env, Lg.keep rs (J2 ((st.hp.map (·.1)).filter fun id => !rs.contains id) ⟨Lg.keep ks st.env, st.hp⟩).hp⟩ := rfl
theorem qI5 {env : List (Nat × AV)} {ks : List Nat} {rows : List O9} {q : Bn} : Gh.run (.keepB ks [6, 14] 100000 16384) ⟨env, (6, q) :: (14, .bx (D3 rows)) :: Da rows⟩ = ⟨Lg.keep ks env, (6, q) :: (14, .bx (D3 rows)) :: Da rows⟩ := by
 have hk : (((6, q) :: (14, Bn.bx (D3 rows)) :: Da rows).map (·.1)).filter (fun id => !([6, 14] : List Nat).contains id && !(decide (100000 ≤ id) && decide (id < 100000 + 16384))) = [] := by
  rw [List.filter_eq_nil_iff]
  intro id hid
  simp only [List.map_cons, List.mem_cons] at hid
  rcases hid with rfl | rfl | hid
  ·simp
  ·simp
  ·obtain ⟨p, hp, rfl⟩ := List.mem_map.1 hid
   have := q1Z p hp
   simp; omega
 simp only [Gh.run, q9j, hk, J2, q88, qAH, A7, ↓reduceIte]
 simp only [show ¬ (6 = 14) by omega, ↓reduceIte, List.cons_append, List.nil_append]
 congr 3
 refine qBr fun t ht => ?_
 rw [List.mem_range'_1] at ht
 rw [A7, if_neg (by omega), q4n, if_neg (by omega), if_pos ⟨ht.1, by omega⟩]
theorem qAR {Q : AX → St → Prop} (c : Bd) (hn : c.nodes.l.length ≤ 16384) (hi : ∀ x ∈ c.nodes.l, x.inn.l.length ≤ 16) (R : List O9)
  (h0 : Q (.exit 0) ⟨[(3, .lb 14 c.nodes.l.length), (4, .t (.fn 188 [.ip (tC c) 0])), (18, .t (Ab c.nodes)), (19, .t (tI c.nodes.l.length)), (20, .t (tI c.nodes.l.length)), (21, .t (tB false))], (14, .bx (D3 R)) :: Da R⟩) :
  ∀ (kk i : Nat) (rows : List O9), kk + i = c.nodes.l.length → rows.length = c.nodes.l.length → RB rows (16 * i) → Hi c (c.nodes.l.drop i) i rows = R →
  run Tryz.prog Γ J8 Q ⟨[(3, .lb 14 c.nodes.l.length), (4, .t (.fn 188 [.ip (tC c) 0])), (18, .t (Ab c.nodes)), (19, .t (tI c.nodes.l.length)), (20, .t (tI i))], (14, .bx (D3 rows)) :: Da rows⟩
 | 0, i, rows, h, hl, hb, hR => by
  refine R7 fun K hK => ?_
  have h2 : ¬ i < c.nodes.l.length := by omega
  have h3 : i = c.nodes.l.length := by omega
  simp [h2, -Gh.run, G8, Y7]
  subst h3
  rw [List.drop_of_length_le (Nat.le_refl _)] at hR
  simp only [Hi] at hR
  subst hR
  exact h0
 | kk + 1, i, rows, h, hl, hb, hR => by
  refine R7 fun K hK => ?_
  have h2 : i < c.nodes.l.length := by omega
  rw [List.drop_eq_getElem_cons h2] at hR
  simp only [Hi] at hR
  have hx := hi _ (List.getElem_mem h2)
  have hlk6 : A7 (Da rows) 6 = none := by rw [Da, Pi, if_neg (by omega)]
  simp (disch := omega) [h2, -Gh.run, G8, Y7, qJq, qI5, Ab, Ac, Ei Nd.d, Bi, E0, Av, hlk6, A5]
  refine q8E c hn i c.nodes.l[i].inn (by omega) _ ?_ c.nodes.l[i].inn.l.length 0 rows (by omega) hl (fun n => by have := hb.at n; omega) rfl
  obtain ⟨hf1, hf2⟩ := Z9 c i c.nodes.l[i].inn.l 0 rows (16 * i) hb
  simp (disch := omega) [-Gh.run, G8, Y7, A9, List.drop_zero]
  rw [hK]
  have := qAR c hn hi R h0 kk (i + 1) _ (by omega) (hf1.trans hl) (hf2.mono (by omega)) hR
  simpa [Ab] using this
def Za (r : O9) : T := .sl (B1 tLn r) (some r.length) (if r = [] then some true else none)
theorem qI6 (r : O9) : Ah Tryz.prog Γ 170 [qBH r] (Za r) := by
 unfold qBH Za
 by_cases h : r = []
 ·subst h; simpa [B1] using qBp (Γ := Γ) [] (some 0) (some true) qJn
 ·rw [if_neg h, if_neg h]
  have := qBp (Γ := Γ) (B1 tLn r) none none qCb
  rwa [Ac] at this
def q2M (rows : List O9) (i : Nat) : List AV := rows.mapIdx fun j r => .t (if j < i then Za r else qBH r)
theorem q72 {rows : List O9} {i : Nat} : (q2M rows i).length = rows.length := by simp [q2M]
theorem qJs {rows : List O9} {i : Nat} (h : i < rows.length) : ((q2M rows i).drop i).take 1 = [.t (qBH rows[i])] := by
 rw [List.drop_eq_getElem_cons (by rw [q72]; exact h)]
 simp [q2M]
theorem qH4 {rows : List O9} {i : Nat} (h : i < rows.length) : (q2M rows i).take i ++ .t (Za rows[i]) :: (q2M rows i).drop (i + 1) = q2M rows (i + 1) := by
 apply List.ext_getElem?
 intro j
 rw [List.getElem?_append]
 have e : ((q2M rows i).take i).length = i := by simp [q72]; omega
 rw [e]
 by_cases h1 : j < i
 ·rw [if_pos h1, List.getElem?_take, if_pos h1]
  simp only [q2M, List.getElem?_mapIdx]
  cases rows[j]? with
  | none => rfl
  | some r => simp only [Option.map_some]; rw [if_pos h1, if_pos (by omega)]
 ·rw [if_neg h1]
  by_cases h2 : j = i
  ·subst h2
   simp [q2M, List.getElem?_eq_getElem h]
  ·rw [show j - i = (j - i - 1) + 1 by omega, List.getElem?_cons_succ, List.getElem?_drop]
   rw [show i + 1 + (j - i - 1) = j by omega]
   simp only [q2M, List.getElem?_mapIdx]
   cases rows[j]? with
   | none => rfl
   | some r => simp only [Option.map_some]; rw [if_neg h1, if_neg (by omega)]
theorem qBs {Q : AX → St → Prop} (rows : List O9) (hn : rows.length ≤ 16384)
  (h0 : Q (.exit 4) ⟨[(3, .lb 14 rows.length), (51, .lb 14 rows.length), (52, .t (tI rows.length)), (53, .t (tI rows.length)), (54, .t (tB false))], [(14, .bx (q2M rows rows.length))]⟩) :
  ∀ (kk i : Nat), kk + i = rows.length →
  run Tryz.prog Γ J9 Q ⟨[(3, .lb 14 rows.length), (51, .lb 14 rows.length), (52, .t (tI rows.length)), (53, .t (tI i))], [(14, .bx (q2M rows i))]⟩
 | 0, i, h => by
  refine R9 fun K hK => ?_
  have h2 : ¬ i < rows.length := by omega
  have h3 : i = rows.length := by omega
  simp [h2]
  subst h3
  exact h0
 | kk + 1, i, h => by
  refine R9 fun K hK => ?_
  have h2 : i < rows.length := by omega
  have h3 : i + 1 ≤ rows.length := h2
  have e := qI6 (Γ := Γ) rows[i]
  have ho : (qBH rows[i]).one = true := by unfold qBH; split <;> rfl
  simp (disch := omega) [h2, h3, qJs h2, q72]
  refine Ae e rfl ?_
  simp (disch := omega) [h2, h3, q72, A9, Za]
  rw [hK]
  have := qBs rows hn h0 kk (i + 1) (by omega)
  rw [← qH4 h2] at this
  simpa [Za] using this
def Fe (c : Bd) : List O9 := Hi c c.nodes.l 0 (List.replicate c.nodes.l.length [])
def qDi (rows : List O9) : T := .sl (Aj Za rows) (some rows.length) none
theorem q73 (c : Bd) : ∀ (l : List Nd) (i : Nat) (rows : List O9), (Hi c l i rows).length = rows.length
 | [], _, _ => rfl
 | x :: l, i, rows => by
  simp only [Hi]
  rw [q73 c l]
  exact (Z9 c i x.inn.l 0 rows (rows.foldr (fun r m => r.length + m) 0) (by
   intro r hr
   induction rows with
   | nil => cases hr
   | cons y ys ih =>
    simp only [List.foldr_cons]
    rcases List.mem_cons.1 hr with rfl | hr
    ·omega
    ·have := ih hr; omega)).1
theorem q0N (c : Bd) : (Fe c).length = c.nodes.l.length := by rw [Fe, q73]; simp
theorem qDj (c : Bd) (hn : c.nodes.l.length ≤ 16384) (hi : ∀ x ∈ c.nodes.l, x.inn.l.length ≤ 16) : Ah Tryz.prog Γ 146 [.agg (tC c)] (qDi (Fe c)) := by
 refine B7 q51 rfl ?_
 have eo := Y6 (Γ := Γ) c
 have hR := q0N c
 have hk1 : ∀ (env : List (Nat × AV)) (ks : List Nat), Gh.run (.keepB ks [14] 100000 16384) ⟨env, [(14, .bx (List.replicate c.nodes.l.length (.t (.sl [] (some 0) (some true)))))]⟩ = ⟨Lg.keep ks env, (14, .bx (D3 (List.replicate c.nodes.l.length []))) :: Da (List.replicate c.nodes.l.length [])⟩ := by
  intro env ks
  have hc : D3 (List.replicate c.nodes.l.length []) = List.replicate c.nodes.l.length (.t (.sl [] (some 0) (some true))) := by
   apply List.ext_getElem?
   intro j
   simp only [D3, List.getElem?_mapIdx, List.getElem?_replicate]
   split <;> simp [qAP]
  refine q8C (by simp) (by simp [A7, hc]) fun t h1 h2 => ?_
  rw [A7, if_neg (by omega)]
  unfold Lp
  rw [List.getElem?_replicate]
  split <;> rename_i hq
  ·split at hq
   ·simp only [Option.some.injEq] at hq; subst hq; rfl
   ·cases hq
  ·rfl
 simp (disch := omega) [Z1, tC, Ab, Ad, Ag, Av, Ac, -Gh.run, G8, qJr, hk1, A9]
 refine ⟨by omega, ?_⟩
 refine Ae eo rfl ?_
 simp (disch := omega) [-Gh.run, G8, Y7, Ac]
 have hp0 : RB (List.replicate c.nodes.l.length []) (16 * 0) := by
  intro r hr; rw [List.eq_of_mem_replicate hr]; simp
 refine qAR c hn hi (Fe c) ?_ c.nodes.l.length 0 (List.replicate c.nodes.l.length []) (by omega) (by simp) hp0 rfl
 generalize Fe c = R at hR
 rw [← hR]
 simp (disch := omega) [-Gh.run, G8]
 rw [qI3 (by omega) (fun id r h p hp => by
  simp only [List.mem_cons, List.not_mem_nil, or_false] at hp
  have h14 : ¬ 14 = id := by omega
  rcases hp with rfl | rfl | rfl | rfl | rfl | rfl | rfl | rfl | rfl <;> simp [Do, frz1, frz0, h14])]
 have hmix : (R.map fun r => AV.t (qBH r)) = q2M R 0 := by
  apply List.ext_getElem?
  intro j
  simp only [List.getElem?_map, q2M, List.getElem?_mapIdx]
  cases R[j]? <;> simp
 rw [hmix]
 simp
 refine qBs R (by omega) ?_ R.length 0 (by omega)
 have hfin : q2M R R.length = (R.map Za).map .t := by
  apply List.ext_getElem?
  intro j
  simp only [List.getElem?_map, q2M, List.getElem?_mapIdx, Option.map_map]
  cases hj : R[j]? with
  | none => rfl
  | some r =>
   have := (List.getElem?_eq_some_iff.1 hj).1
   simp only [Option.map_some, Function.comp_def]
   rw [if_pos this]
 have hopt : As ((q2M R R.length).map (Am [(14, .bx (q2M R R.length))] 3)) = some (R.map Za) := by
  conv => lhs; rw [hfin]
  rw [List.map_map]
  have : (R.map Za).map (Am [(14, .bx ((R.map Za).map .t))] 3 ∘ AV.t) = (R.map Za).map fun t => some t := List.map_congr_left fun t _ => by simp [Am]
  rw [this]; exact Qc
 simp [Z2, qDi, hopt, Aj]
end Go.Lg
namespace Go.Lg
open Go Go.Proofs
def q0O (N : Nat) (rows : List O9) : Prop := ∀ r ∈ rows, ∀ p ∈ r, ∃ i : Nat, i < N ∧ p.1 = i
theorem q0O.add {N : Nat} {rows : List O9} {n i : Nat} {k : Int} (h : q0O N rows) (hi : i < N) : q0O N (Ib rows n (i, k)) := by
 intro r hr p hp
 unfold Ib at hr
 by_cases hn : n < rows.length
 ·rcases List.mem_or_eq_of_mem_set hr with hr | rfl
  ·exact h r hr p hp
  ·rcases List.mem_append.1 hp with hp | hp
   ·have e : rows.getD n [] = rows[n] := by simp [hn]
    rw [e] at hp
    exact h _ (List.getElem_mem hn) p hp
   ·simp at hp; subst hp; exact ⟨i, hi, rfl⟩
 ·rw [List.set_eq_of_length_le (by omega)] at hr
  exact h r hr p hp
theorem q6H {N : Nat} (c : Bd) (i : Nat) (hi : i < N) : ∀ (l : List Int) (k : Nat) (rows : List O9), q0O N rows → q0O N (K9 c i l k rows)
 | [], _, _, h => h
 | n :: l, k, rows, h => by
  simp only [K9]
  split
  ·exact q6H c i hi l (k + 1) rows h
  ·exact q6H c i hi l (k + 1) _ (h.add hi)
theorem q8u {N : Nat} (c : Bd) : ∀ (l : List Nd) (i : Nat) (rows : List O9), i + l.length ≤ N → q0O N rows → q0O N (Hi c l i rows)
 | [], _, _, _, h => h
 | x :: l, i, rows, hl, h => by
  simp only [Hi]
  simp at hl
  exact q8u c l (i + 1) _ (by omega) (q6H c i (by omega) _ _ _ h)
theorem q6I (c : Bd) : q0O c.nodes.l.length (Fe c) := by
 refine q8u c c.nodes.l 0 _ (by omega) fun r hr p hp => ?_
 rw [List.eq_of_mem_replicate hr] at hp; cases hp
theorem q8v (c : Bd) : ∀ (l : List Nd) (i B : Nat) (rows : List O9), (∀ x ∈ l, x.inn.l.length ≤ 16) → RB rows B → RB (Hi c l i rows) (B + 16 * l.length)
 | [], _, _, _, _, h => h
 | x :: l, i, B, rows, hl, h => by
  simp only [Hi, List.length_cons]
  have h1 := (Z9 c i x.inn.l 0 rows B h).2
  have h2 := hl x List.mem_cons_self
  exact (q8v c l (i + 1) (B + 16) _ (fun y hy => hl y (List.mem_cons_of_mem _ hy)) (h1.mono (by omega))).mono (by omega)
theorem qFD (c : Bd) (hn : c.nodes.l.length ≤ 16384) (hi : ∀ x ∈ c.nodes.l, x.inn.l.length ≤ 16) : RB (Fe c) 262144 := by
 refine (q8v c c.nodes.l 0 0 _ hi fun r hr => ?_).mono (by omega)
 rw [List.eq_of_mem_replicate hr]; simp
structure LS where
 out : List Int
 left : List Int
 rdy : List Int
def Cd (k : Int) : Bool := decide (1 ≤ k ∧ k ≤ 13)
def Ap (c : Bd) (j : Nat) : Int := (c.nodes.l.getD j Nd.d).k
def E8 (c : Bd) (n : Nat) (s : LS) (p : Int × Int) : LS :=
 if Cd (Ap c p.1.toNat) then
  ⟨s.out.set p.1.toNat (max (s.out.getD p.1.toNat 0) (s.out.getD n 0 + 1)), s.left.set p.1.toNat (s.left.getD p.1.toNat 0 - 1), if s.left.getD p.1.toNat 0 - 1 = 0 then s.rdy ++ [p.1] else s.rdy⟩
 else s
def Gx (c : Bd) (n : Nat) : O9 := (Fe c).getD n []
def Nw (c : Bd) : Nat → Nat → LS → Nat × LS
 | 0, d, s => (d, s)
 | f + 1, d, s => if d < s.rdy.length then Nw c f (d + 1) ((Gx c (s.rdy.getD d 0).toNat).foldl (E8 c (s.rdy.getD d 0).toNat) s) else (d, s)
def Dt (x : Nd) : Int := if Cd x.k then x.inn.l.length else 0
def Dw : List Nd → Nat → List Int
 | [], _ => []
 | x :: l, i => if Dt x = 0 then (i : Int) :: Dw l (i + 1) else Dw l (i + 1)
def Ic (c : Bd) : LS := ⟨List.replicate c.nodes.l.length 0, c.nodes.l.map Dt, Dw c.nodes.l 0⟩
def Pj (c : Bd) : Nat × LS := Nw c (c.nodes.l.length + 1) 0 (Ic c)
structure LI (N M : Nat) (s : LS) : Prop where
 lo : s.out.length = N
 ll : s.left.length = N
 rd : ∀ j ∈ s.rdy, ∃ i : Nat, i < N ∧ j = i ∧ s.left.getD i 0 ≤ 0
 nd : s.rdy.Nodup
 bo : ∀ i, 0 ≤ s.out.getD i 0 ∧ s.out.getD i 0 ≤ M
 bl : ∀ i, -(M : Int) ≤ s.left.getD i 0 ∧ s.left.getD i 0 ≤ 1000
theorem q4o {N : Nat} {l : List Int} (h : l.Nodup) (hb : ∀ j ∈ l, ∃ i : Nat, i < N ∧ j = i) : l.length ≤ N := by
 have h1 : (l.map Int.toNat).Nodup := by
  rw [List.nodup_iff_pairwise_ne] at h ⊢
  rw [List.pairwise_map]
  refine h.imp_of_mem fun {a b} ha hb' hne e => hne ?_
  obtain ⟨i, _, rfl⟩ := hb a ha
  obtain ⟨j, _, rfl⟩ := hb b hb'
  have : i = j := by simpa using e
  rw [this]
 have h2 : (l.map Int.toNat) ⊆ List.range N := by
  intro j hj
  obtain ⟨a, ha, rfl⟩ := List.mem_map.1 hj
  obtain ⟨i, hi, rfl⟩ := hb a ha
  simpa using hi
 have := (List.Nodup.length_le_of_subset h1 h2)
 simpa using this
theorem LI.len {N M : Nat} {s : LS} (h : LI N M s) : s.rdy.length ≤ N := q4o h.nd fun j hj => by obtain ⟨i, h1, h2, _⟩ := h.rd j hj; exact ⟨i, h1, h2⟩
theorem Ej {l : List Int} {j i : Nat} {v : Int} (hj : j < l.length) : (l.set j v).getD i 0 = if i = j then v else l.getD i 0 := by
 simp only [List.getD, List.getElem?_set]
 by_cases h : j = i
 ·subst h; simp [hj]
 ·simp [h, Ne.symm h]
theorem LI.step {N M : Nat} {c : Bd} {s : LS} {n i : Nat} {k : Int} (h : LI N M s) (hi : i < N) : LI N (M + 1) (E8 c n s (i, k)) := by
 unfold E8
 simp only [Int.toNat_natCast]
 split
 case isFalse => exact ⟨h.lo, h.ll, h.rd, h.nd, fun j => ⟨(h.bo j).1, by have := (h.bo j).2; omega⟩, fun j => ⟨by have := (h.bl j).1; omega, (h.bl j).2⟩⟩
 refine ⟨by simp [h.lo], by simp [h.ll], ?_, ?_, ?_, ?_⟩
 ·intro j hj
  have old : ∀ j ∈ s.rdy, ∃ i0 : Nat, i0 < N ∧ j = i0 ∧ (s.left.set i (s.left.getD i 0 - 1)).getD i0 0 ≤ 0 := by
   intro j hj
   obtain ⟨i0, h1, h2, h3⟩ := h.rd j hj
   refine ⟨i0, h1, h2, ?_⟩
   rw [Ej (by rw [h.ll]; exact hi)]
   split
   ·rename_i e; subst e; omega
   ·exact h3
  split at hj
  ·rename_i hz
   rcases List.mem_append.1 hj with hj | hj
   ·exact old j hj
   ·simp at hj; subst hj
    refine ⟨i, hi, rfl, ?_⟩
    rw [Ej (by rw [h.ll]; exact hi), if_pos rfl]; omega
  ·exact old j hj
 ·split
  ·rename_i hz
   rw [List.nodup_append]
   refine ⟨h.nd, by simp, ?_⟩
   intro a ha b hb e
   simp at hb; subst hb; subst e
   obtain ⟨i0, h1, h2, h3⟩ := h.rd _ ha
   have : i = i0 := by omega
   subst this
   omega
  ·exact h.nd
 ·intro j
  rw [Ej (by rw [h.lo]; exact hi)]
  have h1 := h.bo j
  have h2 := h.bo i
  have h3 := h.bo n
  split
  ·rename_i e
   omega
  ·omega
 ·intro j
  rw [Ej (by rw [h.ll]; exact hi)]
  have h1 := h.bl j
  have h2 := h.bl i
  split <;> omega
theorem LI.fold {N : Nat} {c : Bd} {n : Nat} : ∀ {r : O9} {s : LS} {M : Nat}, LI N M s → (∀ p ∈ r, ∃ i : Nat, i < N ∧ p.1 = i) → LI N (M + r.length) (r.foldl (E8 c n) s)
 | [], _, _, h, _ => h
 | p :: r, s, M, h, hr => by
  obtain ⟨i, hi, he⟩ := hr p List.mem_cons_self
  obtain ⟨p1, p2⟩ := p
  simp only at he; subst he
  have := LI.fold (c := c) (n := n) (h.step (c := c) (n := n) (k := p2) hi) fun q hq => hr q (List.mem_cons_of_mem _ hq)
  simp only [List.foldl_cons, List.length_cons]
  rw [show M + (r.length + 1) = M + 1 + r.length by omega]
  exact this
theorem q6J : ∀ (l : List Nd) (i : Nat), (∀ j ∈ Dw l i, ∃ a : Nat, i ≤ a ∧ a < i + l.length ∧ j = a ∧ (l.map Dt).getD (a - i) 0 = 0) ∧ (Dw l i).Nodup
 | [], _ => ⟨fun j h => (by cases h), List.nodup_nil⟩
 | x :: l, i => by
  obtain ⟨h1, h2⟩ := q6J l (i + 1)
  have h3 : ∀ j ∈ Dw l (i + 1), ∃ a : Nat, i ≤ a ∧ a < i + (l.length + 1) ∧ j = a ∧ ((x :: l).map Dt).getD (a - i) 0 = 0 := by
   intro j hj
   obtain ⟨a, e1, e2, e3, e4⟩ := h1 j hj
   refine ⟨a, by omega, by omega, e3, ?_⟩
   rw [show a - i = (a - (i + 1)) + 1 by omega]
   simpa using e4
  simp only [Dw, List.length_cons]
  split
  ·rename_i hz
   refine ⟨fun j hj => ?_, ?_⟩
   ·rcases List.mem_cons.1 hj with rfl | hj
    ·exact ⟨i, by omega, by omega, rfl, by simp [hz]⟩
    ·exact h3 j hj
   ·rw [List.nodup_cons]
    refine ⟨fun hm => ?_, h2⟩
    obtain ⟨a, e1, _, e3, _⟩ := h1 _ hm
    omega
  ·exact ⟨h3, h2⟩
theorem qDk (c : Bd) (hi : ∀ x ∈ c.nodes.l, x.inn.l.length ≤ 16) : LI c.nodes.l.length 0 (Ic c) := by
 obtain ⟨h1, h2⟩ := q6J c.nodes.l 0
 refine ⟨by simp [Ic], by simp [Ic], fun j hj => ?_, h2, fun i => ?_, fun i => ?_⟩
 ·obtain ⟨a, _, e2, e3, e4⟩ := h1 j hj
  exact ⟨a, by omega, e3, by simp only [Nat.sub_zero] at e4; simp only [Ic]; omega⟩
 ·simp only [Ic, List.getD, List.getElem?_replicate]
  split <;> simp
 ·simp only [Ic, List.getD, List.getElem?_map]
  cases hx : c.nodes.l[i]? with
  | none => simp
  | some x =>
   have := hi x (List.mem_of_getElem? hx)
   simp only [Option.map_some, Option.getD_some, Dt]
   split <;> simp <;> omega
end Go.Lg
namespace Go.Lg
open Go Go.Proofs
variable {Γ : Tables}
theorem q74 {α : Type} {f : α → T} {l : List α} {j : Nat} {x : α} (h : j < l.length) : (Aj f (l.set j x))[j]?.getD [] = [f x] := by simp [Aj, h]
theorem qJt {r : O9} {i : Nat} (h : i < r.length) : (B1 tLn r)[i]?.getD [] = tLn r[i] := by simp [B1, h]
def lsH (s : LS) : List (Nat × Bn) := [(23, .sl 3 1 (Ak s.out)), (27, .sl 3 1 (Ak s.left)), (53, .sl 3 1 (Ak s.rdy))]
theorem q6K {Q : AX → St → Prop} (c : Bd) (hc : CirOk c) (hn : c.nodes.l.length ≤ 16384) (n : Nat) (hnn : n < c.nodes.l.length) (d : Int) (r : O9) (nl : Option Bool) (hr : r.length ≤ 262144) (hin : ∀ p ∈ r, ∃ i : Nat, i < c.nodes.l.length ∧ p.1 = i) (O5 : T) (S : LS)
  (h0 : Q (.exit 4) ⟨[(1, .t (.ip (tC c) 0)), (5, .ls 23 0 c.nodes.l.length none), (6, .ls 27 0 c.nodes.l.length none), (7, .ls 53 0 S.rdy.length none), (10, .t O5), (11, .t (tI d)), (12, .t (tI n)), (76, .t (.sl (B1 tLn r) (some r.length) nl)), (77, .t (tI r.length)), (78, .t (tI r.length)), (79, .t (tB false))], lsH S⟩) :
  ∀ (kk k : Nat) (s : LS) (M : Nat), kk + k = r.length → LI c.nodes.l.length M s → M + kk ≤ 4611686018427387904 → (r.drop k).foldl (E8 c n) s = S →
  run Tryz.prog Γ J4 Q ⟨[(1, .t (.ip (tC c) 0)), (5, .ls 23 0 c.nodes.l.length none), (6, .ls 27 0 c.nodes.l.length none), (7, .ls 53 0 s.rdy.length none), (10, .t O5), (11, .t (tI d)), (12, .t (tI n)), (76, .t (.sl (B1 tLn r) (some r.length) nl)), (77, .t (tI r.length)), (78, .t (tI k))], lsH s⟩
 | 0, k, s, M, h, hI, hM, hS => by
  refine Qx fun K hK => ?_
  have h2 : ¬ k < r.length := by omega
  have h3 : k = r.length := by omega
  simp [h2, lsH]
  subst h3
  rw [List.drop_of_length_le (Nat.le_refl _)] at hS
  simp only [List.foldl_nil] at hS
  subst hS
  exact h0
 | kk + 1, k, s, M, h, hI, hM, hS => by
  refine Qx fun K hK => ?_
  have h2 : k < r.length := by omega
  rw [List.drop_eq_getElem_cons h2] at hS
  simp only [List.foldl_cons] at hS
  obtain ⟨j, hj, hpj⟩ := hin _ (List.getElem_mem h2)
  have hstep := hI.step (c := c) (n := n) (k := r[k].2) hj
  have hpair : r[k] = ((j : Int), r[k].2) := by rw [← hpj]
  rw [hpair] at hS
  generalize r[k].2 = q at hS hstep hpair
  have e := q8B (Γ := Γ) c.nodes.l[j].k
  have hkind : Ap c j = c.nodes.l[j].k := by simp [Ap, hj]
  simp (disch := omega) [h2, lsH, Ac, qJt h2, qCb, hpair, tLn, tC, Ab, Ei Nd.d, Bi, E0, Av, hj]
  refine A4 e rfl ?_
  by_cases hcb : Cd c.nodes.l[j].k = true
  case neg =>
   have hcb' : decide (1 ≤ c.nodes.l[j].k ∧ c.nodes.l[j].k ≤ 13) = false := by simpa [Cd] using hcb
   have hcb2 : Cd (Ap c j) = false := by rw [hkind]; exact hcb'
   have hst : E8 c n s ((j : Int), q) = s := by unfold E8; simp [hcb2]
   rw [hst] at hS hstep
   rw [hcb']
   simp (disch := omega) [A9]
   rw [hK]
   have := q6K c hc hn n hnn d r nl hr hin O5 S h0 kk (k + 1) s (M + 1) (by omega) hstep (by omega) hS
   simpa [lsH, tC, Ab, Av] using this
  have hcb' : decide (1 ≤ c.nodes.l[j].k ∧ c.nodes.l[j].k ≤ 13) = true := by simpa [Cd] using hcb
  have hcb2 : Cd (Ap c j) = true := by rw [hkind]; exact hcb'
  rw [hcb']
  have ho := hI.lo
  have hll := hI.ll
  have b1 := hI.bo n
  have b2 := hI.bo j
  have b3 := hI.bl j
  have hrl := hI.len
  have hst : E8 c n s ((j : Int), q) = ⟨s.out.set j (max (s.out.getD j 0) (s.out.getD n 0 + 1)), s.left.set j (s.left.getD j 0 - 1), if s.left.getD j 0 - 1 = 0 then s.rdy ++ [(j : Int)] else s.rdy⟩ := by
   unfold E8; simp [hcb2]
  have hw : E2 1 [[tI (j : Int)]] := by intro e he; simp at he; subst he; rfl
  have hmax : max (s.out.getD j 0) (s.out.getD n 0 + 1) = if s.out.getD j 0 < s.out.getD n 0 + 1 then s.out.getD n 0 + 1 else s.out.getD j 0 := by
   split <;> omega
  have ih := fun S2 (e : S2 = E8 c n s ((j : Int), q)) => q6K c hc hn n hnn d r nl hr hin O5 S h0 kk (k + 1) S2 (M + 1) (by omega) (e ▸ hstep) (by omega) (e ▸ hS)
  have ljo : j < s.out.length := by omega
  have lno : n < s.out.length := by omega
  have ljl : j < s.left.length := by omega
  simp only [List.getD, List.getElem?_eq_getElem ljo, List.getElem?_eq_getElem lno, List.getElem?_eq_getElem ljl, Option.getD_some] at b1 b2 b3 hst hmax
  have b1a := b1.1
  have b1b := b1.2
  have b2a := b2.1
  have b2b := b2.2
  have b3a := b3.1
  have b3b := b3.2
  simp (disch := omega) [A9, A5, Cb (0 : Int), A8, Fj, ljo, lno, ljl, hj, hnn]
  rw [show (if s.out[j] < s.out[n] + 1 then s.out[n] + 1 else s.out[j]) = max s.out[j] (s.out[n] + 1) from hmax.symm]
  by_cases hz : s.left[j] - 1 = 0
  ·rw [if_pos hz] at hst
   have ih' := ih _ hst.symm
   simp (disch := omega) [hz, A9, A5, A8, hw, q74]
   refine ⟨by omega, ?_⟩
   rw [hK]
   rw [D2 (f := tI) (x := (j : Int))]
   simpa [lsH, tC, Ab, Av, hz] using ih'
  ·rw [if_neg hz] at hst
   have ih' := ih _ hst.symm
   simp (disch := omega) [hz, A9, q74, A8]
   rw [hK]
   simpa [lsH, tC, Ab, Av] using ih'
theorem qBt {Q : AX → St → Prop} (c : Bd) (hc : CirOk c) (hn : c.nodes.l.length ≤ 16384) (hi : ∀ x ∈ c.nodes.l, x.inn.l.length ≤ 16) (R : Nat × LS)
  (h0 : Q (.exit 2) ⟨[(1, .t (.ip (tC c) 0)), (5, .ls 23 0 c.nodes.l.length none), (6, .ls 27 0 c.nodes.l.length none), (7, .ls 53 0 R.2.rdy.length none), (10, .t (qDi (Fe c))), (11, .t (tI R.1)), (60, .t (tB false))], lsH R.2⟩) :
  ∀ (f d : Nat) (s : LS) (M : Nat), f + d = c.nodes.l.length + 1 → LI c.nodes.l.length M s → M = d * 262144 → Nw c f d s = R →
  run Tryz.prog Γ J5 Q ⟨[(1, .t (.ip (tC c) 0)), (5, .ls 23 0 c.nodes.l.length none), (6, .ls 27 0 c.nodes.l.length none), (7, .ls 53 0 s.rdy.length none), (10, .t (qDi (Fe c))), (11, .t (tI d))], lsH s⟩
 | 0, d, s, M, h, hI, hM, hR => by
  refine Qy fun K hK => ?_
  have hlen := hI.len
  have h2 : ¬ d < s.rdy.length := by omega
  simp [h2, lsH]
  simp only [Nw] at hR
  subst hR
  exact h0
 | f + 1, d, s, M, h, hI, hM, hR => by
  refine Qy fun K hK => ?_
  have hlen := hI.len
  by_cases h2 : d < s.rdy.length
  case neg =>
   simp [h2, lsH]
   simp only [Nw, h2, ↓reduceIte] at hR
   subst hR
   exact h0
  simp only [Nw, h2, ↓reduceIte] at hR
  obtain ⟨j, hj, he, hz⟩ := hI.rd _ (List.getElem_mem h2)
  have hgd : s.rdy.getD d 0 = (j : Int) := by simp [h2, he]
  rw [hgd] at hR
  simp only [Int.toNat_natCast] at hR
  have hfr := q0N c
  have hrl : Gx c j ∈ Fe c := by
   have e : Gx c j = (Fe c)[j]'(by omega) := by simp [Gx, hfr, hj]
   rw [e]; exact List.getElem_mem _
  have hin := q6I c _ hrl
  have hrb := qFD c hn hi _ hrl
  have hfold := hI.fold (c := c) (n := j) hin
  have hel : (Fe c)[j]? = some (Gx c j) := by
   have hlt : j < (Fe c).length := by omega
   simp [Gx, hlt]
  have hrt : Za (Gx c j) = .sl (B1 tLn (Gx c j)) (some (Gx c j).length) (if Gx c j = [] then some true else none) := rfl
  have hg1 : (Aj Za (Fe c))[j]?.getD [] = [Za (Gx c j)] := by simp [Aj, hel]
  have hM2 : LI c.nodes.l.length ((d + 1) * 262144) ((Gx c j).foldl (E8 c j) s) := ⟨hfold.lo, hfold.ll, hfold.rd, hfold.nd, fun i => ⟨(hfold.bo i).1, by have := (hfold.bo i).2; omega⟩, fun i => ⟨by have := (hfold.bl i).1; omega, (hfold.bl i).2⟩⟩
  have ih := qBt c hc hn hi R h0 f (d + 1) _ _ (by omega) hM2 rfl hR
  have hrdy : (s.rdy)[d]?.getD 0 = (j : Int) := by simpa using hgd
  simp (disch := omega) [h2, lsH, A5, Cb (0 : Int), A8, A9, he, qDi, hfr, hj, hg1, hrt, Ac]
  by_cases hr0 : (Gx c j).length = 0
  ·have hr0' : Gx c j = [] := List.eq_nil_of_length_eq_zero hr0
   simp [hr0', Bv]
   rw [hK]
   rw [hr0'] at ih
   simp only [List.foldl_nil, qDi, hfr, lsH] at ih
   exact_mod_cast ih
  ·have hr0' : ¬ Gx c j = [] := fun e => hr0 (by simp [e])
   simp (disch := omega) [Bv, hr0', lsH, A5, Cb (0 : Int), A8, A9, he, qDi, hfr, hj, hg1, hrt, Ac]
   refine q6K c hc hn j hj ((d : Int) + 1) (Gx c j) _ (by omega) hin _ _ ?_ (Gx c j).length 0 s M (by omega) hI (by omega) rfl
   simp [lsH]
   rw [hK]
   simp only [qDi, hfr, lsH] at ih
   exact_mod_cast ih
theorem q75 (x : Nd) : ∀ (l : List Nd) (i : Nat), Dw (l ++ [x]) i = if Dt x = 0 then Dw l i ++ [((i + l.length : Nat) : Int)] else Dw l i
 | [], i => by simp [Dw]
 | y :: l, i => by
  have := q75 x l (i + 1)
  simp only [List.cons_append, Dw, this, List.length_cons]
  rw [show i + 1 + l.length = i + (l.length + 1) by omega]
  split <;> split <;> rfl
theorem q8w : ∀ (l : List Nd) (i : Nat), (Dw l i).length ≤ l.length
 | [], _ => by simp [Dw]
 | x :: l, i => by
  have := q8w l (i + 1)
  simp only [Dw]
  split <;> simp <;> omega
def Lr (c : Bd) (i : Nat) : List Int := (c.nodes.l.take i).map Dt ++ List.replicate (c.nodes.l.length - i) 0
theorem qAS {c : Bd} {i : Nat} (h : i ≤ c.nodes.l.length) : (Lr c i).length = c.nodes.l.length := by simp [Lr]; omega
theorem q6L {c : Bd} {i : Nat} (h : i < c.nodes.l.length) : (Lr c i).set i (Dt c.nodes.l[i]) = Lr c (i + 1) := by
 unfold Lr
 have e1 : ((c.nodes.l.take i).map Dt).length = i := by simp; omega
 rw [List.set_append_right _ _ (by rw [e1]; exact Nat.le_refl i), e1, Nat.sub_self]
 rw [show c.nodes.l.length - i = (c.nodes.l.length - (i + 1)) + 1 by omega, List.replicate_succ, List.set_cons_zero]
 have e3 : (c.nodes.l.map Dt).take (i + 1) = (c.nodes.l.map Dt).take i ++ [Dt c.nodes.l[i]] := by rw [List.take_add_one]; simp [h]
 simp [e3]
theorem qDl {c : Bd} {i : Nat} (h : i < c.nodes.l.length) (h0 : Dt c.nodes.l[i] = 0) : Lr c i = Lr c (i + 1) := by
 unfold Lr
 rw [show c.nodes.l.length - i = (c.nodes.l.length - (i + 1)) + 1 by omega, List.replicate_succ]
 have e3 : (c.nodes.l.map Dt).take (i + 1) = (c.nodes.l.map Dt).take i ++ [Dt c.nodes.l[i]] := by rw [List.take_add_one]; simp [h]
 simp [e3, h0]
theorem qBu {Q : AX → St → Prop} (c : Bd) (hn : c.nodes.l.length ≤ 16384) (hi : ∀ x ∈ c.nodes.l, x.inn.l.length ≤ 16) (out : List Int)
  (h0 : Q (.exit 0) ⟨[(1, .t (.ip (tC c) 0)), (5, .ls 23 0 c.nodes.l.length none), (6, .ls 27 0 c.nodes.l.length none), (7, .ls 53 0 (Dw c.nodes.l 0).length none), (29, .t (Ab c.nodes)), (30, .t (tI c.nodes.l.length)), (31, .t (tI c.nodes.l.length)), (32, .t (tB false))], [(23, .sl 3 1 (Ak out)), (27, .sl 3 1 (Ak (c.nodes.l.map Dt))), (53, .sl 3 1 (Ak (Dw c.nodes.l 0)))]⟩) :
  ∀ (kk i : Nat), kk + i = c.nodes.l.length →
  run Tryz.prog Γ J3 Q ⟨[(1, .t (.ip (tC c) 0)), (5, .ls 23 0 c.nodes.l.length none), (6, .ls 27 0 c.nodes.l.length none), (7, .ls 53 0 (Dw (c.nodes.l.take i) 0).length none), (29, .t (Ab c.nodes)), (30, .t (tI c.nodes.l.length)), (31, .t (tI i))], [(23, .sl 3 1 (Ak out)), (27, .sl 3 1 (Ak (Lr c i))), (53, .sl 3 1 (Ak (Dw (c.nodes.l.take i) 0)))]⟩
 | 0, i, h => by
  refine Qw fun K hK => ?_
  have h2 : ¬ i < c.nodes.l.length := by omega
  have h3 : i = c.nodes.l.length := by omega
  simp [h2]
  subst h3
  simpa [Lr] using h0
 | kk + 1, i, h => by
  refine Qw fun K hK => ?_
  have h2 : i < c.nodes.l.length := by omega
  have hx := hi _ (List.getElem_mem h2)
  have ht : c.nodes.l.take (i + 1) = c.nodes.l.take i ++ [c.nodes.l[i]] := by rw [List.take_add_one]; simp [h2]
  have htl : (c.nodes.l.take i).length = i := by simp; omega
  have hrl := q8w (c.nodes.l.take i) 0
  have hll := qAS (c := c) (i := i) (by omega)
  have hll1 := qAS (c := c) (i := i + 1) (by omega)
  have hsn := q75 c.nodes.l[i] (c.nodes.l.take i) 0
  rw [← ht, htl, Nat.zero_add] at hsn
  have e := q8B (Γ := Γ) c.nodes.l[i].k
  have ih := qBu c hn hi out h0 kk (i + 1) (by omega)
  have hw : E2 1 [[tI (i : Int)]] := by intro e he; simp at he; subst he; rfl
  simp (disch := omega) [h2, Ac, Ei Nd.d, Bi, Ab, E0, Av, -Fo]
  refine A4 e rfl ?_
  have tail : ∀ (lf : List Int), lf = Lr c (i + 1) → run Tryz.prog Γ (.seq (.reg Fo [.keep [1, 5, 6, 7, 8, 29, 30, 31, 49] [23, 27, 53]]) (.cond (.tmp 49) (.reg O2 [.keep [1, 5, 6, 7, 29, 30, 31] [23, 27, 53]]) .skip))
    (Lh 1 (An (run Tryz.prog Γ (.reg O3 [.keep [1, 5, 6, 7, 29, 30, 31] [23, 27, 53]]) (An (fun s => An K Q .normal (ghs [.keep [1, 5, 6, 7, 29, 30, 31] [23, 27, 53]] s)) (An K Q))) (An (fun s => An K Q .normal (ghs [.keep [1, 5, 6, 7, 29, 30, 31] [23, 27, 53]] s)) (An K Q))))
    ⟨[(1, .t (.ip (tC c) 0)), (5, .ls 23 0 c.nodes.l.length none), (6, .ls 27 0 c.nodes.l.length none), (7, .ls 53 0 (Dw (c.nodes.l.take i) 0).length none), (8, .t (tI i)), (29, .t (Ab c.nodes)), (30, .t (tI c.nodes.l.length)), (31, .t (tI i))], [(23, .sl 3 1 (Ak out)), (27, .sl 3 1 (Ak lf)), (53, .sl 3 1 (Ak (Dw (c.nodes.l.take i) 0)))]⟩ := by
   rintro lf rfl
   have hget : (Lr c (i + 1))[i]?.getD 0 = Dt c.nodes.l[i] := by
    rw [← q6L h2]
    simp [hll, h2]
   have hge := hget
   rw [List.getElem?_eq_getElem (by rw [hll1]; exact h2), Option.getD_some] at hge
   by_cases hz : Dt c.nodes.l[i] = 0
   ·rw [if_pos hz] at hsn
    simp (disch := omega) [h2, A5, Cb (0 : Int), A8, hll1, hge, hz, hw, A9]
    refine ⟨by omega, ?_⟩
    rw [hK]
    rw [hsn] at ih
    rw [D2 (f := tI) (x := (i : Int))]
    simpa using ih
   ·rw [if_neg hz] at hsn
    simp (disch := omega) [h2, A5, Cb (0 : Int), A8, hll1, hge, hz, A9]
    rw [hK]
    rw [hsn] at ih
    exact_mod_cast ih
  by_cases hcb : Cd c.nodes.l[i].k = true
  ·have hcb' : decide (1 ≤ c.nodes.l[i].k ∧ c.nodes.l[i].k ≤ 13) = true := by simpa [Cd] using hcb
   have hlo : Dt c.nodes.l[i] = c.nodes.l[i].inn.l.length := by simp [Dt, hcb]
   rw [hcb']
   have := tail ((Lr c i).set i c.nodes.l[i].inn.l.length) (by rw [← hlo]; exact q6L h2)
   simp (disch := omega) [h2, A5, A8, hll, Fj, -Fo]
   exact this
  ·have hcb' : decide (1 ≤ c.nodes.l[i].k ∧ c.nodes.l[i].k ≤ 13) = false := by simpa [Cd] using hcb
   have hlo : Dt c.nodes.l[i] = 0 := by simp [Dt, hcb]
   rw [hcb', qDl h2 hlo]
   rw [if_pos hlo] at hsn
   have hge : (Lr c (i + 1))[i]'(by rw [hll1]; exact h2) = 0 := by
    have hget : (Lr c (i + 1))[i]?.getD 0 = Dt c.nodes.l[i] := by
     rw [← q6L h2]
     simp [hll, h2]
    rw [List.getElem?_eq_getElem (by rw [hll1]; exact h2), Option.getD_some] at hget
    rw [hget, hlo]
   simp (disch := omega) [h2, A5, Cb (0 : Int), A8, hll1, hge, hw, A9]
   refine ⟨by omega, ?_⟩
   rw [hK]
   rw [hsn] at ih
   rw [D2 (f := tI) (x := (i : Int))]
   simpa [Ab] using ih
def E9 (c : Bd) : Int := if E5 c ≠ 0 then E5 c else if (Pj c).1 < c.nodes.l.length then 6 else 0
theorem qLw (k : Int) : (O5 k).2 ≤ 16 := by
 unfold O5
 split
 ·decide
 ·have : ∀ n : Nat, (Uh.getD n (0, 0)).2 ≤ 16 := by
   intro n
   by_cases h : n < 16
   ·have : n = 0 ∨ n = 1 ∨ n = 2 ∨ n = 3 ∨ n = 4 ∨ n = 5 ∨ n = 6 ∨ n = 7 ∨ n = 8 ∨ n = 9 ∨ n = 10 ∨ n = 11 ∨ n = 12 ∨ n = 13 ∨ n = 14 ∨ n = 15 := by omega
    rcases this with rfl | rfl | rfl | rfl | rfl | rfl | rfl | rfl | rfl | rfl | rfl | rfl | rfl | rfl | rfl | rfl <;> decide
   ·rw [List.getD, List.getElem?_eq_none (by simp [Uh]; omega)]; decide
  exact this _
theorem q1A {α : Type} {f : α → Int} : ∀ {l : List α}, Ds (l.map f) = 0 → ∀ x ∈ l, f x = 0
 | [], _, x, h => by cases h
 | y :: l, h, x, hx => by
  simp only [List.map_cons, Ds] at h
  split at h
  ·rename_i hy; exact absurd h hy
  ·rename_i hy
   rcases List.mem_cons.1 hx with rfl | hx
   ·simpa using hy
   ·exact q1A h x hx
theorem Is {c : Bd} (h : E5 c = 0) : c.nodes.l.length ≤ 16384 ∧ (∀ x ∈ c.nodes.l, x.inn.l.length ≤ 16) ∧ (∀ x ∈ c.nodes.l, Dv c x = 0) ∧ c.mems.l.length ≤ 16 := by
 unfold E5 at h
 split at h
 ·cases h
 rename_i h1
 split at h
 ·cases h
 split at h
 ·rename_i h2; exact absurd h h2
 rename_i h2
 have h3 := q1A (by simpa using h2)
 refine ⟨by omega, fun x hx => ?_, h3, by omega⟩
 have h4 := h3 x hx
 have h5 := qLw x.k
 unfold Dv at h4
 split at h4
 ·cases h4
 split at h4
 ·cases h4
 rename_i h6
 omega
theorem q8x (hΓ : GOk Γ) (c : Bd) (hc : CirOk c) (ha : ∀ s ∈ c.names.l, ∀ b ∈ s, b < 128) :
  A6 Tryz.prog Γ 91 [.agg (tC c)] (.tup [if E9 c = 0 then .sl (Ak (Pj c).2.out) none none else .sl [] (some 0) (some true), tI (E9 c)]) := by
 refine Aa q50 rfl ?_
 have e1 := qFC hΓ c hc ha
 simp [Yx, tC, Ab, Ad, Ag, Av]
 refine A4 e1 rfl ?_
 by_cases h1 : E5 c = 0
 case neg =>
  have : E9 c = E5 c := by unfold E9; rw [if_pos h1]
  simp [h1, J6, this]
 obtain ⟨hn, hi, _⟩ := Is h1
 have e2 := qDj (Γ := Γ) c hn hi
 have hl0 : E9 c = if (Pj c).1 < c.nodes.l.length then 6 else 0 := by unfold E9; rw [if_neg (show ¬ (E5 c ≠ 0) by simp [h1])]
 simp (disch := omega) [h1, Ac, A9]
 refine ⟨by omega, ?_⟩
 have e0 : List.replicate c.nodes.l.length [T.v (Value.int .i64 0)] = Ak (List.replicate c.nodes.l.length 0) := by simp [Aj]
 rw [e0]
 have hl := fun Q h0 => qBu (Γ := Γ) (Q := Q) c hn hi (List.replicate c.nodes.l.length 0) h0 c.nodes.l.length 0 (by omega)
 have el0 : Lr c 0 = List.replicate c.nodes.l.length 0 := by simp [Lr]
 simp only [el0, Dw, List.take_zero, List.length_nil] at hl
 refine hl _ ?_
 simp [tC, Ab, Ad, Ag, Av]
 refine Ae e2 rfl ?_
 have hI := qDk c hi
 have hm := fun Q h0 => qBt (Γ := Γ) (Q := Q) c hc hn hi (Pj c) h0 (c.nodes.l.length + 1) 0 (Ic c) 0 (by omega) hI (by omega) rfl
 simp
 refine hm _ ?_
 have hend : (Pj c).1 < c.nodes.l.length ↔ ((Pj c).1 : Int) < c.nodes.l.length := by omega
 have hol : (Pj c).2.out.length = c.nodes.l.length := by
  have : ∀ (f d : Nat) (s : LS), s.out.length = c.nodes.l.length → (Nw c f d s).2.out.length = c.nodes.l.length := by
   intro f
   induction f with
   | zero => intro d s h; exact h
   | succ f ih =>
    intro d s h
    simp only [Nw]
    split
    ·refine ih _ _ ?_
     have : ∀ (r : O9) (n : Nat) (s : LS), s.out.length = c.nodes.l.length → (r.foldl (E8 c n) s).out.length = c.nodes.l.length := by
      intro r n
      induction r with
      | nil => intro s h; exact h
      | cons p r ih2 =>
       intro s h
       rw [List.foldl_cons]
       refine ih2 _ ?_
       unfold E8
       split
       ·simp [h]
       ·exact h
     exact this _ _ _ h
    ·exact h
  exact this _ _ _ hI.lo
 by_cases h2 : (Pj c).1 < c.nodes.l.length
 ·rw [if_pos h2] at hl0
  have h2' := hend.1 h2
  simp [lsH, tC, Ab, Ac, h2', J6, hl0]
 ·rw [if_neg h2] at hl0
  have h2' : ¬ ((Pj c).1 : Int) < c.nodes.l.length := fun h => h2 (hend.2 h)
  have ht : (Ak (Pj c).2.out).take c.nodes.l.length = Ak (Pj c).2.out := by rw [← hol]; simp
  simp [lsH, tC, Ab, Ac, h2, h2', J6, hl0, ht]
structure COk (c : Bd) : Prop extends CirOk c where
 asc : ∀ s ∈ c.names.l, ∀ b ∈ s, b < 128
theorem qFE (hΓ : GOk Γ) (c : Bd) (hc : COk c) : A6 Tryz.prog Γ 32 [.agg (tC c)] (tI (E9 c)) := by
 refine Aa q6C rfl ?_
 have e := q8x hΓ c hc.toCirOk hc.asc
 simp [q0G, tC, Ab, Ad, Ag, Av]
 refine A4 e rfl ?_
 simp
 simp [q0H]
def Be (c : Bd) : List Int := N5 [14] c.nodes.l 0
def mems (c : Bd) : List Int := N5 [15] c.nodes.l 0
theorem qFF (c : Bd) (hc : COk c) (k : Int) : A6 Tryz.prog Γ 90 [.agg (tC c), .sl [[tK k]] (some 1) (some false)] (.sl (Ak (N5 [k] c.nodes.l 0)) (some (N5 [k] c.nodes.l 0).length) none) := by
 have := qJo (Γ := Γ) c hc.toCirOk [k] (some 1) (some false) (by simp)
 simpa [Aj] using this
theorem q3g (c : Bd) (hc : COk c) : Ah Tryz.prog Γ 31 [.agg (tC c)] (.sl (Ak (Be c)) (some (Be c).length) none) := by
 refine B7 q4y rfl ?_
 simp [Yq, tC, Ab, Ad, Ag, Av]
 refine A4 (qFF c hc 14) rfl ?_
 simp [Yr, Be]
end Go.Lg
namespace Go.Lg
open Go Go.Proofs
def Sl.d : Sl Int := ⟨[], none, none⟩
def q0P (l : List Int) (a b : Nat) : List Int := (l.set a (l.getD b 0)).set b (l.getD a 0)
theorem q8F {l : List Int} {a b : Nat} : (q0P l a b).length = l.length := by simp [q0P]
theorem B5 {l : List Int} {i : Nat} (h : i < l.length) : l.getD i 0 = l[i] := by simp [List.getD_eq_getElem?_getD, h]
theorem qH5 {l : List Int} {a b q : Nat} (ha : a < l.length) (hb : b < l.length) (hq : q < l.length) : (q0P l a b).getD q 0 = if q = b then l.getD a 0 else if q = a then l.getD b 0 else l.getD q 0 := by
 unfold q0P
 rw [Ej (by simp; exact hb)]
 split
 ·rfl
 ·rw [Ej ha]
theorem qAT {l : List Int} {a b : Nat} (ha : a < l.length) (hb : b < l.length) : (q0P l a b).Perm l := by
 unfold q0P
 rw [B5 ha, B5 hb]
 exact List.set_set_perm ha hb
theorem q4p (ks : List Int) : ∀ (l : List Nd) (i : Nat), (∀ j ∈ N5 ks l i, (i : Int) ≤ j) ∧ (N5 ks l i).Nodup
 | [], _ => ⟨fun j h => (by cases h), List.nodup_nil⟩
 | x :: l, i => by
  obtain ⟨h1, h2⟩ := q4p ks l (i + 1)
  simp only [N5]
  split
  ·refine ⟨fun j hj => ?_, List.nodup_cons.2 ⟨fun hm => ?_, h2⟩⟩
   ·rcases List.mem_cons.1 hj with rfl | hj
    ·omega
    ·have := h1 j hj; omega
   ·have := h1 _ hm; omega
  ·exact ⟨fun j hj => by have := h1 j hj; omega, h2⟩
theorem q76 (ks : List Int) : ∀ (l : List Nd) (i : Nat), ∀ n ∈ N5 ks l i, (i : Int) ≤ n ∧ n < i + l.length ∧ ks.contains (l.getD (n.toNat - i) Nd.d).k = true
 | [], _, n, h => by cases h
 | x :: l, i, n, h => by
  have tail : n ∈ N5 ks l (i + 1) → (i : Int) ≤ n ∧ n < i + (x :: l).length ∧ ks.contains ((x :: l).getD (n.toNat - i) Nd.d).k = true := fun h => by
   obtain ⟨h1, h2, h3⟩ := q76 ks l (i + 1) n h
   refine ⟨by omega, by simp only [List.length_cons]; omega, ?_⟩
   have e : n.toNat - i = (n.toNat - (i + 1)) + 1 := by omega
   rw [e, List.getD_cons_succ]
   exact h3
  simp only [N5] at h
  split at h
  ·rename_i hk
   rcases List.mem_cons.1 h with rfl | h
   ·refine ⟨by omega, by simp only [List.length_cons]; omega, ?_⟩
    have e : ((i : Int).toNat - i) = 0 := by omega
    rw [e, List.getD_cons_zero]
    exact hk
   ·exact tail h
  ·exact tail h
end Go.Lg
namespace Go.Lg
open Go
section
variable {P : Program} {Γ : Tables} {Q : AX → St → Prop} {s : St}
/- (probecard/probecardlaw03.C).Of (function 11) -/
abbrev q5J : IC := .gh (.seq (.seq (.reg [om 13 4, od 14 (fa 0 1), od 15 (ld 1 14), od 16 (.bin .rem (tm 15) (ku 4)), od 17 (.conv .i64 (tm 16)), od 18 (.bin .leq (tm 13) (tm 17))] [kp [1, 2, 3, 4, 18] [2, 3, 25, 144, 168]]) (.cond (tm 18) .skip
 (.exit 0))) (.seq (.block 1 (.reg [od 21 (fa 0 3), od 22 (ld 1 21), od 23 (.build [(1, (ku 0)), (1, kN), (1, (ki 0)), (1, (ki 0))]), od 24 (.bsl true 82 4 [(tm 23)]), od 25 (.app false 82 4 (tm 22) (tm 24)), od 26 (fa 0 3), on
 (.store 1 (tm 26) (tm 25))] [kp [1, 2, 3, 4] [2, 3, 25, 144, 168]])) (.reg [om 19 4, od 20 (.bin .add (tm 19) (ki 1)), om 4 20] [kp [1, 2, 3, 4] [2, 3, 25, 144, 168]]))) [kp [1, 2, 3, 4] [2, 3, 25, 144, 168]]
def Va : IC := .loop q5J
abbrev q5K : IC := .gh (.seq (.seq (.reg [om 34 7, om 35 6, od 36 (.bin .lss (tm 34) (tm 35))] [kp [1, 2, 3, 5, 6, 7, 36] [2, 3, 25, 144, 168]]) (.cond (tm 36) .skip (.exit 2))) (.seq (.block 3 (.reg [od 39 (fa 0 3), od 40 (ld 1 39), od 41 (.bsl true
 3 1 [(ki 0)]), od 42 (.build [(1, (ku 14)), (1, (tm 41)), (1, (ki 0)), (1, (ki 0))]), od 43 (.bsl true 82 4 [(tm 42)]), oz 44 (.app false 82 4 (tm 40) (tm 43)) 25, od 45 (fa 0 3), on (.store 1 (tm 45) (tm 44))] [kp [1, 2, 3, 5, 6,
 7] [2, 3, 25, 144, 168]])) (.reg [om 37 7, od 38 (.bin .add (tm 37) (ki 1)), om 7 38] [kp [1, 2, 3, 5, 6, 7] [2, 3, 25, 144, 168]]))) [kp [1, 2, 3, 5, 6, 7] [2, 3, 25, 144, 168]]
def Vb : IC := .loop q5K
abbrev q5L : IC := .gh (.seq (.seq (.reg [om 55 8, od 56 (fa 10 1), od 57 (ld 1 56), od 58 (le 0 57), od 59 (.bin .lss (tm 55) (tm 58)), om 60 59, oT 61 (.mv (tm 8)) 60, oT 62 (.bin .lss (tm 61) (ki 8)) 60, od 63 (.pick (tm 60) (tm 62) kF)] [kp [1,
 2, 3, 5, 6, 8, 63] [2, 3, 25, 144, 168]]) (.cond (tm 63) .skip (.exit 4))) (.seq (.block 5 (.reg [od 66 (fa 0 3), od 67 (.ldR 3 1 false (tm 66)), od 68 (.ldT 12 true (tm 1)), od 69 (fa 10 1), od 70 (.ldT 1 false (tm 69)), om 71 8,
 od 72 (ia 4 70 71), od 73 (.ldT 4 true (tm 72)), od 74 (fa 0 3), od 75 (.ldR 3 1 false (tm 74)), od 76 (.call 42 [(tm 68), (tm 73), (tm 75)]), od 77 (.bsl true 82 4 [(tm 76)]), oz 78 (.app false 82 4 (tm 67) (tm 77)) 25, od 79 (fa
 0 3), on (.stR 3 1 (tm 79) (tm 78))] [kp [1, 2, 3, 5, 6, 8] [2, 3, 25, 144, 168]])) (.reg [om 64 8, od 65 (.bin .add (tm 64) (ki 1)), om 8 65] [kp [1, 2, 3, 5, 6, 8] [2, 3, 25, 144, 168]]))) [kp [1, 2, 3, 5, 6, 8] [2, 3, 25, 144,
 168]]
def Vd : IC := .loop q5L
abbrev q5M : IC := .gh (.seq (.seq (.reg [om 83 10, om 84 6, od 85 (.bin .lss (tm 83) (tm 84))] [kp [1, 2, 3, 5, 6, 9, 10, 85] [2, 3, 25, 144, 168]]) (.cond (tm 85) .skip (.exit 6))) (.seq (.block 7 (.reg [od 88 (fa 0 3), od 89 (.ldR 3 1 false (tm
 88)), om 90 5, om 91 10, od 92 (.bin .add (tm 90) (tm 91)), om 93 10, od 94 (fa 2 1), od 95 (.iadrA 2 1 (tm 94) (tm 93)), od 96 (.ldT 1 false (tm 95)), od 97 (.conv .i64 (tm 96)), om 98 9, od 99 (.bin .rem (tm 97) (tm 98)), od 100
 (.bsl true 3 1 [(tm 99)]), od 101 (ia 4 89 92), od 102 (fa 1 101), on (.store 1 (tm 102) (tm 100))] [kp [1, 2, 3, 5, 6, 9, 10] [2, 3, 25, 144, 168]])) (.reg [om 86 10, od 87 (.bin .add (tm 86) (ki 1)), om 10 87] [kp [1, 2, 3, 5, 6,
 9, 10] [2, 3, 25, 144, 168]]))) [kp [1, 2, 3, 5, 6, 9, 10] [2, 3, 25, 144, 168]]
def Ve : IC := .loop q5M
abbrev q5N : IC := .gh (.seq (.seq (.reg [om 134 11, om 135 9, od 136 (.bin .lss (tm 134) (tm 135))] [kp [1, 2, 3, 9, 11, 136] [2, 3, 25, 144, 168]]) (.cond (tm 136) .skip (.exit 8))) (.seq (.block 9 (.reg [od 139 (fa 1 3), od 140 (.ldR 3 1 false (tm
 139)), om 141 11, od 142 (.call 43 [(tm 141)]), od 143 (.bsl true 9 1 [(tm 142)]), od 144 (.app false 9 1 (tm 140) (tm 143)), od 145 (fa 1 3), on (.stR 3 1 (tm 145) (tm 144))] [kp [1, 2, 3, 9, 11] [2, 3, 25, 144, 168]])) (.reg [om
 137 11, od 138 (.bin .add (tm 137) (ki 1)), om 11 138] [kp [1, 2, 3, 9, 11] [2, 3, 25, 144, 168]]))) [kp [1, 2, 3, 9, 11] [2, 3, 25, 144, 168]]
def Vf : IC := .loop q5N
abbrev q3h : IC := .gh (.seq (.seq (.reg [om 146 12, od 147 (fa 11 1), od 148 (ld 1 147), od 149 (le 0 148), od 150 (.bin .lss (tm 146) (tm 149)), om 151 150, oT 152 (.mv (tm 12)) 151, oT 153 (.bin .lss (tm 152) (ki 3)) 151, od 154 (.pick (tm 151)
 (tm 153) kF)] [kp [1, 2, 3, 9, 12, 154] [2, 3, 25, 144, 168]]) (.cond (tm 154) .skip (.exit 10))) (.seq (.block 11 (.reg [od 157 (fa 3 3), od 158 (.ldR 3 1 false (tm 157)), od 159 (fa 11 1), od 160 (.ldT 1 false (tm 159)), om 161
 12, od 162 (ia 1 160 161), od 163 (.ldT 1 false (tm 162)), od 164 (.conv .i64 (tm 163)), om 165 9, od 166 (.bin .rem (tm 164) (tm 165)), od 167 (.bsl true 3 1 [(tm 166)]), od 168 (.app false 3 1 (tm 158) (tm 167)), od 169 (fa 3 3),
 on (.stR 3 1 (tm 169) (tm 168))] [kp [1, 2, 3, 9, 12] [2, 3, 25, 144, 168]])) (.reg [om 155 12, od 156 (.bin .add (tm 155) (ki 1)), om 12 156] [kp [1, 2, 3, 9, 12] [2, 3, 25, 144, 168]]))) [kp [1, 2, 3, 9, 12] [2, 3, 25, 144, 168]]
def Rf : IC := .loop q3h
abbrev q5O : IC := (.seq (.reg [od 1 (.box true (tm 0)), od 2 (.alloc false [(.slice none 0 0), (.slice none 0 0), (.slice none 0 0), (.slice none 0 0)])] [kp [1, 2] [2, 25, 144, 168]]) (.seq (.reg [od 3 (.alloc false [(.slice none 0 0), (.slice none
 0 0), (.slice none 0 0), (.slice none 0 0)])] [.nlb 3 0 25 82 4, .nlb 3 1 144 9 1, .nlb 3 3 168 3 1, kp [1, 2, 3] [2, 3, 25, 144, 168]]) (.seq (.seq (.reg [od 4 (.mv (ki 0))] [kp [1, 2, 3, 4] [2, 3, 25, 144, 168]]) (.block 0
 Va)) (.seq (.reg [od 27 (fa 0 3), od 28 (ld 1 27), od 29 (le 0 28), om 5 29] [kp [1, 2, 3, 5] [2, 3, 25, 144, 168]]) (.seq (.reg [od 30 (fa 1 1), od 31 (ld 1 30), od 32 (.bin .rem (tm 31) (ku 3)), od 33 (.conv .i64 (tm
 32)), om 6 33] [kp [1, 2, 3, 5, 6] [2, 3, 25, 144, 168]]) (.seq (.seq (.reg [od 7 (.mv (ki 0))] [kp [1, 2, 3, 5, 6, 7] [2, 3, 25, 144, 168]]) (.block 2 Vb)) (.seq (.seq (.reg [od 46 (fa 5 1), od 47 (ld 1 46)] [kp [1, 2,
 3, 5, 6, 47] [2, 3, 25, 144, 168]]) (.cond (tm 47) (.reg [od 48 (fa 0 3), od 49 (ld 1 48), od 50 (.build [(1, (ku 15)), (1, kN), (1, (ki 0)), (1, (ki 0))]), od 51 (.build [(1, (ku 15)), (1, kN), (1, (ki 0)), (1, (ki 1))]), od 52
 (.bsl true 82 4 [(tm 50), (tm 51)]), oz 53 (.app false 82 4 (tm 49) (tm 52)) 25, od 54 (fa 0 3), on (.store 1 (tm 54) (tm 53))] [kp [1, 2, 3, 5, 6] [2, 3, 25, 144, 168]]) .skip)) (.seq (.seq (.reg [od 8 (.mv (ki 0))] [kp [1, 2, 3,
 5, 6, 8] [2, 3, 25, 144, 168]]) (.block 4 Vd)) (.seq (.reg [od 80 (fa 0 3), od 81 (ld 1 80), od 82 (le 0 81), om 9 82] [kp [1, 2, 3, 5, 6, 9] [2, 3, 25, 144, 168]]) (.seq (.seq (.reg [od 10 (.mv (ki 0))] [kp [1, 2, 3, 5,
 6, 9, 10] [2, 3, 25, 144, 168]]) (.block 6 Ve)) (.seq (.seq (.reg [od 103 (fa 5 1), od 104 (ld 1 103)] [kp [1, 2, 3, 9, 104] [2, 3, 25, 144, 168]]) (.cond (tm 104) (.reg [od 105 (fa 6 1), od 106 (.iadrA 4 1 (tm 105) (ki
 0)), od 107 (.ldT 1 false (tm 106)), od 108 (.conv .i64 (tm 107)), om 109 9, od 110 (.bin .rem (tm 108) (tm 109)), od 111 (.bsl true 3 1 [(tm 110)]), od 112 (fa 6 1), od 113 (.iadrA 4 1 (tm 112) (ki 1)), od 114 (.ldT 1 false (tm
 113)), od 115 (.conv .i64 (tm 114)), om 116 9, od 117 (.bin .rem (tm 115) (tm 116)), od 118 (fa 6 1), od 119 (.iadrA 4 1 (tm 118) (ki 2)), od 120 (.ldT 1 false (tm 119)), od 121 (.conv .i64 (tm 120)), om 122 9, od 123 (.bin .rem
 (tm 121) (tm 122)), od 124 (.bsl true 3 1 [(tm 117), (tm 123)]), od 125 (fa 6 1), od 126 (.iadrA 4 1 (tm 125) (ki 3)), od 127 (.ldT 1 false (tm 126)), od 128 (.conv .i64 (tm 127)), om 129 9, od 130 (.bin .rem (tm 128) (tm 129)), od
 131 (.build [(1, (tm 111)), (1, (tm 124)), (1, (tm 130))]), od 132 (.bsl true 108 3 [(tm 131)]), od 133 (fa 2 3), on (.stR 3 1 (tm 133) (tm 132))] [kp [1, 2, 3, 9] [2, 3, 25, 144, 168]]) .skip)) (.seq (.seq (.reg [od 11 (.mv (ki
 0))] [kp [1, 2, 3, 9, 11] [2, 3, 25, 144, 168]]) (.block 8 Vf)) (.seq (.seq (.reg [od 12 (.mv (ki 0))] [kp [1, 2, 3, 9, 12] [2, 3, 25, 144, 168]]) (.block 10 Rf)) (.seq (.reg [od 170 (fa 3 3), od 171 (ld 1
 170), om 172 9, od 173 (.bin .sub (tm 172) (ki 1)), od 174 (.bsl true 3 1 [(tm 173)]), oz 175 (.app false 3 1 (tm 171) (tm 174)) 168, od 176 (fa 3 3), on (.store 1 (tm 176) (tm 175))] [kp [2, 3] [2, 3, 25, 144, 168]]) (.seq (.reg
 [od 177 (lG 4 3), on (.store 4 (tm 2) (tm 177))] [kp [2] [2, 25, 144, 168]]) .ret)))))))))))))))
theorem q0Q (h : ∀ K : St → Prop, K = run P Γ Va Q → run P Γ q5J (An K Q) s) : run P Γ Va Q s := Af h
theorem q0R (h : ∀ K : St → Prop, K = run P Γ Vb Q → run P Γ q5K (An K Q) s) : run P Γ Vb Q s := Af h
theorem q0S (h : ∀ K : St → Prop, K = run P Γ Vd Q → run P Γ q5L (An K Q) s) : run P Γ Vd Q s := Af h
theorem q0T (h : ∀ K : St → Prop, K = run P Γ Ve Q → run P Γ q5M (An K Q) s) : run P Γ Ve Q s := Af h
theorem q0U (h : ∀ K : St → Prop, K = run P Γ Vf Q → run P Γ q5N (An K Q) s) : run P Γ Vf Q s := Af h
theorem Zb (h : ∀ K : St → Prop, K = run P Γ Rf Q → run P Γ q3h (An K Q) s) : run P Γ Rf Q s := Af h
def Hq : List RV := [.cell 2 4 true]
/- (probecard/probecardlaw03.C).gate (function 42) -/
abbrev q2m : IC := .gh (.seq (.seq (.reg [om 37 12, om 38 7, od 39 (.bin .lss (tm 37) (tm 38))] [kp [2, 3, 4, 6, 7, 8, 9, 10, 11, 12, 39] [6, 51, 70, 79, 86, 94, 105, 126, 142, 156]]) (.cond (tm 39) .skip (.exit 0))) (.seq (.block 1 (.seq (.reg [om
 42 2, om 43 12, od 44 (ia 4 42 43), od 45 (fa 0 44), od 46 (ld 1 45), od 47 (.bin .eql (tm 46) (ku 12))] [kp [2, 3, 4, 6, 7, 8, 9, 10, 11, 12, 47] [6, 51, 70, 79, 86, 94, 105, 126, 142, 156]]) (.cond (tm 47) (.reg [om 48 11, om 49
 12, od 50 (.bsl true 3 1 [(tm 49)]), od 51 (.app false 3 1 (tm 48) (tm 50)), om 11 51] [kp [2, 3, 4, 6, 7, 8, 9, 10, 11, 12] [6, 51, 70, 79, 86, 94, 105, 126, 142, 156]]) .skip))) (.reg [om 40 12, od 41 (.bin .add (tm 40) (ki 1)),
 om 12 41] [kp [2, 3, 4, 6, 7, 8, 9, 10, 11, 12] [6, 51, 70, 79, 86, 94, 105, 126, 142, 156]]))) [kp [2, 3, 4, 6, 7, 8, 9, 10, 11, 12] [6, 51, 70, 79, 86, 94, 105, 126, 142, 156]]
def P1 : IC := .loop q2m
abbrev q2n : IC := (.seq (.reg [od 3 (.box true (tm 0)), od 4 (.box true (tm 1)), od 6 (.alloc false [(.int .u8 0), (.slice none 0 0), (.int .i64 0), (.int .i64 0)])] [kp [2, 3, 4, 6] [6, 70, 79, 86, 94, 105, 126, 142, 156]]) (.seq (.reg [om 17 2, od
 18 (le 0 17), om 7 18] [kp [2, 3, 4, 6, 7] [6, 70, 79, 86, 94, 105, 126, 142, 156]]) (.seq (.reg [od 19 (fa 1 4), od 20 (.iadrA 3 1 (tm 19) (ki 0)), od 21 (ld 1 20), od 22 (.conv .i64 (tm 21)), om 23 7, od 24 (.bin .rem (tm 22) (tm
 23)), od 25 (fa 1 4), od 26 (.iadrA 3 1 (tm 25) (ki 1)), od 27 (ld 1 26), od 28 (.conv .i64 (tm 27)), om 29 7, od 30 (.bin .rem (tm 28) (tm 29)), od 31 (fa 1 4), od 32 (.iadrA 3 1 (tm 31) (ki 2)), od 33 (ld 1 32), od 34 (.conv .i64
 (tm 33)), om 35 7, od 36 (.bin .rem (tm 34) (tm 35)), om 8 24, om 9 30, om 10 36] [kp [2, 3, 4, 6, 7, 8, 9, 10] [6, 70, 79, 86, 94, 105, 126, 142, 156]]) (.seq (.reg [od 11 (.mv kN)] [.nl 11 51 3 1, kp [2, 3, 4, 6, 7, 8, 9, 10, 11]
 [6, 51, 70, 79, 86, 94, 105, 126, 142, 156]]) (.seq (.seq (.reg [od 12 (.mv (ki 0))] [kp [2, 3, 4, 6, 7, 8, 9, 10, 11, 12] [6, 51, 70, 79, 86, 94, 105, 126, 142, 156]]) (.block 0 P1)) (.seq (.reg [od 52 (fa 0 4), od 53
 (ld 1 52), od 54 (.bin .rem (tm 53) (ku 9)), od 55 (.conv .i64 (tm 54)), om 13 55] [kp [3, 4, 6, 8, 9, 10, 11, 13] [6, 51, 70, 79, 86, 94, 105, 126, 142, 156]]) (.seq (.seq (.reg [od 56 (fa 4 3), od 57 (ld 1 56)] [kp [4, 6, 8, 9,
 10, 11, 13, 57] [6, 51, 70, 79, 86, 94, 105, 126, 142, 156]]) (.cond (tm 57) (.reg [od 58 (fa 0 4), od 59 (ld 1 58), od 60 (.bin .rem (tm 59) (ku 13)), od 61 (.conv .i64 (tm 60)), om 13 61] [kp [4, 6, 8, 9, 10, 11, 13] [6, 51, 70,
 79, 86, 94, 105, 126, 142, 156]]) .skip)) (.seq (.block 2 (.seq (.reg [om 63 13, od 64 (.bin .lss (tm 63) (ki 6)), om 62 64] [kp [4, 6, 8, 9, 10, 11, 13, 62] [6, 51, 70, 79, 86, 94, 105, 126, 142, 156]]) (.cond (tm 62) (.seq (.reg
 [om 65 13, od 66 (.conv .u8 (tm 65)), od 67 (.bin .add (ku 5) (tm 66)), om 68 8, om 69 9, od 70 (.bsl false 3 1 [(tm 68), (tm 69)]), od 71 (.build [(1, (tm 67)), (1, (tm 70)), (1, (ki 0)), (1, (ki 0))]), od 14 (.alloc false [(.int
 .u8 0), (.slice none 0 0), (.int .i64 0), (.int .i64 0)]), on (.store 4 (tm 14) (tm 71))] [kp [4, 6, 10, 14] [6, 14, 70, 79, 86, 94, 105, 126, 142, 156]]) (.seq (.seq (.reg [od 72 (fa 0 4), od 73 (ld 1 72), od 74 (.bin .geq (tm 73)
 (ku 128))] [kp [6, 10, 14, 74] [6, 14, 70, 79, 86, 94, 105, 126, 142, 156]]) (.cond (tm 74) (.reg [od 75 (fa 1 14), od 76 (ld 1 75), om 77 10, od 78 (.bsl true 3 1 [(tm 77)]), od 79 (.app false 3 1 (tm 76) (tm 78)), od 80 (fa 1
 14), on (.store 1 (tm 80) (tm 79))] [kp [6, 14] [6, 14, 70, 79, 86, 94, 105, 126, 142, 156]]) .skip)) (.seq (.reg [od 81 (lG 4 14), on (.store 4 (tm 6) (tm 81))] [kp [6] [6, 70, 79, 86, 94, 105, 126, 142, 156]]) .ret))) (.seq (.reg
 [om 83 13, od 84 (.bin .eql (tm 83) (ki 6)), om 82 84] [kp [4, 6, 8, 9, 10, 11, 13, 82] [6, 51, 70, 79, 86, 94, 105, 126, 142, 156]]) (.cond (tm 82) (.seq (.reg [om 85 8, od 86 (.bsl false 3 1 [(tm 85)]), od 87 (.build [(1, (ku
 4)), (1, (tm 86)), (1, (ki 0)), (1, (ki 0))]), on (.store 4 (tm 6) (tm 87))] [kp [6] [6, 70, 79, 86, 94, 105, 126, 142, 156]]) .ret) (.seq (.reg [om 89 13, od 90 (.bin .eql (tm 89) (ki 7)), om 88 90] [kp [4, 6, 8, 9, 10, 11, 13,
 88] [6, 51, 70, 79, 86, 94, 105, 126, 142, 156]]) (.cond (tm 88) (.seq (.reg [om 91 8, om 92 9, om 93 10, od 94 (.bsl false 3 1 [(tm 91), (tm 92), (tm 93)]), od 95 (.build [(1, (ku 11)), (1, (tm 94)), (1, (ki 0)), (1, (ki 0))]), on
 (.store 4 (tm 6) (tm 95))] [kp [6] [6, 70, 79, 86, 94, 105, 126, 142, 156]]) .ret) (.seq (.reg [om 97 13, od 98 (.bin .eql (tm 97) (ki 9)), om 99 98, oF 100 (.mv (tm 13)) 99, oF 101 (.bin .eql (tm 100) (ki 10)) 99, od 102 (.pick
 (tm 99) kT (tm 101)), om 96 102] [kp [4, 6, 8, 9, 11, 13, 96] [6, 51, 70, 79, 86, 94, 105, 126, 142, 156]]) (.cond (tm 96) (.seq (.reg [om 103 8, om 104 9, od 105 (.bsl false 3 1 [(tm 103), (tm 104)]), od 106 (.build [(1, (ku 12)),
 (1, (tm 105)), (1, (ki 0)), (1, (ki 0))]), on (.store 4 (tm 6) (tm 106))] [kp [6] [6, 70, 79, 86, 94, 105, 126, 142, 156]]) .ret) (.seq (.reg [om 108 13, od 109 (.bin .gtr (tm 108) (ki 10)), om 110 109, oT 111 (.mv (tm 11)) 110, oT
 112 (le 0 111) 110, oT 113 (.bin .gtr (tm 112) (ki 0)) 110, od 114 (.pick (tm 110) (tm 113) kF), om 107 114] [kp [4, 6, 8, 11, 107] [6, 51, 70, 79, 86, 94, 105, 126, 142, 156]]) (.cond (tm 107) (.seq (.reg [od 115 (fa 1 4), od 116
 (.iadrA 3 1 (tm 115) (ki 0)), od 117 (ld 1 116), od 118 (.conv .i64 (tm 117)), om 119 11, od 120 (le 0 119), od 121 (.bin .rem (tm 118) (tm 120)), om 15 121] [kp [6, 11, 15] [6, 51, 70, 79, 86, 94, 105, 126, 142, 156]]) (.seq (.reg
 [om 122 11, om 123 15, od 124 (ia 1 122 123), od 125 (ld 1 124), od 126 (.bsl false 3 1 [(tm 125)]), od 127 (.build [(1, (ku 13)), (1, (tm 126)), (1, (ki 0)), (1, (ki 0))]), od 16 (.alloc false [(.int .u8 0), (.slice none 0 0),
 (.int .i64 0), (.int .i64 0)]), on (.store 4 (tm 16) (tm 127))] [kp [6, 11, 15, 16] [6, 16, 51, 70, 79, 86, 94, 105, 126, 142, 156]]) (.seq (.seq (.reg [om 128 11, od 129 (le 0 128), od 130 (.bin .gtr (tm 129) (ki 1))] [kp [6, 11,
 15, 16, 130] [6, 16, 51, 70, 79, 86, 94, 105, 126, 142, 156]]) (.cond (tm 130) (.reg [od 131 (fa 1 16), od 132 (.ldR 16 1 false (tm 131)), om 133 11, om 134 15, od 135 (.bin .add (tm 134) (ki 1)), om 136 11, od 137 (le 0 136), od
 138 (.bin .rem (tm 135) (tm 137)), od 139 (ia 1 133 138), od 140 (.ldR 51 1 false (tm 139)), od 141 (.bsl true 3 1 [(tm 140)]), od 142 (.app false 3 1 (tm 132) (tm 141)), od 143 (fa 1 16), on (.stR 16 1 (tm 143) (tm 142))] [kp [6,
 16] [6, 16, 70, 79, 86, 94, 105, 126, 142, 156]]) .skip)) (.seq (.reg [od 144 (lG 4 16), on (.store 4 (tm 6) (tm 144))] [kp [6] [6, 70, 79, 86, 94, 105, 126, 142, 156]]) .ret)))) (.seq (.reg [od 146 (fa 0 4), od 147 (ld 1 146), od
 148 (.bin .gtr (tm 147) (ku 240)), om 145 148] [kp [4, 6, 8, 145] [6, 70, 79, 86, 94, 105, 126, 142, 156]]) (.cond (tm 145) (.seq (.reg [od 149 (fa 1 4), od 150 (.iadrA 3 1 (tm 149) (ki 0)), od 151 (ld 1 150), od 152 (.bin .rem (tm
 151) (ku 2)), od 153 (.bin .add (ku 1) (tm 152)), od 154 (.build [(1, (tm 153)), (1, kN), (1, (ki 0)), (1, (ki 0))]), on (.store 4 (tm 6) (tm 154))] [kp [6] [6, 70, 79, 86, 94, 105, 126, 142, 156]]) .ret) .skip))))))))))))) (.seq
 (.reg [om 155 8, od 156 (.bsl false 3 1 [(tm 155)]), od 157 (.build [(1, (ku 3)), (1, (tm 156)), (1, (ki 0)), (1, (ki 0))]), on (.store 4 (tm 6) (tm 157))] [kp [6] [6, 70, 79, 86, 94, 105, 126, 142, 156]]) .ret)))))))))
theorem Xa (h : ∀ K : St → Prop, K = run P Γ P1 Q → run P Γ q2m (An K Q) s) : run P Γ P1 Q s := Af h
def B9 : List RV := [.cell 6 4 true]
/- probecard/probecardlaw03.name (function 43) -/
abbrev q5P : IC := (.seq (.reg [od 2 (.mv (.const (sV [])))] [kp [0] []]) (.seq (.reg [om 3 0, od 4 (.bin .quo (tm 3) (ki 10)), od 5 (.bin .add (ki 48) (tm 4)), od 6 (.conv .u8 (tm 5)), om 7 0, od 8 (.bin .rem (tm 7) (ki 10)), od 9 (.bin .add (ki 48)
 (tm 8)), od 10 (.conv .u8 (tm 9)), od 11 (.bsl true 5 1 [(ku 110), (tm 6), (tm 10)]), od 12 (.bytesStr (tm 11)), om 2 12] [kp [2] []]) .ret))
def q5Q : List RV := [.tmp 2]
end
end Go.Lg
namespace Go.Lg
open Go Go.Proofs
theorem qAU : Au Tryz.prog 11 q5O 178 1 Hq = true := by kernel_rfl
theorem q8G : Au Tryz.prog 42 q2n 158 3 B9 = true := by kernel_rfl
theorem qAV : Au Tryz.prog 43 q5P 13 1 q5Q = true := by kernel_rfl
end Go.Lg
namespace Go.Lg
open Go Go.Proofs
variable {Γ : Tables}
structure Gd where
 k : Int
 a : Int
 b : Int
 d : Int
def tGd (g : Gd) : List T := [tK g.k, tK g.a, tK g.b, tK g.d]
structure CD where
 i : Int
 f : Int
 d0 : Int
 d1 : Int
 bus : Bool
 mem : Bool
 p0 : Int
 p1 : Int
 p2 : Int
 p3 : Int
 gates : Sl Gd
 outs : Sl Int
def Oa (x : CD) : List T := [tK x.i, tK x.f, tK x.d0, tK x.d1, tB x.bus, tB x.mem, tK x.p0, tK x.p1, tK x.p2, tK x.p3, .sl (B1 tGd x.gates.l) x.gates.cap x.gates.nl, .sl (Aj tK x.outs.l) x.outs.cap x.outs.nl]
def Byt (n : Int) : Prop := 0 ≤ n ∧ n ≤ 255
def qCc (g : Gd) : Prop := Byt g.k ∧ Byt g.a ∧ Byt g.b ∧ Byt g.d
def q1a (i : Nat) : List UInt8 := [110, UInt8.ofNat (48 + i / 10), UInt8.ofNat (48 + i % 10)]
theorem qH6 (i : Nat) (hi : i < 100) : A6 Tryz.prog Γ 43 [tI i] (tS (q1a i)) := by
 refine Aa qAV rfl ?_
 have h1 : (i : Int).tdiv 10 = ((i / 10 : Nat) : Int) := by rw [Int.tdiv_eq_ediv_of_nonneg (by omega)]; omega
 have h2 : (i : Int).tmod 10 = ((i % 10 : Nat) : Int) := by rw [Int.tmod_eq_emod_of_nonneg (by omega)]; omega
 have h3 : i / 10 < 10 := by omega
 have h4 : i % 10 < 10 := by omega
 generalize hq : i / 10 = q at *
 generalize hr : i % 10 = r at *
 have e1 : (48 + (q : Int)).toNat = 48 + q := by omega
 have e2 : (48 + (r : Int)).toNat = 48 + r := by omega
 simp (disch := omega) [q5P, sV, h1, h2, A9, Bm, Ov]
 simp [q5Q, q1a, hq, hr, tS, sV, e1, e2]
def q77 (nodes : List Nd) : List Int := N5 [12] nodes 0
def qDm (bus : Bool) (g : Gd) (a b d : Int) (t : List Int) : Nd :=
 let kind := if bus then g.k.tmod 13 else g.k.tmod 9
 if kind < 6 then ⟨5 + kind, if 128 ≤ g.k then ⟨[a, b, d], none, none⟩ else ⟨[a, b], none, none⟩, 0, 0⟩
 else if kind = 6 then ⟨4, ⟨[a], none, none⟩, 0, 0⟩
 else if kind = 7 then ⟨11, ⟨[a, b, d], none, none⟩, 0, 0⟩
 else if kind = 9 ∨ kind = 10 then ⟨12, ⟨[a, b], none, none⟩, 0, 0⟩
 else if 10 < kind ∧ 0 < t.length then
  let k := g.a.tmod t.length
  ⟨13, if 1 < t.length then ⟨[t.getD k.toNat 0, t.getD ((k + 1).tmod t.length).toNat 0], none, none⟩ else ⟨[t.getD k.toNat 0], none, none⟩, 0, 0⟩
 else if 240 < g.k then ⟨1 + g.a.tmod 2, ⟨[], some 0, some true⟩, 0, 0⟩
 else ⟨3, ⟨[a], none, none⟩, 0, 0⟩
def q78 (bus : Bool) (g : Gd) (nodes : List Nd) : Nd := qDm bus g (g.a.tmod nodes.length) (g.b.tmod nodes.length) (g.d.tmod nodes.length) (q77 nodes)
theorem qBv {Q : AX → St → Prop} (nodes : List Nd) (cap : Option Nat) (nl : Option Bool) (hl : nodes.length ≤ 100) (a3 a4 a8 a9 a10 : T) (r6 : List T)
  (h0 : Q (.exit 0) ⟨[(2, .t (.sl (B1 E0 nodes) cap nl)), (3, .t a3), (4, .t a4), (6, .lp 6 0 0), (7, .t (tI nodes.length)), (8, .t a8), (9, .t a9), (10, .t a10), (11, .ls 51 0 (q77 nodes).length none), (12, .t (tI nodes.length)), (39, .t (tB false))], [(6, .bx (r6.map AV.t)), (51, .sl 3 1 (Ak (q77 nodes)))]⟩) : ∀ (k i : Nat), k + i = nodes.length →
  run Tryz.prog Γ P1 Q ⟨[(2, .t (.sl (B1 E0 nodes) cap nl)), (3, .t a3), (4, .t a4), (6, .lp 6 0 0), (7, .t (tI nodes.length)), (8, .t a8), (9, .t a9), (10, .t a10), (11, .ls 51 0 (q77 (nodes.take i)).length none), (12, .t (tI i))], [(6, .bx (r6.map AV.t)), (51, .sl 3 1 (Ak (q77 (nodes.take i))))]⟩
 | 0, i, h => by
  refine Xa fun K hK => ?_
  have h2 : ¬ i < nodes.length := by omega
  have h3 : i = nodes.length := by omega
  simp [h2]
  subst h3
  simpa using h0
 | k + 1, i, h => by
  refine Xa fun K hK => ?_
  have h2 : i < nodes.length := by omega
  have ht : nodes.take (i + 1) = nodes.take i ++ [nodes[i]] := by rw [List.take_add_one]; simp [h2]
  have hlen := V9 [12] (nodes.take i) 0
  have htl : (nodes.take i).length = i := by simp; omega
  have hal : q77 (nodes.take (i + 1)) = if nodes[i].k = 12 then q77 (nodes.take i) ++ [(i : Int)] else q77 (nodes.take i) := by
   simp only [q77]
   rw [ht, q71, htl]
   simp only [N5, Nat.zero_add, List.contains_cons, List.contains_nil, Bool.or_false, qJm, decide_eq_true_eq]
   split <;> simp
  have ih := qBv nodes cap nl hl a3 a4 a8 a9 a10 r6 h0 k (i + 1) (by omega)
  rw [hal] at ih
  simp only [q77] at ih ⊢
  by_cases h5 : nodes[i].k = 12
  ·rw [if_pos h5] at ih
   have hw : E2 1 [[tI (i : Int)]] := by intro e he; simp at he; subst he; rfl
   simp (disch := omega) [h2, Ac, Ei Nd.d, Bi, E0, Av, h5, A9, A5, A8, hw]
   rw [hK]
   simp at ih
   rw [D2 (f := tI) (x := (i : Int))]
   exact ⟨by omega, ih⟩
  ·rw [if_neg h5] at ih
   simp (disch := omega) [h2, Ac, Ei Nd.d, Bi, E0, Av, h5, A9]
   rw [hK]
   simpa using ih
theorem D4 {a : Int} {n : Nat} (h0 : 0 ≤ a) (h1 : 0 < n) : 0 ≤ a.tmod n ∧ a.tmod n < n := by
 rw [Int.tmod_eq_emod_of_nonneg h0]
 exact ⟨Int.emod_nonneg _ (by omega), Int.emod_lt_of_pos _ (by omega)⟩
theorem Ce {ty s : Nat} {es : List (List T)} : Qs (.sl ty s es) = ∀ e ∈ es, ∀ t ∈ e, B6 t = true := rfl
set_option maxHeartbeats 4000000 in
theorem qH7 (x : CD) (g : Gd) (hg : qCc g) (nodes : List Nd) (cap : Option Nat) (nl : Option Bool) (h0 : 1 ≤ nodes.length) (h1 : nodes.length ≤ 100) :
  A6 Tryz.prog Γ 42 [.agg (Oa x), .agg (tGd g), .sl (B1 E0 nodes) cap nl] (.agg (E0 (q78 x.bus g nodes))) := by
 refine Aa q8G rfl ?_
 obtain ⟨⟨hk0, hk1⟩, ⟨ha0, ha1⟩, ⟨hb0, hb1⟩, ⟨hd0, hd1⟩⟩ := hg
 have hn0 : ¬ (nodes.length : Int) = 0 := by omega
 have hn1 : (nodes.length : Int) ≠ 0 := by omega
 have hne : ¬ nodes = [] := fun e => by subst e; simp at h0
 have hlp := fun Q a3 a4 a8 a9 a10 r6 h0 => qBv (Γ := Γ) (Q := Q) nodes cap nl h1 a3 a4 a8 a9 a10 r6 h0 nodes.length 0 (by omega)
 have ht := V9 [12] nodes 0
 simp only [q77, List.take_zero, N5, List.length_nil, Cf] at hlp
 simp (disch := omega) [q2n, Oa, tGd, Ac, A9, hn0]
 refine ⟨hne, hlp _ _ _ _ _ _ [_, _, _, _] ?_⟩
 clear hlp
 unfold q78
 simp only [q77]
 generalize N5 [12] nodes 0 = t at *
 have m13 : 0 ≤ g.k.tmod 13 ∧ g.k.tmod 13 < 13 := D4 (n := 13) hk0 (by omega)
 have m9 : 0 ≤ g.k.tmod 9 ∧ g.k.tmod 9 < 9 := D4 (n := 9) hk0 (by omega)
 have ma : 0 ≤ g.a.tmod 2 ∧ g.a.tmod 2 < 2 := D4 (n := 2) ha0 (by omega)
 generalize g.a.tmod nodes.length = a
 generalize g.b.tmod nodes.length = b
 generalize g.d.tmod nodes.length = d
 unfold qDm
 cases x.bus
 ·generalize hkk : g.k.tmod 9 = kk at *
  by_cases k1 : kk < 6
  ·by_cases k2 : 128 ≤ g.k
   ·simp (disch := omega) [hkk, k1, k2, A9, Bm, Bv, B9, E0, Av, Aj, E2, Am, Ce]
   ·simp (disch := omega) [hkk, k1, k2, A9, Bm, Bv, B9, E0, Av, Aj, E2, Am, Ce]
  by_cases k3 : kk = 6
  ·simp (disch := omega) [hkk, k1, k3, A9, Bm, Bv, B9, E0, Av, Aj, E2, Am, Ce]
  by_cases k4 : kk = 7
  ·simp (disch := omega) [hkk, k1, k4, A9, Bm, Bv, B9, E0, Av, Aj, E2, Am, Ce]
  have k5 : kk = 8 := by omega
  by_cases k6 : 240 < g.k
  ·simp (disch := omega) [hkk, k5, k6, A9, Bm, Bv, B9, E0, Av, Aj, E2, Am, Ce]
  ·simp (disch := omega) [hkk, k5, k6, A9, Bm, Bv, B9, E0, Av, Aj, E2, Am, Ce]
 ·generalize hkk : g.k.tmod 13 = kk at *
  by_cases k1 : kk < 6
  ·by_cases k2 : 128 ≤ g.k
   ·simp (disch := omega) [hkk, k1, k2, A9, Bm, Bv, B9, E0, Av, Aj, E2, Am, Ce]
   ·simp (disch := omega) [hkk, k1, k2, A9, Bm, Bv, B9, E0, Av, Aj, E2, Am, Ce]
  by_cases k3 : kk = 6
  ·simp (disch := omega) [hkk, k1, k3, A9, Bm, Bv, B9, E0, Av, Aj, E2, Am, Ce]
  by_cases k4 : kk = 7
  ·simp (disch := omega) [hkk, k1, k4, A9, Bm, Bv, B9, E0, Av, Aj, E2, Am, Ce]
  by_cases k8 : kk = 9
  ·simp (disch := omega) [hkk, k8, A9, Bm, Bv, B9, E0, Av, Aj, E2, Am, Ce]
  by_cases k9 : kk = 10
  ·simp (disch := omega) [hkk, k9, A9, Bm, Bv, B9, E0, Av, Aj, E2, Am, Ce]
  by_cases k10 : 10 < kk ∧ 0 < t.length
  ·obtain ⟨k11, k10⟩ := k10
   have htn : ¬ (t.length : Int) = 0 := by omega
   have htne : ¬ t = [] := fun e => by subst e; simp at k10
   have htp : (0 : Int) < t.length := by omega
   have mt := D4 (n := t.length) ha0 k10
   generalize hq : g.a.tmod t.length = q at *
   have mt2 := D4 (a := q + 1) (n := t.length) (by omega) k10
   have hq0 : q.toNat < t.length := by omega
   generalize hq2 : (q + 1).tmod t.length = q2 at *
   have hq20 : q2.toNat < t.length := by omega
   have e1 := Cb (f := tI) 0 hq0
   have e2 := Cb (f := tI) 0 hq20
   by_cases k12 : 1 < t.length
   ·have k12' : (1 : Int) < t.length := by omega
    simp (disch := omega) [hkk, k1, k3, k4, k8, k9, k11, k10, htp, htn, k12, k12', hq, hq2, e1, e2, hq0, hq20, mt.1, mt.2, mt2.1, mt2.2, htne, A5, A8, A9, Bm, Bv, E0, Av, Am, Ce, B9]
    simp [E2, Aj]
   ·have k12' : ¬ (1 : Int) < t.length := by omega
    simp (disch := omega) [hkk, k1, k3, k4, k8, k9, k11, k10, htp, htn, k12, k12', hq, hq2, e1, e2, hq0, hq20, mt.1, mt.2, mt2.1, mt2.2, htne, A5, A8, A9, Bm, Bv, E0, Av, Am, Ce, B9]
    simp [E2, Aj]
  ·by_cases k11 : 10 < kk
   ·have k10' : t = [] := List.eq_nil_of_length_eq_zero (by omega)
    subst k10'
    by_cases k6 : 240 < g.k
    ·simp (disch := omega) [hkk, k1, k3, k4, k8, k9, k11, k6, A9, Bm, Bv, B9, E0, Av, Aj, E2, Am, Ce]
    ·simp (disch := omega) [hkk, k1, k3, k4, k8, k9, k11, k6, A9, Bm, Bv, B9, E0, Av, Aj, E2, Am, Ce]
   ·have k5 : kk = 8 := by omega
    by_cases k6 : 240 < g.k
    ·simp (disch := omega) [hkk, k5, k6, A9, Bm, Bv, B9, E0, Av, Aj, E2, Am, Ce]
    ·simp (disch := omega) [hkk, k5, k6, A9, Bm, Bv, B9, E0, Av, Aj, E2, Am, Ce]
def q3H : T := .sl [] (some 0) (some true)
def Uj (nodes : List Nd) (names : List (List UInt8)) (m : T) (outs : List Int) : List (Nat × Bn) :=
 [(2, .bx [.t q3H, .t q3H, .t q3H, .t q3H]), (3, .bx [.ls 25 0 nodes.length none, .ls 144 0 names.length none, .t m, .ls 168 0 outs.length none]), (25, .sl 82 4 (B1 E0 nodes)), (144, .sl 9 1 (Aj tS names)), (168, .sl 3 1 (Ak outs))]
def q9L : Nd := ⟨0, ⟨[], some 0, some true⟩, 0, 0⟩
def q8H (l : Int) : Nd := ⟨14, ⟨[l], some 1, some false⟩, 0, 0⟩
def q6M (b : Int) : Nd := ⟨15, ⟨[], some 0, some true⟩, 0, b⟩
theorem qBw {Q : AX → St → Prop} (x : CD) (hx : Byt x.i) (R : List Nd)
  (h0 : Q (.exit 0) ⟨[(1, .t (.ip (Oa x) 0)), (2, .lp 2 0 0), (3, .lp 3 0 0), (4, .t (tI (x.i.tmod 4 + 1))), (18, .t (tB false))], Uj R [] q3H []⟩) : ∀ (k : Nat) (i : Int) (ns : List Nd), k + i = x.i.tmod 4 + 1 → ns ++ List.replicate k q9L = R → ns.length + k ≤ 100 →
  run Tryz.prog Γ Va Q ⟨[(1, .t (.ip (Oa x) 0)), (2, .lp 2 0 0), (3, .lp 3 0 0), (4, .t (tI i))], Uj ns [] q3H []⟩
 | 0, i, ns, h, hR, hl => by
  refine q0Q fun K hK => ?_
  have m4 : 0 ≤ x.i.tmod 4 ∧ x.i.tmod 4 < 4 := D4 (n := 4) hx.1 (by omega)
  have h2 : ¬ i ≤ x.i.tmod 4 := by omega
  have h3 : i = x.i.tmod 4 + 1 := by omega
  simp only [List.replicate_zero, List.append_nil] at hR
  subst hR
  simp (disch := omega) [h2, Oa, Uj, A9, Bm]
  subst h3
  simpa [Oa, Uj] using h0
 | k + 1, i, ns, h, hR, hl => by
  refine q0Q fun K hK => ?_
  have m4 : 0 ≤ x.i.tmod 4 ∧ x.i.tmod 4 < 4 := D4 (n := 4) hx.1 (by omega)
  have h2 : i ≤ x.i.tmod 4 := by omega
  have ih := qBw x hx R h0 k (i + 1) (ns ++ [q9L]) (by omega) (by rw [← hR]; simp [List.replicate_succ]) (by simp; omega)
  have q : B1 E0 ns ++ [[tK 0, .sl [] (some 0) (some true), tI 0, tI 0]] = B1 E0 (ns ++ [q9L]) := q1T (f := E0) (x := q9L)
  have hw4 : E2 4 [[tK 0, .sl [] (some 0) (some true), tI 0, tI 0]] := by intro e he; simp at he; subst he; rfl
  have ht : (B1 E0 ns).take ns.length = B1 E0 ns := List.take_of_length_le (by simp [B1])
  simp (disch := omega) [h2, Oa, Uj, A9, Bm, Ac, hw4, Bi, ht, q]
  rw [hK]
  simp [Oa, Uj] at ih
  exact ⟨by omega, ih⟩
theorem qG6 {Q : AX → St → Prop} (x : CD) (hx : Byt x.f) (first : Int) (R : List Nd)
  (h0 : Q (.exit 2) ⟨[(1, .t (.ip (Oa x) 0)), (2, .lp 2 0 0), (3, .lp 3 0 0), (5, .t (tI first)), (6, .t (tI (x.f.tmod 3))), (7, .t (tI (x.f.tmod 3))), (36, .t (tB false))], Uj R [] q3H []⟩) : ∀ (k : Nat) (i : Int) (ns : List Nd), k + i = x.f.tmod 3 → ns ++ List.replicate k (q8H 0) = R → ns.length + k ≤ 100 →
  run Tryz.prog Γ Vb Q ⟨[(1, .t (.ip (Oa x) 0)), (2, .lp 2 0 0), (3, .lp 3 0 0), (5, .t (tI first)), (6, .t (tI (x.f.tmod 3))), (7, .t (tI i))], Uj ns [] q3H []⟩
 | 0, i, ns, h, hR, hl => by
  refine q0R fun K hK => ?_
  have m3 : 0 ≤ x.f.tmod 3 ∧ x.f.tmod 3 < 3 := D4 (n := 3) hx.1 (by omega)
  have h2 : ¬ i < x.f.tmod 3 := by omega
  have h3 : i = x.f.tmod 3 := by omega
  simp only [List.replicate_zero, List.append_nil] at hR
  subst hR
  simp (disch := omega) [h2, Oa, Uj, A9, Bm]
  subst h3
  simpa [Oa, Uj] using h0
 | k + 1, i, ns, h, hR, hl => by
  refine q0R fun K hK => ?_
  have m3 : 0 ≤ x.f.tmod 3 ∧ x.f.tmod 3 < 3 := D4 (n := 3) hx.1 (by omega)
  have h2 : i < x.f.tmod 3 := by omega
  have ih := qG6 x hx first R h0 k (i + 1) (ns ++ [q8H 0]) (by omega) (by rw [← hR]; simp [List.replicate_succ]) (by simp; omega)
  have q : B1 E0 ns ++ [[tK 14, .sl [[tI 0]] (some 1) (some false), tI 0, tI 0]] = B1 E0 (ns ++ [q8H 0]) := q1T (f := E0) (x := q8H 0)
  have hw4 : E2 4 [[tK 14, .sl [[tI 0]] (some 1) (some false), tI 0, tI 0]] := by intro e he; simp at he; subst he; rfl
  have ht : (B1 E0 ns).take ns.length = B1 E0 ns := List.take_of_length_le (by simp [B1])
  simp (disch := omega) [h2, Oa, Uj, A9, Bm, Ac, hw4, Bi, ht, q]
  rw [hK]
  simp [Oa, Uj] at ih
  exact ⟨by omega, ih⟩
def Uk (bus : Bool) : List Gd → List Nd → List Nd
 | [], ns => ns
 | g :: l, ns => Uk bus l (ns ++ [q78 bus g ns])
theorem qJu {l : List Gd} : E2 4 (B1 tGd l) := q3U fun _ => rfl
def Gd.z : Gd := ⟨0, 0, 0, 0⟩
theorem qDn {Q : AX → St → Prop} (x : CD) (hx : ∀ g ∈ x.gates.l, qCc g) (first dffs : Int) (R : List Nd)
  (h0 : Q (.exit 4) ⟨[(1, .t (.ip (Oa x) 0)), (2, .lp 2 0 0), (3, .lp 3 0 0), (5, .t (tI first)), (6, .t (tI dffs)), (8, .t (tI (min x.gates.l.length 8 : Nat))), (63, .t (tB false))], Uj R [] q3H []⟩) : ∀ (k i : Nat) (ns : List Nd), k + i = min x.gates.l.length 8 → Uk x.bus ((x.gates.l.take 8).drop i) ns = R → 1 ≤ ns.length → ns.length + k ≤ 100 →
  run Tryz.prog Γ Vd Q ⟨[(1, .t (.ip (Oa x) 0)), (2, .lp 2 0 0), (3, .lp 3 0 0), (5, .t (tI first)), (6, .t (tI dffs)), (8, .t (tI i))], Uj ns [] q3H []⟩
 | 0, i, ns, h, hR, hl1, hl => by
  refine q0S fun K hK => ?_
  rw [List.drop_of_length_le (by simp; omega)] at hR
  simp only [Uk] at hR
  subst hR
  have hi : i = min x.gates.l.length 8 := by omega
  by_cases h2 : i < x.gates.l.length
  ·have h3 : ¬ (i : Int) < 8 := by omega
   have h3' : ¬ i < 8 := by omega
   simp (disch := omega) [h2, h3, h3', Oa, Uj, Ac]
   subst hi
   simpa [Oa, Uj] using h0
  ·simp (disch := omega) [h2, Oa, Uj, Ac]
   subst hi
   simpa [Oa, Uj] using h0
 | k + 1, i, ns, h, hR, hl1, hl => by
  refine q0S fun K hK => ?_
  have h2 : i < x.gates.l.length := by omega
  have h3 : i < 8 := by omega
  have h3' : (i : Int) < 8 := by omega
  rw [List.drop_eq_getElem_cons (by simp; omega)] at hR
  simp only [Uk, List.getElem_take] at hR
  have ih := qDn x hx first dffs R h0 k (i + 1) (ns ++ [q78 x.bus x.gates.l[i] ns]) (by omega) hR (by simp) (by simp; omega)
  have hg := qH7 (Γ := Γ) x x.gates.l[i] (hx _ (List.getElem_mem h2)) ns none none hl1 (by omega)
  generalize q78 x.bus x.gates.l[i] ns = gn at *
  have q : B1 E0 ns ++ [E0 gn] = B1 E0 (ns ++ [gn]) := q1T (f := E0) (x := gn)
  have hw4 : E2 4 [E0 gn] := by intro e he; simp at he; subst he; rfl
  have ht : (B1 E0 ns).take ns.length = B1 E0 ns := List.take_of_length_le (by simp [B1])
  have hget := Ei (f := tGd) Gd.z h2
  simp (disch := omega) [h2, h3, h3', Oa, Uj, A9, Ac, hget, qJu, tGd]
  refine A4 hg (by simp [Am, Oa, ht, tGd]) ?_
  simp [E0] at q hw4
  simp (disch := omega) [E0, A9, Ac, hw4, Bi, ht, q]
  rw [hK]
  simp [Oa, Uj] at ih
  exact ⟨rfl, by omega, ih⟩
def ddN (x : CD) (i : Nat) : Int := if i = 0 then x.d0 else x.d1
def Xb (ns : List Nd) (j : Nat) (v : Int) : List Nd := ns.set j ⟨(ns.getD j Nd.d).k, ⟨[v], some 1, some false⟩, (ns.getD j Nd.d).mem, (ns.getD j Nd.d).bit⟩
def q3i (x : CD) (first : Nat) : Nat → Nat → List Nd → List Nd
 | 0, _, ns => ns
 | k + 1, i, ns => q3i x first k (i + 1) (Xb ns (first + i) ((ddN x i).tmod ns.length))
theorem Qd {ns : List Nd} {j : Nat} {v : Int} : (Xb ns j v).length = ns.length := by simp [Xb]
theorem q8I {x : CD} {f : Nat} : ∀ {k i : Nat} {ns : List Nd}, (q3i x f k i ns).length = ns.length
 | 0, _, _ => rfl
 | k + 1, i, ns => by simp only [q3i]; rw [q8I, Qd]
theorem qLx {ns : List Nd} {j : Nat} {v : Int} (hj : j < ns.length) : (B1 E0 ns).set j (((B1 E0 ns)[j]?.getD []).take 1 ++ T.sl [[tI v]] (some 1) (some false) :: ((B1 E0 ns)[j]?.getD []).drop 2) = B1 E0 (Xb ns j v) := by
 rw [Ei (f := E0) Nd.d hj]
 unfold Xb B1
 rw [List.map_set]
 rfl
theorem qG7 {Q : AX → St → Prop} (x : CD) (h0' : Byt x.d0) (h1' : Byt x.d1) (first dn n : Nat) (hdn : dn ≤ 2) (hn : 1 ≤ n ∧ n ≤ 100) (hf : first + dn ≤ n) (R : List Nd)
  (h0 : Q (.exit 6) ⟨[(1, .t (.ip (Oa x) 0)), (2, .lp 2 0 0), (3, .lp 3 0 0), (5, .t (tI first)), (6, .t (tI dn)), (9, .t (tI n)), (10, .t (tI dn)), (85, .t (tB false))], Uj R [] q3H []⟩) : ∀ (k i : Nat) (ns : List Nd), k + i = dn → q3i x first k i ns = R → ns.length = n →
  run Tryz.prog Γ Ve Q ⟨[(1, .t (.ip (Oa x) 0)), (2, .lp 2 0 0), (3, .lp 3 0 0), (5, .t (tI first)), (6, .t (tI dn)), (9, .t (tI n)), (10, .t (tI i))], Uj ns [] q3H []⟩
 | 0, i, ns, h, hR, hl => by
  refine q0T fun K hK => ?_
  simp only [q3i] at hR
  subst hR
  have h2 : ¬ i < dn := by omega
  have h3 : i = dn := by omega
  simp (disch := omega) [h2, Oa, Uj]
  subst h3
  simpa [Oa, Uj] using h0
 | k + 1, i, ns, h, hR, hl => by
  refine q0T fun K hK => ?_
  have h2 : i < dn := by omega
  simp only [q3i] at hR
  have ih := qG7 x h0' h1' first dn n hdn hn hf R h0 k (i + 1) _ (by omega) hR (by rw [Qd]; exact hl)
  have hi : i = 0 ∨ i = 1 := by omega
  have hj : first + i < ns.length := by omega
  have hn0 : ¬ (n : Int) = 0 := by omega
  have hget := Ei (f := E0) Nd.d hj
  obtain ⟨h01, h02⟩ := h0'
  obtain ⟨h11, h12⟩ := h1'
  have hs := fun v => qLx (v := v) hj
  have hn' : ¬ n = 0 := by omega
  have hfi : first + i < n := by omega
  rcases hi with rfl | rfl
  ·have hdd : ddN x 0 = x.d0 := rfl
   have h2' : (0 : Int) < dn := by omega
   rw [hdd, hl] at ih
   simp only [Nat.add_zero] at hs hfi ih
   simp (disch := omega) [h2, h2', Oa, Uj, A9, Ac, Bi, hn0, hl, hs, hn', hfi]
   rw [hK]
   simp [Oa, Uj, Qd, hl] at ih
   exact ih
  ·have hdd : ddN x 1 = x.d1 := rfl
   have h2' : (1 : Int) < dn := by omega
   rw [hdd, hl] at ih
   have hfn : ((first : Int) + 1).toNat = first + 1 := by omega
   have hfi' : (first : Int) + 1 < n := by omega
   simp (disch := omega) [h2, h2', Oa, Uj, A9, Ac, Bi, hn0, hl, hs, hn', hfi, hfn, hfi']
   rw [hK]
   simp [Oa, Uj, Qd, hl] at ih
   exact ⟨by omega, ih⟩
theorem qDo {Q : AX → St → Prop} (x : CD) (n : Nat) (hn : n ≤ 100) (ns : List Nd) (m : T) (R : List (List UInt8))
  (h0 : Q (.exit 8) ⟨[(1, .t (.ip (Oa x) 0)), (2, .lp 2 0 0), (3, .lp 3 0 0), (9, .t (tI n)), (11, .t (tI n)), (136, .t (tB false))], Uj ns R m []⟩) : ∀ (k i : Nat) (nms : List (List UInt8)), k + i = n → nms ++ (List.range' i k).map q1a = R → nms.length = i →
  run Tryz.prog Γ Vf Q ⟨[(1, .t (.ip (Oa x) 0)), (2, .lp 2 0 0), (3, .lp 3 0 0), (9, .t (tI n)), (11, .t (tI i))], Uj ns nms m []⟩
 | 0, i, nms, h, hR, hl => by
  refine q0U fun K hK => ?_
  simp only [List.range'_zero, List.map_nil, List.append_nil] at hR
  subst hR
  have h2 : ¬ i < n := by omega
  have h3 : i = n := by omega
  simp (disch := omega) [h2, Oa, Uj]
  subst h3
  simpa [Oa, Uj] using h0
 | k + 1, i, nms, h, hR, hl => by
  refine q0U fun K hK => ?_
  have h2 : i < n := by omega
  rw [List.range'_succ, List.map_cons] at hR
  have ih := qDo x n hn ns m R h0 k (i + 1) (nms ++ [q1a i]) (by omega) (by rw [← hR]; simp) (by simp; omega)
  have e := qH6 (Γ := Γ) i (by omega)
  have q : Aj tS nms ++ [[tS (q1a i)]] = Aj tS (nms ++ [q1a i]) := D2
  have ht : (Aj tS nms).take i = Aj tS nms := List.take_of_length_le (by simp [Aj]; omega)
  generalize q1a i = nm at *
  have hw : E2 1 [[tS nm]] := by intro e he; simp at he; subst he; rfl
  simp (disch := omega) [h2, Oa, Uj, A9, hl]
  refine A4 e rfl ?_
  simp only [tS, sV] at q hw
  simp (disch := omega) [tS, sV, A9, A5, hw, A8, ht, q, hl]
  rw [hK]
  simp [Oa, Uj, hl] at ih
  exact ⟨by omega, ih⟩
theorem qG8 {Q : AX → St → Prop} (x : CD) (hx : ∀ b ∈ x.outs.l, Byt b) (n : Nat) (hn : 1 ≤ n ∧ n ≤ 100) (ns : List Nd) (nms : List (List UInt8)) (m : T) (R : List Int)
  (h0 : Q (.exit 10) ⟨[(1, .t (.ip (Oa x) 0)), (2, .lp 2 0 0), (3, .lp 3 0 0), (9, .t (tI n)), (12, .t (tI (min x.outs.l.length 3 : Nat))), (154, .t (tB false))], Uj ns nms m R⟩) : ∀ (k i : Nat) (os : List Int), k + i = min x.outs.l.length 3 → os ++ ((x.outs.l.take 3).drop i).map (fun b => b.tmod n) = R → os.length = i →
  run Tryz.prog Γ Rf Q ⟨[(1, .t (.ip (Oa x) 0)), (2, .lp 2 0 0), (3, .lp 3 0 0), (9, .t (tI n)), (12, .t (tI i))], Uj ns nms m os⟩
 | 0, i, os, h, hR, hl => by
  refine Zb fun K hK => ?_
  rw [List.drop_of_length_le (by simp; omega)] at hR
  simp only [List.map_nil, List.append_nil] at hR
  subst hR
  have hi : i = min x.outs.l.length 3 := by omega
  by_cases h2 : i < x.outs.l.length
  ·have h3 : ¬ (i : Int) < 3 := by omega
   have h3' : ¬ i < 3 := by omega
   simp (disch := omega) [h2, h3, h3', Oa, Uj, A5]
   subst hi
   simpa [Oa, Uj] using h0
  ·simp (disch := omega) [h2, Oa, Uj, A5]
   subst hi
   simpa [Oa, Uj] using h0
 | k + 1, i, os, h, hR, hl => by
  refine Zb fun K hK => ?_
  have h2 : i < x.outs.l.length := by omega
  have h3 : i < 3 := by omega
  have h3' : (i : Int) < 3 := by omega
  rw [List.drop_eq_getElem_cons (by simp; omega)] at hR
  simp only [List.map_cons, List.getElem_take] at hR
  have hb := hx _ (List.getElem_mem h2)
  obtain ⟨hb0, hb1⟩ := hb
  have hget := Cb (f := tK) 0 h2
  have hg2 : x.outs.l[i]?.getD 0 = x.outs.l[i] := by simp [h2]
  rw [hg2] at hget
  generalize x.outs.l[i] = b at *
  have hn0 : ¬ (n : Int) = 0 := by omega
  have hn0' : ¬ n = 0 := by omega
  have ih := qG8 x hx n hn ns nms m R h0 k (i + 1) (os ++ [b.tmod n]) (by omega) (by rw [← hR]; simp) (by simp; omega)
  have q : Aj tI os ++ [[tI (b.tmod n)]] = Aj tI (os ++ [b.tmod n]) := D2
  have ht : (Aj tI os).take i = Aj tI os := List.take_of_length_le (by simp [Aj]; omega)
  have hw : E2 1 [[tI (b.tmod n)]] := by intro e he; simp at he; subst he; rfl
  simp (disch := omega) [h2, h3, h3', Oa, Uj, A9, A5, A8, hget, hn0, hn0', hw, ht, q, hl]
  rw [hK]
  simp [Oa, Uj, hl] at ih
  exact ⟨by omega, ih⟩
def Jc (x : CD) : List Nd := List.replicate (x.i.tmod 4 + 1).toNat q9L
def Gj (x : CD) : List Nd := Jc x ++ List.replicate (x.f.tmod 3).toNat (q8H 0)
def Fh (x : CD) : List Nd := if x.mem then Gj x ++ [q6M 0, q6M 1] else Gj x
def Cc (x : CD) : List Nd := Uk x.bus (x.gates.l.take 8) (Fh x)
def Hr (x : CD) : List Nd := q3i x (Jc x).length (x.f.tmod 3).toNat 0 (Cc x)
def qBI (x : CD) (n : Int) : List Mm := if x.mem then [⟨⟨[x.p0.tmod n], some 1, some false⟩, ⟨[x.p1.tmod n, x.p2.tmod n], some 2, some false⟩, x.p3.tmod n⟩] else []
def ofC (x : CD) : Bd :=
 ⟨⟨Hr x, none, none⟩, ⟨(List.range' 0 (Cc x).length).map q1a, none, none⟩, ⟨qBI x (Cc x).length, some (if x.mem then 1 else 0), some (!x.mem)⟩, ⟨(x.outs.l.take 3).map (fun b => b.tmod (Cc x).length) ++ [((Cc x).length : Int) - 1], none, none⟩⟩
structure q8J (x : CD) : Prop where
 i : Byt x.i
 f : Byt x.f
 d0 : Byt x.d0
 d1 : Byt x.d1
 p0 : Byt x.p0
 p1 : Byt x.p1
 p2 : Byt x.p2
 p3 : Byt x.p3
 gates : ∀ g ∈ x.gates.l, qCc g
 outs : ∀ b ∈ x.outs.l, Byt b
theorem q2N {bus : Bool} : ∀ {l : List Gd} {ns : List Nd}, (Uk bus l ns).length = ns.length + l.length
 | [], ns => rfl
 | g :: l, ns => by simp only [Uk]; rw [q2N]; simp; omega
set_option maxHeartbeats 4000000 in
theorem qJv (x : CD) (hx : q8J x) : Ah Tryz.prog Γ 11 [.agg (Oa x)] (.agg (tC (ofC x))) := by
 refine B7 qAU rfl ?_
 have m4 : 0 ≤ x.i.tmod 4 ∧ x.i.tmod 4 < 4 := D4 (n := 4) hx.i.1 (by omega)
 have m3 : 0 ≤ x.f.tmod 3 ∧ x.f.tmod 3 < 3 := D4 (n := 3) hx.f.1 (by omega)
 have l1 : (Jc x).length = (x.i.tmod 4 + 1).toNat := by simp [Jc]
 have l2 : (Gj x).length = (x.i.tmod 4 + 1).toNat + (x.f.tmod 3).toNat := by simp [Gj, Jc]
 have l3 : (Gj x).length ≤ (Fh x).length ∧ (Fh x).length ≤ 8 := by unfold Fh; split <;> simp <;> omega
 have l4 : (Cc x).length = (Fh x).length + min 8 x.gates.l.length := by unfold Cc; rw [q2N]; simp
 have l5 : (Hr x).length = (Cc x).length := q8I
 have e1 := fun Q h0 => qBw (Γ := Γ) (Q := Q) x hx.i (Jc x) h0 (x.i.tmod 4 + 1).toNat 0 [] (by omega) rfl (by simp; omega)
 have e2 := fun Q h0 => qG6 (Γ := Γ) (Q := Q) x hx.f (Jc x).length (Gj x) h0 (x.f.tmod 3).toNat 0 (Jc x) (by omega) rfl (by omega)
 have e3 := fun Q h0 => qDn (Γ := Γ) (Q := Q) x hx.gates (Jc x).length (x.f.tmod 3) (Cc x) h0 (min x.gates.l.length 8) 0 (Fh x) (by omega) rfl (by omega) (by omega)
 have e4 := fun Q h0 => qG7 (Γ := Γ) (Q := Q) x hx.d0 hx.d1 (Jc x).length (x.f.tmod 3).toNat (Cc x).length (by omega) (by omega) (by omega) (Hr x) h0 (x.f.tmod 3).toNat 0 (Cc x) (by omega) rfl rfl
 have e5 := fun Q m h0 => qDo (Γ := Γ) (Q := Q) x (Cc x).length (by omega) (Hr x) m _ h0 (Cc x).length 0 [] (by omega) rfl rfl
 have e6 := fun Q nms m h0 => qG8 (Γ := Γ) (Q := Q) x hx.outs (Cc x).length (by omega) (Hr x) nms m _ h0 (min x.outs.l.length 3) 0 [] (by omega) rfl rfl
 have hc : ((x.f.tmod 3).toNat : Int) = x.f.tmod 3 := by omega
 rw [hc] at e4
 have hk1 := fun {s : Nat} {e : List (List T)} {n : Nat} (h : e.length ≤ n) => List.take_of_length_le h
 have a33 : ∀ {os : List Int}, Aj tI os ++ [[tI (((Cc x).length : Int) - 1)]] = Aj tI (os ++ [((Cc x).length : Int) - 1]) := D2
 have hw1 : E2 1 [[tI (((Cc x).length : Int) - 1)]] := by intro e he; simp at he; subst he; rfl
 have hol : ((x.outs.l.take 3).map (fun b => b.tmod ((Cc x).length : Int))).length = min 3 x.outs.l.length := by simp
 have hnl : ((List.range' 0 (Cc x).length).map q1a).length = (Cc x).length := by simp
 simp only [List.nil_append, List.drop_zero] at e5 e6
 generalize hN : Cc x = N4 at *
 generalize hO : (x.outs.l.take 3).map (fun b => b.tmod (N4.length : Int)) = O at *
 generalize hNm : (List.range' 0 N4.length).map q1a = Nm at *
 simp (config := { maxSteps := 2000000 }) [q5O, Oa]
 refine e1 _ ?_
 simp (config := { maxSteps := 2000000 }) (disch := omega) [Oa, Uj, A9, Bm, Ac]
 refine e2 _ ?_
 cases hm : x.mem
 ·have h3 : Fh x = Gj x := by simp [Fh, hm]
  rw [h3] at e3 l3 l4
  simp only [Oa, Uj, hm] at e3 e4 e5 e6
  simp (config := { maxSteps := 2000000 }) (disch := omega) [Oa, Uj, A9, Bm, Ac, A5, q3V, Bi, A8, hm]
  refine e3 _ ?_
  simp (config := { maxSteps := 2000000 }) (disch := omega) [Oa, Uj, A9, Bm, Ac, A5, q3V, Bi, A8, hm]
  refine e4 _ ?_
  simp (config := { maxSteps := 2000000 }) (disch := omega) [Oa, Uj, A9, Bm, Ac, A5, q3V, Bi, A8, hm]
  refine e5 _ _ ?_
  simp (config := { maxSteps := 2000000 }) (disch := omega) [Oa, Uj, A9, Bm, Ac, A5, q3V, Bi, A8, hm]
  refine e6 _ _ _ ?_
  have ht : (Aj tI O).take O.length = Aj tI O := List.take_of_length_le (by simp [Aj])
  simp (config := { maxSteps := 2000000 }) (disch := omega) [Oa, Uj, A9, Bm, Ac, A5, q3V, Bi, A8, hm, ht, hw1, a33, Hq, Am, q3H]
  have ht2 : (Aj tI (O ++ [(N4.length : Int) - 1])).take (O.length + 1) = Aj tI (O ++ [(N4.length : Int) - 1]) := List.take_of_length_le (by simp [Aj])
  refine ⟨by omega, ?_⟩
  rw [ht2]
  simp [tC, ofC, qBI, hm, Ab, Ad, Ag, Av, hN, hO, hNm, B1]
 ·have h3 : Fh x = Gj x ++ [q6M 0, q6M 1] := by simp [Fh, hm]
  have l3' : (Fh x).length = (Gj x).length + 2 := by rw [h3]; simp
  have q : B1 E0 (Gj x) ++ [[tK 15, .sl [] (some 0) (some true), tI 0, tI 0], [tK 15, .sl [] (some 0) (some true), tI 0, tI 1]] = B1 E0 (Fh x) := by rw [h3]; simp [B1, q6M, E0, Av, Aj]
  have hw4 : E2 4 [[tK 15, .sl [] (some 0) (some true), tI 0, tI 0], [tK 15, .sl [] (some 0) (some true), tI 0, tI 1]] := by intro e he; simp at he; rcases he with rfl | rfl <;> rfl
  have ht0 : (B1 E0 (Gj x)).take (Gj x).length = B1 E0 (Gj x) := List.take_of_length_le (by simp [B1])
  have ht : (Aj tI O).take O.length = Aj tI O := List.take_of_length_le (by simp [Aj])
  have hn0 : ¬ (N4.length : Int) = 0 := by omega
  have hn0' : ¬ N4 = [] := fun e => by rw [e] at l4; simp at l4; omega
  obtain ⟨b00, b01⟩ := hx.p0
  obtain ⟨b10, b11⟩ := hx.p1
  obtain ⟨b20, b21⟩ := hx.p2
  obtain ⟨b30, b31⟩ := hx.p3
  simp only [Oa, Uj, hm] at e3 e4 e5 e6
  simp (config := { maxSteps := 2000000 }) (disch := omega) [Oa, Uj, A9, Bm, Ac, A5, Bi, A8, hm, ht, ht0, hw1, hw4, q, hn0, hn0', a33, Hq, Am, q3H]
  refine ⟨by omega, ?_⟩
  rw [← l3']
  refine e3 _ ?_
  simp (config := { maxSteps := 2000000 }) (disch := omega) [Oa, Uj, A9, Bm, Ac, A5, Bi, A8, hm, ht, ht0, hw1, hw4, q, hn0, hn0', a33, Hq, Am, q3H]
  refine e4 _ ?_
  simp (config := { maxSteps := 2000000 }) (disch := omega) [Oa, Uj, A9, Bm, Ac, A5, Bi, A8, hm, ht, ht0, hw1, hw4, q, hn0, hn0', a33, Hq, Am, q3H]
  refine e5 _ _ ?_
  simp (config := { maxSteps := 2000000 }) (disch := omega) [Oa, Uj, A9, Bm, Ac, A5, Bi, A8, hm, ht, ht0, hw1, hw4, q, hn0, hn0', a33, Hq, Am, q3H]
  refine e6 _ _ _ ?_
  simp (config := { maxSteps := 2000000 }) (disch := omega) [Oa, Uj, A9, Bm, Ac, A5, Bi, A8, hm, ht, ht0, hw1, hw4, q, hn0, hn0', a33, Hq, Am, q3H]
  have ht2 : (Aj tI (O ++ [(N4.length : Int) - 1])).take (O.length + 1) = Aj tI (O ++ [(N4.length : Int) - 1]) := List.take_of_length_le (by simp [Aj])
  refine ⟨by omega, ?_⟩
  rw [ht2]
  simp [tC, ofC, qBI, hm, Ab, Ad, Ag, Av, hN, hO, hNm, B1, Ug, Aj]
def q6N (x : Nd) : Prop := (0 ≤ x.k ∧ x.k ≤ 255) ∧ x.inn.l.length ≤ 1000000000
theorem qI7 {bus : Bool} {g : Gd} {a b d : Int} {t : List Int} (hg : qCc g) : q6N (qDm bus g a b d t) := by
 have m13 : 0 ≤ g.k.tmod 13 ∧ g.k.tmod 13 < 13 := D4 (n := 13) hg.1.1 (by omega)
 have m9 : 0 ≤ g.k.tmod 9 ∧ g.k.tmod 9 < 9 := D4 (n := 9) hg.1.1 (by omega)
 have ma : 0 ≤ g.a.tmod 2 ∧ g.a.tmod 2 < 2 := D4 (n := 2) hg.2.1.1 (by omega)
 have hk : 0 ≤ (if bus then g.k.tmod 13 else g.k.tmod 9) ∧ (if bus then g.k.tmod 13 else g.k.tmod 9) < 13 := by cases bus <;> simp <;> omega
 unfold qDm
 simp only
 generalize (if bus = true then g.k.tmod 13 else g.k.tmod 9) = kk at *
 unfold q6N
 split
 ·refine ⟨⟨by simp; omega, by simp; omega⟩, ?_⟩
  simp only; split <;> simp
 split
 ·simp
 split
 ·simp
 split
 ·simp
 split
 ·simp only; split <;> simp
 split
 ·simp; omega
 ·simp
theorem qBx {bus : Bool} : ∀ {l : List Gd} {ns : List Nd}, (∀ g ∈ l, qCc g) → (∀ x ∈ ns, q6N x) → ∀ x ∈ Uk bus l ns, q6N x
 | [], ns, _, h => h
 | g :: l, ns, hg, h => by
  simp only [Uk]
  refine qBx (fun y hy => hg y (List.mem_cons_of_mem _ hy)) fun y hy => ?_
  rcases List.mem_append.1 hy with hy | hy
  ·exact h y hy
  ·simp at hy; subst hy; exact qI7 (hg g List.mem_cons_self)
theorem qI8 {ns : List Nd} {j : Nat} {v : Int} (h : ∀ x ∈ ns, q6N x) : ∀ x ∈ Xb ns j v, q6N x := by
 intro x hx
 unfold Xb at hx
 rcases List.mem_or_eq_of_mem_set hx with hx | rfl
 ·exact h x hx
 ·refine ⟨?_, by simp⟩
  simp only [List.getD_eq_getElem?_getD]
  by_cases hj : j < ns.length
  ·simp only [List.getElem?_eq_getElem hj, Option.getD_some]
   exact (h _ (List.getElem_mem hj)).1
  ·simp [List.getElem?_eq_none (Nat.le_of_not_lt hj), Nd.d]
theorem qDp {c : CD} {f : Nat} : ∀ {k i : Nat} {ns : List Nd}, (∀ x ∈ ns, q6N x) → ∀ x ∈ q3i c f k i ns, q6N x
 | 0, _, _, h => h
 | k + 1, i, ns, h => by simp only [q3i]; exact qDp (qI8 h)
theorem qH8 {x : CD} (hx : q8J x) : ∀ n ∈ Hr x, q6N n := by
 have h1 : ∀ n ∈ Jc x, q6N n := fun n hn => by rw [(List.mem_replicate.1 hn).2]; simp [q6N, q9L]
 have h2 : ∀ n ∈ Gj x, q6N n := fun n hn => by
  rcases List.mem_append.1 hn with hn | hn
  ·exact h1 n hn
  ·rw [(List.mem_replicate.1 hn).2]; simp [q6N, q8H]
 have h3 : ∀ n ∈ Fh x, q6N n := by
  unfold Fh
  split
  ·intro n hn
   rcases List.mem_append.1 hn with hn | hn
   ·exact h2 n hn
   ·simp at hn; rcases hn with rfl | rfl <;> simp [q6N, q6M]
  ·exact h2
 exact qDp (qBx (fun g hg => hx.gates g (List.mem_of_mem_take hg)) h3)
theorem q6O {x : CD} (hx : q8J x) : 1 ≤ (Cc x).length ∧ (Cc x).length ≤ 16 := by
 have m4 : 0 ≤ x.i.tmod 4 ∧ x.i.tmod 4 < 4 := D4 (n := 4) hx.i.1 (by omega)
 have m3 : 0 ≤ x.f.tmod 3 ∧ x.f.tmod 3 < 3 := D4 (n := 3) hx.f.1 (by omega)
 have l2 : (Gj x).length = (x.i.tmod 4 + 1).toNat + (x.f.tmod 3).toNat := by simp [Gj, Jc]
 have l3 : (Gj x).length ≤ (Fh x).length ∧ (Fh x).length ≤ 8 := by unfold Fh; split <;> simp <;> omega
 have l4 : (Cc x).length = (Fh x).length + min 8 x.gates.l.length := by unfold Cc; rw [q2N]; simp
 omega
theorem q6P {x : CD} (hx : q8J x) : (Hr x).length = (Cc x).length := q8I
theorem qI9 {x : CD} (hx : q8J x) : COk (ofC x) := by
 have l := q6O hx
 have l5 := q6P hx
 have hn := qH8 hx
 refine ⟨⟨?_, ?_, ?_, ?_, fun n h => (hn n h).1, fun n h => (hn n h).2, ?_⟩, ?_⟩
 ·simp only [ofC]; omega
 ·simp [ofC]; omega
 ·simp only [ofC, qBI]; split <;> simp
 ·simp [ofC]; omega
 ·intro m hm
  simp only [ofC, qBI] at hm
  split at hm
  ·simp at hm; subst hm; simp
  ·cases hm
 ·intro s hs b hb
  simp only [ofC] at hs
  obtain ⟨i, hi, rfl⟩ := List.mem_map.1 hs
  have := (List.mem_range'_1.1 hi).2
  have h1 : i / 10 < 10 := by omega
  have h2 : i % 10 < 10 := by omega
  have key : ∀ q : Nat, q < 10 → UInt8.ofNat (48 + q) < 128 := by decide
  simp only [q1a, List.mem_cons, List.not_mem_nil, or_false] at hb
  rcases hb with rfl | rfl | rfl
  ·decide
  ·exact key _ h1
  ·exact key _ h2
end Go.Lg
namespace Go.Lg
open Go Go.Proofs Go.Proofs.YthgiocdefejbiaaGreatDoor
def G0 (g : Nat) : Option (List T) := if g = 0 then some qGx else none
theorem qOe : GOk G0 := rfl
theorem qNf : Tryz.prog.globalNamed "probecard/logic.fanins" = some 0 := by kernel_rfl
theorem qLy : (Tryz.prog.globals[0]?).map (·.type) = some 200 := by kernel_rfl
theorem qLz : Tryz.prog.cellsOf 3 = 1 := by kernel_rfl
theorem qIA : Tryz.prog.cellsOf 4 = 1 := by kernel_rfl
theorem q3j : Tryz.prog.cellsOf 5 = 1 := by kernel_rfl
theorem qG9 : Tryz.prog.cellsOf 22 = 2 := by kernel_rfl
theorem qGA : Tryz.prog.cellsOf 23 = 4 := by kernel_rfl
theorem qJw : Tryz.prog.cellsOf 24 = 1 := by kernel_rfl
theorem q9l : Tryz.prog.cellsOf 25 = 1 := by kernel_rfl
theorem qJx : Tryz.prog.cellsOf 27 = 12 := by kernel_rfl
theorem qDq : Tryz.prog.cellsOf 104 = 3 := by kernel_rfl
theorem qDr : Tryz.prog.cellsOf 106 = 4 := by kernel_rfl
theorem qIB : Tryz.prog.cellsOf 199 = 2 := by kernel_rfl
theorem qIC : Tryz.prog.cellsOf 200 = 32 := by kernel_rfl
theorem qH9 {W : World} (h : laidMet Tryz.prog [("probecard/logic.fanins", Rows.laid_probecard_logic_fanins)] W) : ∀ j, j < 32 → W.cell? ⟨0, j, none⟩ = (Uh.flatMap fun x => [Value.int .i64 x.1, Value.int .i64 x.2])[j]? := by
 obtain ⟨ps, ⟨g', t', cs, fuel, p, q, hg', ht', hvar, hd, _, _⟩, _⟩ := h
 obtain rfl := Option.some.inj (qNf.symm.trans hg')
 obtain rfl := Option.some.inj (qLy.symm.trans ht')
 have hc := qF5 (l := Uh) Tryz.underlying200 Tryz.underlying199 Tryz.underlying3 qLz qIB qIC hd
 intro j hj
 have := World.var?_cell qNf hvar j
 rw [this, ← hc]
 simp
theorem qM0 {W : World} (h : laidMet Tryz.prog [("probecard/logic.fanins", Rows.laid_probecard_logic_fanins)] W) : Gl G0 W (Old W) := by
 have hc := qH9 h
 intro g cs hg
 unfold G0 at hg
 split at hg
 case isFalse => cases hg
 rename_i h0; subst h0
 simp only [Option.some.injEq] at hg
 subst hg
 have hlen : (Uh.flatMap fun x => [Value.int .i64 x.1, Value.int .i64 x.2]).length = 32 := rfl
 have hfc : qGx = (Uh.flatMap fun x => [Value.int .i64 x.1, Value.int .i64 x.2]).map T.v := rfl
 have hfl : qGx.length = 32 := rfl
 refine .ip qGx 0 0 0 (fun j => (Uh.flatMap fun x => [Value.int .i64 x.1, Value.int .i64 x.2])[j]?.getD .nilFunc) ?_ ?_ ?_ ?_
 ·intro j hj
  rw [Nat.zero_add, hc j (by omega)]
  rw [List.getElem?_eq_getElem (by omega)]; rfl
 ·intro j t ht
  rw [hfc, List.getElem?_map, Option.map_eq_some_iff] at ht
  obtain ⟨v, hv, rfl⟩ := ht
  simp only [hv, Option.getD_some]
  exact .v v
 ·intro j t ht
  rw [hfc, List.getElem?_map, Option.map_eq_some_iff] at ht
  obtain ⟨v, hv, rfl⟩ := ht
  have hm := List.mem_of_getElem? hv
  obtain ⟨x, _, hx⟩ := List.mem_flatMap.1 hm
  simp at hx
  rcases hx with rfl | rfl <;> rfl
 ·have := hc 0 (by omega)
  rw [List.getElem?_eq_getElem (by omega)] at this
  exact qG2 this
theorem qM1 {n : Int} (h : (Lit.int .u8 n).wf = true) : Byt n := by
 simp [Lit.wf, IntKind.min, IntKind.max, IntKind.signed, IntKind.bits] at h
 exact ⟨h.1, by omega⟩
theorem qDs : Rd Tryz.prog 5 fun ts => ∃ n, ts = [tK n] ∧ Byt n := (qLs Tryz.underlying5).mono fun ts ⟨n, h, hw⟩ => ⟨n, h, qM1 hw⟩
theorem q9m {α : Type} {f : α → List T} {Q : α → Prop} : ∀ {es : List (List T)}, (∀ x ∈ es, ∃ a, x = f a ∧ Q a) → ∃ l : List α, es = l.map f ∧ ∀ a ∈ l, Q a
 | [], _ => ⟨[], rfl, by simp⟩
 | e :: es, h => by
  obtain ⟨a, ha, hq⟩ := h e List.mem_cons_self
  obtain ⟨l, hl, hql⟩ := q9m fun x hx => h x (List.mem_cons_of_mem _ hx)
  exact ⟨a :: l, by rw [ha, hl]; rfl, fun b hb => by rcases List.mem_cons.1 hb with rfl | hb; exact hq; exact hql b hb⟩
theorem qOY : Rd Tryz.prog 106 fun ts => ∃ g, ts = tGd g ∧ qCc g := by
 refine (q1S (l := [(1, fun ts => ∃ n, ts = [tK n] ∧ Byt n), (3, q8r (List.replicate 3 (1, fun ts => ∃ n, ts = [tK n] ∧ Byt n)))]) Tryz.underlying106 qDr (.cons rfl q3j qDs (.cons rfl qDq (qAJ Tryz.underlying104 q3j qDq qDs) (.nil _)))).mono fun ts h => ?_
 obtain ⟨_, _, rfl, ⟨k, rfl, hk⟩, _, _, rfl, ⟨_, _, rfl, ⟨a, rfl, ha⟩, _, _, rfl, ⟨b, rfl, hb⟩, _, _, rfl, ⟨d, rfl, hd⟩, rfl⟩, rfl⟩ := h
 exact ⟨⟨k, a, b, d⟩, rfl, hk, ha, hb, hd⟩
theorem qOZ : Rd Tryz.prog 27 fun ts => ∃ x, ts = Oa x ∧ q8J x := by
 refine (q1S (l := [(1, fun ts => ∃ n, ts = [tK n] ∧ Byt n), (1, fun ts => ∃ n, ts = [tK n] ∧ Byt n), (2, q8r (List.replicate 2 (1, fun ts => ∃ n, ts = [tK n] ∧ Byt n))), (1, fun ts => ∃ b, ts = [tB b]), (1, fun ts => ∃ b, ts = [tB b]), (4, q8r (List.replicate 4 (1, fun ts => ∃ n, ts = [tK n] ∧ Byt n))), (1, _), (1, _)]) Tryz.underlying27 qJx
  (.cons rfl q3j qDs (.cons rfl q3j qDs (.cons rfl qG9 (qAJ Tryz.underlying22 q3j qG9 qDs) (.cons rfl qIA (qG3 Tryz.underlying4) (.cons rfl qIA (qG3 Tryz.underlying4) (.cons rfl qGA (qAJ Tryz.underlying23 q3j qGA qDs)
   (.cons rfl qJw (qAI Tryz.underlying24 qDr (by decide) qOY) (.cons rfl q9l (qAI Tryz.underlying25 q3j (by decide) qDs) (.nil _)))))))))).mono fun ts h => ?_
 obtain ⟨_, _, rfl, ⟨i, rfl, hi⟩, _, _, rfl, ⟨f, rfl, hf⟩, _, _, rfl, ⟨_, _, rfl, ⟨d0, rfl, hd0⟩, _, _, rfl, ⟨d1, rfl, hd1⟩, rfl⟩, _, _, rfl, ⟨bus, rfl⟩, _, _, rfl, ⟨mem, rfl⟩, _, _, rfl,
  ⟨_, _, rfl, ⟨p0, rfl, h0⟩, _, _, rfl, ⟨p1, rfl, h1⟩, _, _, rfl, ⟨p2, rfl, h2⟩, _, _, rfl, ⟨p3, rfl, h3⟩, rfl⟩, _, _, rfl, ⟨es, cap, nl, rfl, _, hes⟩, _, _, rfl, ⟨os, cap2, nl2, rfl, _, hos⟩, rfl⟩ := h
 obtain ⟨gs, rfl, hgs⟩ := q9m (f := tGd) (Q := qCc) fun x hx => (hes x hx).1
 obtain ⟨ol, rfl, hol⟩ := q9m (f := fun n => [tK n]) (Q := Byt) fun x hx => (hos x hx).1
 exact ⟨⟨i, f, d0, d1, bus, mem, p0, p1, p2, p3, ⟨gs, cap, nl⟩, ⟨ol, cap2, nl2⟩⟩, rfl, ⟨hi, hf, hd0, hd1, h0, h1, h2, h3, hgs, hol⟩⟩
end Go.Lg
namespace Go.Proofs.YthgiocdefejbiaaGreatDoor
open Go Go.Lg Go.ChangeShapes Go.WideShapes Go.ChangeAt Go.RowKit
theorem own : ownKnob Tryz.prog.godebug = none := by kernel_rfl
theorem qON : laidOutB Tryz.prog = true := by kernel_rfl
theorem qOf {W : World} (h : laidMetH Tryz.prog [("probecard/logic.fanins", Rows.laid_probecard_logic_fanins)] W) : Gl G0 W (Old W) := by
 rw [MakeChecks.laidMetH_plain _ _ _ (by kernel_rfl)] at h
 exact qM0 h
theorem qOO {H : Type} {enc : TypeId × Value → H} {W : World} {base : Nat} {v : Value} {d : DataW H} {p : List MemPlace} (hval : Value.okWide Tryz.prog W .any base 27 v) (h : DataW.Trod enc Tryz.prog W 0 (fun _ => true) true 27 v d p) : ∃ x, q8J x ∧ TR W (Old W) (.agg (Oa x)) v := by
 simp only [Value.okWide, Tryz.underlying27] at hval
 obtain ⟨cs, rfl, _, _⟩ := hval
 obtain ⟨fuel, hf⟩ := h
 obtain ⟨ts, ⟨x, rfl, hx⟩, htr, ho⟩ := qOZ H enc W true fuel _ _ hf
 exact ⟨x, hx, qI0 htr ho⟩
noncomputable def qMw (os : Os) : World :=
 { World.holding Tryz.prog os ⟨#[], #[], []⟩ with heap := (World.holding Tryz.prog os ⟨#[], #[], []⟩).heap.modify 0 fun
   | .cells _ t frozen => .cells (Uh.flatMap fun x => [Value.int .i64 x.1, Value.int .i64 x.2]).toArray t frozen
   | o => o }
def c0 : Value := .agg #[.int .u8 0, .int .u8 0, .int .u8 0, .int .u8 0, .bool false, .bool false, .int .u8 0, .int .u8 0, .int .u8 0, .int .u8 0, .slice none 0 0, .slice none 0 0]
def d0 {H : Type} : DataW H := .agg [.lit (.int .u8 0), .lit (.int .u8 0), .agg [.lit (.int .u8 0), .lit (.int .u8 0)], .lit (.bool false), .lit (.bool false), .agg [.lit (.int .u8 0), .lit (.int .u8 0), .lit (.int .u8 0), .lit (.int .u8 0)], .nil, .nil]
end Go.Proofs.YthgiocdefejbiaaGreatDoor
namespace Go.Lg
open Go Go.Proofs
def Dk (v : Int) : Int := if v < 2 then v else 2
def Du (v : Int) : Int := if 3 < v then 2 else v
def Rh (v : Int) : Bool := decide (v ≤ 1)
def qID (a b : Int) : Bool := decide (Du a = Du b ∨ Du a = 2)
def Oh (v : Int) : Int := if v ≤ 1 then 1 - v else 2
def La (low high : Int) : Int → List Int → Int
 | out, [] => out
 | out, v :: l => if v = low then low else if v ≠ high then La low high 2 l else La low high out l
def qFG (a b : Int) : Int := if a = b then 0 else 1
def Y8 : Int → List Int → Int
 | out, [] => out
 | out, v :: l => if v ≤ 1 then Y8 (qFG out v) l else 2
def qBJ (s a b : Int) : Int := if s = 0 then Dk a else if s = 1 then Dk b else if a = b then Dk a else 2
def qCd (e d : Int) : Int := if e = 0 then 3 else if e = 1 then Dk d else 2
def q3k (l : List Int) : Bool := l.contains 0 && l.contains 1
def qDt (v : Int) : Bool := decide (Du v = 2)
def qDu (v : Int) : Bool := decide (v ≠ 3)
def q8K (l : List Int) : Int := match l.findIdx? qDu with
 | none => 3
 | some i => if q3k l = true ∨ l.any qDt = true then 2 else l.getD i 0
def Dy (k : Int) (l : List Int) : Int :=
 if k = 1 then 0 else if k = 2 then 1 else if k = 3 then Dk (l.getD 0 0) else if k = 4 then Oh (l.getD 0 0) else
 if k = 5 then La 0 1 1 l else if k = 6 then Oh (La 0 1 1 l) else if k = 7 then La 1 0 0 l else if k = 8 then Oh (La 1 0 0 l) else
 if k = 9 then Y8 0 l else if k = 10 then Oh (Y8 0 l) else if k = 11 then qBJ (l.getD 0 0) (l.getD 1 0) (l.getD 2 0) else
 if k = 12 then qCd (l.getD 0 0) (l.getD 1 0) else if k = 13 then q8K l else 2
def Ht (k : Int) (n : Nat) : Bool := decide ((n : Int) < (O5 k).1 ∨ (O5 k).2 < (n : Int))
def Tz (k : Int) (l : List Int) : Int := if Ht k l.length = true then 2 else Dy k l
theorem qHA (R : Int → Int → Prop) {k : Int} {l m : List Int} (h1 : k = 1 → R (0) (0)) (h2 : k = 2 → R (1) (1)) (h3 : k = 3 → R (Dk (l.getD 0 0)) (Dk (m.getD 0 0))) (h4 : k = 4 → R (Oh (l.getD 0 0)) (Oh (m.getD 0 0))) (h5 : k = 5 → R (La 0 1 1 l) (La 0 1 1 m)) (h6 : k = 6 → R (Oh (La 0 1 1 l)) (Oh (La 0 1 1 m))) (h7 : k = 7 → R (La 1 0 0 l) (La 1 0 0 m)) (h8 : k = 8 → R (Oh (La 1 0 0 l)) (Oh (La 1 0 0 m))) (h9 : k = 9 → R (Y8 0 l) (Y8 0 m)) (h10 : k = 10 → R (Oh (Y8 0 l)) (Oh (Y8 0 m))) (h11 : k = 11 → R (qBJ (l.getD 0 0) (l.getD 1 0) (l.getD 2 0)) (qBJ (m.getD 0 0) (m.getD 1 0) (m.getD 2 0))) (h12 : k = 12 → R (qCd (l.getD 0 0) (l.getD 1 0)) (qCd (m.getD 0 0) (m.getD 1 0))) (h13 : k = 13 → R (q8K l) (q8K m)) (h0 : k < 1 ∨ 13 < k → R 2 2) : R (Dy k l) (Dy k m) := by
 by_cases e1 : k = 1
 ·subst e1; exact h1 rfl
 by_cases e2 : k = 2
 ·subst e2; exact h2 rfl
 by_cases e3 : k = 3
 ·subst e3; exact h3 rfl
 by_cases e4 : k = 4
 ·subst e4; exact h4 rfl
 by_cases e5 : k = 5
 ·subst e5; exact h5 rfl
 by_cases e6 : k = 6
 ·subst e6; exact h6 rfl
 by_cases e7 : k = 7
 ·subst e7; exact h7 rfl
 by_cases e8 : k = 8
 ·subst e8; exact h8 rfl
 by_cases e9 : k = 9
 ·subst e9; exact h9 rfl
 by_cases e10 : k = 10
 ·subst e10; exact h10 rfl
 by_cases e11 : k = 11
 ·subst e11; exact h11 rfl
 by_cases e12 : k = 12
 ·subst e12; exact h12 rfl
 by_cases e13 : k = 13
 ·subst e13; exact h13 rfl
 unfold Dy
 rw [if_neg e1, if_neg e2, if_neg e3, if_neg e4, if_neg e5, if_neg e6, if_neg e7, if_neg e8, if_neg e9, if_neg e10, if_neg e11, if_neg e12, if_neg e13]
 rw [if_neg e1, if_neg e2, if_neg e3, if_neg e4, if_neg e5, if_neg e6, if_neg e7, if_neg e8, if_neg e9, if_neg e10, if_neg e11, if_neg e12, if_neg e13]
 exact h0 (by omega)
def V4 (v : Int) : Prop := 0 ≤ v ∧ v ≤ 3
theorem q79 {v : Int} (h : V4 v) : V4 (Dk v) := by unfold Dk V4 at *; split <;> omega
theorem qCe {v : Int} (h : V4 v) : V4 (Oh v) := by unfold Oh V4 at *; split <;> omega
theorem W2 {low high : Int} : ∀ {l : List Int} {out : Int}, out = 2 ∨ out = high → La low high out l = if low ∈ l then low else if out = high ∧ ∀ v ∈ l, v = high then high else 2
 | [], out, h => by
  simp only [La, List.not_mem_nil, if_false]
  by_cases ho : out = high
  ·simp [ho]
  ·simp [ho]; omega
 | v :: l, out, h => by
  simp only [La]
  by_cases h1 : v = low
  ·subst h1; simp
  have h1' : ¬ low = v := fun e => h1 e.symm
  by_cases h2 : v = high
  ·subst h2
   rw [if_neg h1, if_neg (by simp), W2 h]
   simp [h1']
  ·rw [if_neg h1, if_pos h2, W2 (.inl rfl)]
   by_cases hl : low ∈ l
   ·simp [hl]
   ·have : ¬ (out = high ∧ ∀ u ∈ v :: l, u = high) := fun ⟨_, h⟩ => h2 (h v List.mem_cons_self)
    have hlv : ¬ low ∈ v :: l := by simp [h1', hl]
    rw [if_neg hl, if_neg hlv, if_neg this]
    split
    ·rename_i h3; exact h3.1.symm
    ·rfl
theorem qFH : ∀ {l : List Int} {out : Int}, V4 out → (∀ v ∈ l, V4 v) → V4 (Y8 out l)
 | [], out, h, _ => h
 | v :: l, out, h, hl => by
  simp only [Y8]
  split
  ·exact qFH (by unfold qFG; split <;> simp [V4]) fun u hu => hl u (List.mem_cons_of_mem _ hu)
  ·simp [V4]
theorem Ul {l : List Int} (h : ∀ v ∈ l, V4 v) (i : Nat) : V4 (l.getD i 0) := by
 rw [List.getD_eq_getElem?_getD]
 by_cases hi : i < l.length
 ·rw [List.getElem?_eq_getElem hi]; exact h _ (List.getElem_mem hi)
 ·rw [List.getElem?_eq_none (Nat.le_of_not_lt hi)]; simp [V4]
theorem qJy {k : Int} {l : List Int} (h : ∀ v ∈ l, V4 v) : V4 (Tz k l) := by
 have g := Ul h
 have d1 : V4 (La 0 1 1 l) := by rw [W2 (.inr rfl)]; split; simp [V4]; split <;> simp [V4]
 have d2 : V4 (La 1 0 0 l) := by rw [W2 (.inr rfl)]; split; simp [V4]; split <;> simp [V4]
 have x := qFH (out := 0) (by simp [V4]) h
 unfold Tz
 by_cases hw : Ht k l.length = true
 ·rw [if_pos hw]; simp [V4]
 rw [if_neg hw]
 refine qHA (fun a _ => V4 a) (l := l) (m := l) (fun _ => by simp [V4]) (fun _ => by simp [V4]) (fun _ => q79 (g 0)) (fun _ => qCe (g 0)) (fun _ => d1) (fun _ => qCe d1) (fun _ => d2) (fun _ => qCe d2) (fun _ => x) (fun _ => qCe x) (fun _ => ?_) (fun _ => ?_) (fun _ => ?_) (fun _ => by simp [V4])
 ·unfold qBJ; split
  ·exact q79 (g 1)
  split
  ·exact q79 (g 2)
  split
  ·exact q79 (g 1)
  ·simp [V4]
 ·unfold qCd; split
  ·simp [V4]
  split
  ·exact q79 (g 1)
  ·simp [V4]
 ·unfold q8K; split
  ·simp [V4]
  split
  ·simp [V4]
  ·exact g _
def Blw (a b : Int) : Prop := a = b ∨ a = 2
def qIE (l m : List Int) : Prop := l.length = m.length ∧ ∀ i, Blw (l.getD i 0) (m.getD i 0)
theorem Blw.refl (a : Int) : Blw a a := .inl rfl
theorem qIE.cons {a b : Int} {l m : List Int} (h : qIE (a :: l) (b :: m)) : Blw a b ∧ qIE l m :=
 ⟨by simpa using h.2 0, by simpa using h.1, fun i => by simpa using h.2 (i + 1)⟩
def Um (i : Nat) (r : O9) : Nat := r.countP fun p => decide (p.1 = (i : Int))
theorem qIF {i : Nat} {r q : O9} : Um i (r ++ q) = Um i r + Um i q := by simp [Um]
theorem qFI {rows : List O9} {n m i : Nat} {p : Int × Int} (hn : n < rows.length) : Um i ((Ib rows n p).getD m []) = Um i (rows.getD m []) + if m = n ∧ p.1 = (i : Int) then 1 else 0 := by
 unfold Ib
 simp only [List.getD_eq_getElem?_getD, List.getElem?_set]
 by_cases h : n = m
 ·subst h
  simp only [hn, if_true, Option.getD_some, qIF, true_and]
  congr 1
  by_cases h2 : p.1 = (i : Int) <;> simp [Um, h2]
 ·have h' : ¬ m = n := fun e => h e.symm
  simp [h, h']
theorem q8y (c : Bd) (j i m : Nat) : ∀ (l : List Int) (k : Nat) (rows : List O9), rows.length = c.nodes.l.length → (∀ p ∈ l, 0 ≤ p ∧ p < c.nodes.l.length) → (K9 c j l k rows).length = c.nodes.l.length ∧ Um i ((K9 c j l k rows).getD m []) = Um i (rows.getD m []) + if j = i then l.count (m : Int) else 0
 | [], k, rows, hl, _ => ⟨hl, by simp [K9]⟩
 | n :: l, k, rows, hl, hp => by
  have hn := hp n List.mem_cons_self
  have ho : Re c n = false := by simp [Re]; omega
  simp only [K9, ho, Bool.false_eq_true, if_false]
  obtain ⟨h1, h2⟩ := q8y c j i m l (k + 1) (Ib rows n.toNat (j, k)) (by rw [q6G]; exact hl) (fun p h => hp p (List.mem_cons_of_mem _ h))
  refine ⟨h1, ?_⟩
  rw [h2, qFI (by omega)]
  by_cases hji : j = i
  ·subst hji
   simp only [and_true, if_true, List.count_cons]
   by_cases hm : (m : Int) = n
   ·have h5 : m = n.toNat := by omega
    have h6 : (n == (m : Int)) = true := by rw [hm]; simp
    rw [if_pos h5, h6]
    simp only [if_true]; omega
   ·have h5 : ¬ m = n.toNat := by omega
    have h6 : (n == (m : Int)) = false := by simp; omega
    rw [if_neg h5, h6]
    simp only [Bool.false_eq_true, if_false]; omega
  ·have : ¬ ((j : Int) = i) := by omega
   simp [hji, this]
theorem q7A (c : Bd) (i m : Nat) : ∀ (l : List Nd) (s : Nat) (rows : List O9), rows.length = c.nodes.l.length → (∀ x ∈ l, ∀ p ∈ x.inn.l, 0 ≤ p ∧ p < c.nodes.l.length) →
  Um i ((Hi c l s rows).getD m []) = Um i (rows.getD m []) + if s ≤ i then ((l.map fun x => x.inn.l.count (m : Int)).getD (i - s) 0) else 0
 | [], s, rows, hl, _ => by simp [Hi]
 | x :: l, s, rows, hl, hp => by
  obtain ⟨h1, h2⟩ := q8y c s i m x.inn.l 0 rows hl (hp x List.mem_cons_self)
  simp only [Hi]
  rw [q7A c i m l (s + 1) _ h1 (fun y hy => hp y (List.mem_cons_of_mem _ hy)), h2]
  by_cases hsi : s = i
  ·subst hsi
   have : ¬ s + 1 ≤ s := by omega
   simp [this]
  ·by_cases hlt : s ≤ i
   ·have e : i - s = (i - (s + 1)) + 1 := by omega
    have h3 : s + 1 ≤ i := by omega
    simp [hsi, hlt, h3, e]
   ·have h3 : ¬ s + 1 ≤ i := by omega
    simp [hsi, hlt, h3]
def F4 (c : Bd) (i : Nat) : List Int := (c.nodes.l.getD i Nd.d).inn.l
theorem q8L (c : Bd) (hp : ∀ x ∈ c.nodes.l, ∀ p ∈ x.inn.l, 0 ≤ p ∧ p < c.nodes.l.length) (i m : Nat) (hi : i < c.nodes.l.length) : Um i (Gx c m) = (F4 c i).count (m : Int) := by
 unfold Gx Fe
 rw [q7A c i m c.nodes.l 0 _ (by simp) hp]
 have h0 : Um i ((List.replicate c.nodes.l.length ([] : O9)).getD m []) = 0 := by
  simp only [List.getD_eq_getElem?_getD, List.getElem?_replicate]
  split <;> rfl
 rw [h0]
 simp [F4, hi]
theorem qGB (c : Bd) {i : Nat} (hi : i < c.nodes.l.length) : (c.nodes.l.map Dt).getD i 0 = if Cd (Ap c i) then ((F4 c i).length : Int) else 0 := by
 simp [Ap, F4, Dt, hi]
theorem q8M {N M : Nat} {c : Bd} {n : Nat} : ∀ {r : O9} {s : LS}, s.left.length = N → (∀ p ∈ r, ∃ i : Nat, i < N ∧ p.1 = i) → (∀ i : Nat, i < N → s.left.getD i 0 ≤ 0 → (i : Int) ∈ s.rdy) →
  (∃ e, (r.foldl (E8 c n) s).rdy = s.rdy ++ e) ∧ (r.foldl (E8 c n) s).left.length = N ∧ (∀ i : Nat, i < N → (r.foldl (E8 c n) s).left.getD i 0 = s.left.getD i 0 - if Cd (Ap c i) then (Um i r : Int) else 0) ∧ (∀ i : Nat, i < N → (r.foldl (E8 c n) s).left.getD i 0 ≤ 0 → (i : Int) ∈ (r.foldl (E8 c n) s).rdy)
 | [], s, hl, _, hb => ⟨⟨[], by simp⟩, hl, fun i hi => by simp [Um], hb⟩
 | (p1, p2) :: r, s, hl, hr, hb => by
  obtain ⟨j, hj, he⟩ := hr (p1, p2) List.mem_cons_self
  simp only at he; subst he
  have key : (∃ e, (E8 c n s (j, p2)).rdy = s.rdy ++ e) ∧ (E8 c n s (j, p2)).left.length = N ∧ (∀ i : Nat, i < N → (E8 c n s (j, p2)).left.getD i 0 = s.left.getD i 0 - if Cd (Ap c i) then (if j = i then 1 else 0 : Int) else 0) ∧ (∀ i : Nat, i < N → (E8 c n s (j, p2)).left.getD i 0 ≤ 0 → (i : Int) ∈ (E8 c n s (j, p2)).rdy) := by
   unfold E8
   simp only [Int.toNat_natCast]
   by_cases hc : Cd (Ap c j) = true
   ·simp only [hc, if_true]
    refine ⟨?_, by simp [hl], fun i hi => ?_, fun i hi h0 => ?_⟩
    ·split
     ·exact ⟨_, rfl⟩
     ·exact ⟨[], by simp⟩
    ·rw [Ej (by omega)]
     by_cases hij : i = j
     ·subst hij; simp [hc]
     ·have : ¬ j = i := fun e => hij e.symm
      simp [hij, this]
    ·rw [Ej (by omega)] at h0
     by_cases hij : i = j
     ·subst hij
      simp only [if_true] at h0
      by_cases h1 : s.left.getD i 0 - 1 = 0
      ·rw [if_pos h1]; simp
      ·rw [if_neg h1]
       exact hb i hi (by omega)
     ·simp only [hij, if_false] at h0
      have := hb i hi h0
      split
      ·exact List.mem_append_left _ this
      ·exact this
   ·simp only [hc]
    refine ⟨⟨[], by simp⟩, hl, fun i hi => ?_, hb⟩
    by_cases hij : j = i
    ·subst hij; simp [hc]
    ·simp [hij]
  obtain ⟨⟨e1, h1⟩, h2, h3, h4⟩ := key
  obtain ⟨⟨e2, g1⟩, g2, g3, g4⟩ := q8M (M := M) (n := n) (r := r) h2 (fun q hq => hr q (List.mem_cons_of_mem _ hq)) h4
  simp only [List.foldl_cons]
  refine ⟨⟨e1 ++ e2, by rw [g1, h1, List.append_assoc]⟩, g2, fun i hi => ?_, g4⟩
  rw [g3 i hi, h3 i hi]
  by_cases hc : Cd (Ap c i) = true
  ·simp only [hc, if_true]
   have : Um i ((↑j, p2) :: r) = Um i r + if j = i then 1 else 0 := by
    by_cases hij : j = i
    ·subst hij; simp [Um]
    ·have : ¬ ((j : Int) = i) := by omega
     simp [Um, hij, this]
   rw [this]
   split <;> omega
  ·simp [hc]
structure JI (c : Bd) (d : Nat) (s : LS) : Prop where
 li : ∃ M, LI c.nodes.l.length M s
 le : d ≤ s.rdy.length
 a : ∀ i : Nat, i < c.nodes.l.length → s.left.getD i 0 = (c.nodes.l.map Dt).getD i 0 - if Cd (Ap c i) then (((s.rdy.take d).map fun x => (F4 c i).count x).sum : Int) else 0
 b : ∀ i : Nat, i < c.nodes.l.length → s.left.getD i 0 ≤ 0 → (i : Int) ∈ s.rdy
theorem JI.next {c : Bd} (hp : ∀ x ∈ c.nodes.l, ∀ p ∈ x.inn.l, 0 ≤ p ∧ p < c.nodes.l.length) {d : Nat} {s : LS} (h : JI c d s) (hd : d < s.rdy.length) : JI c (d + 1) ((Gx c (s.rdy.getD d 0).toNat).foldl (E8 c (s.rdy.getD d 0).toNat) s) := by
 obtain ⟨M, hli⟩ := h.li
 have hg : s.rdy.getD d 0 = s.rdy[d] := by simp [hd]
 rw [hg]
 obtain ⟨n, hn, he, _⟩ := hli.rd _ (List.getElem_mem hd)
 rw [he]
 simp only [Int.toNat_natCast]
 have hr : ∀ p ∈ Gx c n, ∃ i : Nat, i < c.nodes.l.length ∧ p.1 = i := by
  intro p hpp
  have hl := q0N c
  have e : Gx c n = (Fe c)[n]'(by omega) := by simp [Gx, List.getD, List.getElem?_eq_getElem (show n < (Fe c).length by omega)]
  rw [e] at hpp
  exact q6I c _ (List.getElem_mem _) p hpp
 obtain ⟨⟨e, h1⟩, h2, h3, h4⟩ := q8M (M := M) (c := c) (n := n) (r := Gx c n) hli.ll hr h.b
 refine ⟨⟨_, hli.fold hr⟩, by rw [h1]; simp; omega, fun i hi => ?_, h4⟩
 rw [h3 i hi, h.a i hi, h1]
 by_cases hc : Cd (Ap c i) = true
 ·simp only [hc, if_true]
  have ht : (s.rdy ++ e).take (d + 1) = s.rdy.take d ++ [(n : Int)] := by
   rw [List.take_append_of_le_length (by omega), List.take_add_one, List.getElem?_eq_getElem hd, he]
   rfl
  rw [ht, q8L c hp i n hi]
  simp
  omega
 ·simp [hc]
theorem qAW {c : Bd} (hp : ∀ x ∈ c.nodes.l, ∀ p ∈ x.inn.l, 0 ≤ p ∧ p < c.nodes.l.length) : ∀ (f d : Nat) (s : LS), JI c d s → c.nodes.l.length < f + d → JI c (Nw c f d s).1 (Nw c f d s).2 ∧ (Nw c f d s).2.rdy.length ≤ (Nw c f d s).1
 | 0, d, s, h, hf => by
  obtain ⟨M, hli⟩ := h.li
  have := hli.len
  exact ⟨h, by simp only [Nw]; omega⟩
 | f + 1, d, s, h, hf => by
  simp only [Nw]
  split
  ·rename_i hd
   exact qAW hp f (d + 1) _ (h.next hp hd) (by omega)
  ·exact ⟨h, by simp only; omega⟩
theorem qBy : ∀ (L R : List Int), (∀ p ∈ L, p ∈ R) → L.length ≤ (R.map fun x => L.count x).sum
 | [], R, _ => by simp
 | p :: L, R, h => by
  have ih := qBy L R fun q hq => h q (List.mem_cons_of_mem _ hq)
  have hpR := h p List.mem_cons_self
  have key : ∀ R : List Int, (R.map fun x => (p :: L).count x).sum = (R.map fun x => L.count x).sum + R.count p := by
   intro R
   induction R with
   | nil => rfl
   | cons a R ihR =>
    simp only [List.map_cons, List.sum_cons]
    rw [ihR, List.count_cons, List.count_cons]
    by_cases hpa : p = a
    ·subst hpa; simp only [BEq.rfl, if_true]; omega
    ·have h1 : (p == a) = false := by simpa using hpa
     have h2 : (a == p) = false := by simpa using fun e => hpa e.symm
     rw [h1, h2]; simp only [Bool.false_eq_true, if_false]; omega
  rw [key]
  have := List.count_pos_iff.2 hpR
  simp only [List.length_cons]; omega
theorem q3l : ∀ (l : List Nd) (s i : Nat), s ≤ i → i < s + l.length → (l.map Dt).getD (i - s) 0 ≤ 0 → (i : Int) ∈ Dw l s
 | [], s, i, h1, h2, _ => by simp at h2; omega
 | x :: l, s, i, h1, h2, h3 => by
  simp only [List.length_cons] at h2
  by_cases hsi : i = s
  ·subst hsi
   simp only [Nat.sub_self, List.map_cons, List.getD_cons_zero] at h3
   have h4 : 0 ≤ Dt x := by unfold Dt; split <;> omega
   have h5 : Dt x = 0 := by omega
   simp [Dw, h5]
  ·have e : i - s = (i - (s + 1)) + 1 := by omega
   rw [e, List.map_cons, List.getD_cons_succ] at h3
   have := q3l l (s + 1) i (by omega) (by omega) h3
   simp only [Dw]
   split
   ·exact List.mem_cons_of_mem _ this
   ·exact this
theorem qDv (c : Bd) (h16 : ∀ x ∈ c.nodes.l, x.inn.l.length ≤ 16) (hp : ∀ x ∈ c.nodes.l, ∀ p ∈ x.inn.l, 0 ≤ p ∧ p < c.nodes.l.length) (ht : ∀ i : Nat, i < c.nodes.l.length → Cd (Ap c i) = true → ∀ p ∈ F4 c i, p < i) : ¬ (Pj c).1 < c.nodes.l.length := by
 have h0 : JI c 0 (Ic c) := by
  refine ⟨⟨0, ?_⟩, by simp, fun i hi => ?_, fun i hi h => ?_⟩
  ·obtain ⟨r1, r2⟩ := q6J c.nodes.l 0
   refine ⟨by simp [Ic], by simp [Ic], ?_, r2, fun i => ?_, fun i => ?_⟩
   ·intro j hj
    obtain ⟨a, _, h2, h3, h4⟩ := r1 j hj
    exact ⟨a, by omega, h3, by simp only [Ic]; simp only [Nat.sub_zero] at h4; omega⟩
   ·simp only [Ic, List.getD_eq_getElem?_getD, List.getElem?_replicate]
    split <;> simp
   ·simp only [Ic]
    by_cases hi : i < c.nodes.l.length
    ·have := h16 _ (List.getElem_mem hi)
     simp [hi, Dt]
     split <;> omega
    ·simp [hi]
  ·simp [Ic]
  ·simp only [Ic] at h
   exact q3l c.nodes.l 0 i (by omega) (by omega) (by simpa using h)
 obtain ⟨hJ, hle⟩ := qAW hp (c.nodes.l.length + 1) 0 (Ic c) h0 (by omega)
 show ¬ (Nw c (c.nodes.l.length + 1) 0 (Ic c)).1 < c.nodes.l.length
 generalize (Nw c (c.nodes.l.length + 1) 0 (Ic c)).1 = d at *
 generalize (Nw c (c.nodes.l.length + 1) 0 (Ic c)).2 = s at *
 have all : ∀ i : Nat, i < c.nodes.l.length → (i : Int) ∈ s.rdy := by
  intro i
  induction i using Nat.strongRecOn with
  | ind i ih =>
   intro hi
   refine hJ.b i hi ?_
   rw [hJ.a i hi, qGB c hi]
   by_cases hc : Cd (Ap c i) = true
   ·simp only [hc, if_true]
    rw [List.take_of_length_le hle]
    have hm : F4 c i ∈ c.nodes.l.map fun x => x.inn.l := by
     simp only [F4, List.getD_eq_getElem?_getD, List.getElem?_eq_getElem hi, Option.getD_some]
     exact List.mem_map_of_mem (List.getElem_mem hi)
    obtain ⟨y, hy, hye⟩ := List.mem_map.1 hm
    have := qBy (F4 c i) s.rdy fun p hpp => by
     have h1 := ht i hi hc p hpp
     have h2 := (hp y hy p (by rw [hye]; exact hpp)).1
     obtain ⟨j, rfl⟩ : ∃ j : Nat, p = j := ⟨p.toNat, by omega⟩
     exact ih j (by omega) (by omega)
    omega
   ·simp [hc]
 have hnd : ((List.range c.nodes.l.length).map fun i : Nat => (i : Int)).Nodup := by
  rw [List.nodup_iff_pairwise_ne, List.pairwise_map]
  exact (List.nodup_iff_pairwise_ne.1 List.nodup_range).imp fun h e => h (by omega)
 have hsub : ((List.range c.nodes.l.length).map fun i : Nat => (i : Int)) ⊆ s.rdy := by
  intro x hx
  obtain ⟨i, hi, rfl⟩ := List.mem_map.1 hx
  exact all i (List.mem_range.1 hi)
 have := List.Nodup.length_le_of_subset hnd hsub
 simp at this
 omega
theorem q3m (p : Int) (L : List Int) : ∀ R : List Int, (R.map fun x => (p :: L).count x).sum = (R.map fun x => L.count x).sum + R.count p
 | [] => rfl
 | a :: R => by
  simp only [List.map_cons, List.sum_cons]
  rw [q3m p L R, List.count_cons, List.count_cons]
  by_cases hpa : p = a
  ·subst hpa; simp only [BEq.rfl, if_true]; omega
  ·have h1 : (p == a) = false := by simpa using hpa
   have h2 : (a == p) = false := by simpa using fun e => hpa e.symm
   rw [h1, h2]; simp only [Bool.false_eq_true, if_false]; omega
theorem q7B : ∀ (L R : List Int), R.Nodup → (R.map fun x => L.count x).sum ≤ L.length
 | [], R, _ => by
  have : ∀ R : List Int, (R.map fun x => ([] : List Int).count x).sum = 0 := by
   intro R
   induction R with
   | nil => rfl
   | cons a R ih => rw [List.map_cons, List.sum_cons, ih, List.count_nil]
  rw [this]; omega
 | p :: L, R, h => by
  have ih := q7B L R h
  have h1 := List.nodup_iff_count.1 h p
  rw [q3m]
  simp only [List.length_cons]; omega
theorem qIG {N n : Nat} {c : Bd} : ∀ {r : O9} {s : LS}, s.out.length = N → s.left.length = N → (∀ p ∈ r, ∃ i : Nat, i < N ∧ p.1 = i) → (∀ i : Nat, i < N → Cd (Ap c i) = true → (Um i r : Int) ≤ s.left.getD i 0) → s.left.getD n 0 ≤ 0 →
  (∀ i : Nat, i < N → s.left.getD i 0 ≤ 0 → (r.foldl (E8 c n) s).out.getD i 0 = s.out.getD i 0) ∧ (∀ i : Nat, i < N → s.out.getD i 0 ≤ (r.foldl (E8 c n) s).out.getD i 0) ∧ (∀ i : Nat, i < N → Cd (Ap c i) = true → 0 < Um i r → s.out.getD n 0 + 1 ≤ (r.foldl (E8 c n) s).out.getD i 0)
 | [], s, ho, hl, _, _, _ => ⟨fun _ _ _ => rfl, fun _ _ => Int.le_refl _, fun i _ _ h => by simp [Um] at h⟩
 | (p1, p2) :: r, s, ho, hl, hr, hc, hn => by
  obtain ⟨j, hj, he⟩ := hr (p1, p2) List.mem_cons_self
  simp only at he; subst he
  have cnt : ∀ i : Nat, Um i ((↑j, p2) :: r) = Um i r + if j = i then 1 else 0 := fun i => by
   by_cases hij : j = i
   ·subst hij; simp [Um]
   ·have : ¬ ((j : Int) = i) := by omega
    simp [Um, hij, this]
  simp only [List.foldl_cons]
  by_cases hcj : Cd (Ap c j) = true
  case neg =>
   have hs : E8 c n s (↑j, p2) = s := by unfold E8; simp [hcj]
   rw [hs]
   obtain ⟨a1, a2, a3⟩ := qIG (n := n) (c := c) (r := r) ho hl (fun p hp => hr p (List.mem_cons_of_mem _ hp)) (fun i hi hci => by have := hc i hi hci; rw [cnt] at this; omega) hn
   refine ⟨a1, a2, fun i hi hci h => a3 i hi hci ?_⟩
   rw [cnt] at h
   have : ¬ j = i := fun e => hcj (e ▸ hci)
   simpa [this] using h
  have hj1 := hc j hj hcj
  rw [cnt, if_pos rfl] at hj1
  have hnj : ¬ n = j := fun e => by subst e; omega
  have so : ∀ i : Nat, (E8 c n s (↑j, p2)).out.getD i 0 = if i = j then max (s.out.getD j 0) (s.out.getD n 0 + 1) else s.out.getD i 0 := fun i => by
   unfold E8
   simp only [Int.toNat_natCast, hcj, if_true]
   rw [Ej (by omega)]
  have sl : ∀ i : Nat, (E8 c n s (↑j, p2)).left.getD i 0 = if i = j then s.left.getD j 0 - 1 else s.left.getD i 0 := fun i => by
   unfold E8
   simp only [Int.toNat_natCast, hcj, if_true]
   rw [Ej (by omega)]
  have lo : (E8 c n s (↑j, p2)).out.length = N := by unfold E8; simp [hcj, ho]
  have ll : (E8 c n s (↑j, p2)).left.length = N := by unfold E8; simp [hcj, hl]
  obtain ⟨a1, a2, a3⟩ := qIG (n := n) (c := c) (r := r) lo ll (fun p hp => hr p (List.mem_cons_of_mem _ hp)) (fun i hi hci => by
   have := hc i hi hci
   rw [cnt] at this
   rw [sl]
   by_cases hij : i = j
   ·subst hij; simp only [if_true] at this ⊢; omega
   ·have h' : ¬ j = i := fun e => hij e.symm
    simp only [hij, h', if_false] at this ⊢; omega) (by rw [sl, if_neg hnj]; exact hn)
  refine ⟨fun i hi h0 => ?_, fun i hi => ?_, fun i hi hci h => ?_⟩
  ·have hij : ¬ i = j := fun e => by subst e; omega
   rw [a1 i hi (by rw [sl, if_neg hij]; exact h0), so, if_neg hij]
  ·have := a2 i hi
   rw [so] at this
   split at this
   ·rename_i e; subst e; omega
   ·exact this
  ·by_cases hij : i = j
   ·subst hij
    have := a2 i hi
    rw [so, if_pos rfl] at this
    omega
   ·have h' : ¬ j = i := fun e => hij e.symm
    rw [cnt, if_neg h'] at h
    have := a3 i hi hci (by omega)
    rw [so, if_neg hnj] at this
    exact this
def KI (c : Bd) (d : Nat) (s : LS) : Prop := ∀ i : Nat, i < c.nodes.l.length → Cd (Ap c i) = true → ∀ q : Nat, (q : Int) ∈ F4 c i → (q : Int) ∈ s.rdy.take d → s.out.getD q 0 + 1 ≤ s.out.getD i 0
theorem KI.next {c : Bd} (hp : ∀ x ∈ c.nodes.l, ∀ p ∈ x.inn.l, 0 ≤ p ∧ p < c.nodes.l.length) {d : Nat} {s : LS} (h : JI c d s) (hk : KI c d s) (hd : d < s.rdy.length) : KI c (d + 1) ((Gx c (s.rdy.getD d 0).toNat).foldl (E8 c (s.rdy.getD d 0).toNat) s) := by
 obtain ⟨M, hli⟩ := h.li
 have hg : s.rdy.getD d 0 = s.rdy[d] := by simp [hd]
 rw [hg]
 obtain ⟨n, hn, he, hn0⟩ := hli.rd _ (List.getElem_mem hd)
 rw [he]
 simp only [Int.toNat_natCast]
 have hr : ∀ p ∈ Gx c n, ∃ i : Nat, i < c.nodes.l.length ∧ p.1 = i := by
  intro p hpp
  have hl := q0N c
  have e : Gx c n = (Fe c)[n]'(by omega) := by simp [Gx, List.getD, List.getElem?_eq_getElem (show n < (Fe c).length by omega)]
  rw [e] at hpp
  exact q6I c _ (List.getElem_mem _) p hpp
 have htk : s.rdy.take (d + 1) = s.rdy.take d ++ [(n : Int)] := by
  rw [List.take_add_one, List.getElem?_eq_getElem hd, he]; rfl
 have hnd : (s.rdy.take (d + 1)).Nodup := hli.nd.sublist (List.take_sublist _ _)
 have hcnt : ∀ i : Nat, i < c.nodes.l.length → Cd (Ap c i) = true → (Um i (Gx c n) : Int) ≤ s.left.getD i 0 := by
  intro i hi hci
  have := q7B (F4 c i) _ hnd
  rw [htk] at this
  simp only [List.map_append, List.sum_append, List.map_cons, List.map_nil, List.sum_cons, List.sum_nil] at this
  rw [h.a i hi, qGB c hi, q8L c hp i n hi]
  simp only [hci, if_true]
  omega
 obtain ⟨⟨e, h1⟩, _, _, _⟩ := q8M (M := M) (c := c) (n := n) (r := Gx c n) hli.ll hr h.b
 obtain ⟨a1, a2, a3⟩ := qIG (n := n) (c := c) hli.lo hli.ll hr hcnt hn0
 intro i hi hci q hq hqt
 rw [h1, List.take_append_of_le_length (by omega), htk] at hqt
 rcases List.mem_append.1 hqt with hqt | hqt
 ·obtain ⟨q', hq1, hq2, hq3⟩ := hli.rd _ (List.mem_of_mem_take hqt)
  have : q = q' := by omega
  subst this
  rw [a1 q hq1 hq3]
  have h4 := hk i hi hci q hq hqt
  have h5 := a2 i hi
  omega
 ·have : q = n := by simp at hqt; omega
  subst this
  rw [a1 q hn hn0]
  refine a3 i hi hci ?_
  rw [q8L c hp i q hi]
  exact List.count_pos_iff.2 hq
theorem qGC {c : Bd} (hp : ∀ x ∈ c.nodes.l, ∀ p ∈ x.inn.l, 0 ≤ p ∧ p < c.nodes.l.length) : ∀ (f d : Nat) (s : LS), JI c d s → KI c d s → KI c (Nw c f d s).1 (Nw c f d s).2
 | 0, d, s, _, hk => hk
 | f + 1, d, s, h, hk => by
  simp only [Nw]
  split
  ·rename_i hd
   exact qGC hp f (d + 1) _ (h.next hp hd) (hk.next hp h hd)
  ·exact hk
theorem qJz (c : Bd) (h16 : ∀ x ∈ c.nodes.l, x.inn.l.length ≤ 16) : JI c 0 (Ic c) := by
 refine ⟨⟨0, qDk c h16⟩, by simp, fun i hi => ?_, fun i hi h => ?_⟩
 ·simp [Ic]
 ·simp only [Ic] at h
  exact q3l c.nodes.l 0 i (by omega) (by omega) (by simpa using h)
theorem qDw {c : Bd} (h : E5 c = 0) : ∀ x ∈ c.nodes.l, ∀ p ∈ x.inn.l, 0 ≤ p ∧ p < c.nodes.l.length := by
 intro x hx
 have h4 := (Is h).2.2.1 x hx
 unfold Dv at h4
 split at h4
 ·cases h4
 split at h4
 ·cases h4
 split at h4
 ·cases h4
 rename_i h6
 exact q4m (by simpa using h6)
def Oi (c : Bd) (i : Nat) : Int := (Pj c).2.out.getD i 0
theorem Qe {c : Bd} (h : E9 c = 0) : E5 c = 0 ∧ ¬ (Pj c).1 < c.nodes.l.length := by
 unfold E9 at h
 split at h
 ·rename_i h1; exact absurd h h1
 split at h
 ·cases h
 ·rename_i h1 h2; exact ⟨by simpa using h1, h2⟩
theorem qAX {c : Bd} (h : E9 c = 0) : (Pj c).2.out.length = c.nodes.l.length ∧ (∀ i, 0 ≤ Oi c i) ∧ ∀ i : Nat, i < c.nodes.l.length → Cd (Ap c i) = true → ∀ p ∈ F4 c i, (0 ≤ p ∧ p < c.nodes.l.length) ∧ Oi c p.toNat < Oi c i := by
 obtain ⟨hs, hd⟩ := Qe h
 have hp := qDw hs
 have h16 := (Is hs).2.1
 have h0 := qJz c h16
 obtain ⟨hJ, hle⟩ := qAW hp (c.nodes.l.length + 1) 0 (Ic c) h0 (by omega)
 have hK := qGC hp (c.nodes.l.length + 1) 0 (Ic c) h0 (fun i _ _ q _ hq => by simp at hq)
 obtain ⟨M, hli⟩ := hJ.li
 refine ⟨hli.lo, fun i => (hli.bo i).1, fun i hi hc p hpi => ?_⟩
 have hin : 0 ≤ p ∧ p < c.nodes.l.length := by
  simp only [F4, List.getD_eq_getElem?_getD, List.getElem?_eq_getElem hi, Option.getD_some] at hpi
  exact hp _ (List.getElem_mem hi) p hpi
 refine ⟨hin, ?_⟩
 have hpe : p = (p.toNat : Int) := by omega
 have hall : p ∈ (Pj c).2.rdy.take (Pj c).1 := by
  have hle' : (Pj c).2.rdy.length ≤ (Pj c).1 := hle
  rw [List.take_of_length_le hle']
  by_cases hm : p ∈ (Pj c).2.rdy
  ·exact hm
  exfalso
  have := q4o (N := c.nodes.l.length) (List.nodup_cons.2 ⟨hm, hli.nd⟩) fun j hj => by
   rcases List.mem_cons.1 hj with rfl | hj
   ·exact ⟨j.toNat, by omega, by omega⟩
   ·obtain ⟨i, h1, h2, _⟩ := hli.rd j hj; exact ⟨i, h1, h2⟩
  have h3 := hJ.le
  simp only [List.length_cons] at this
  have : (Pj c).1 ≤ (Pj c).2.rdy.length := h3
  have : (Nw c (c.nodes.l.length + 1) 0 (Ic c)).2 = (Pj c).2 := rfl
  simp only [this] at *
  omega
 have := hK i hi hc p.toNat (by rw [← hpe]; exact hpi) (by rw [← hpe]; exact hall)
 show (Pj c).2.out.getD p.toNat 0 < (Pj c).2.out.getD i 0
 have e : (Nw c (c.nodes.l.length + 1) 0 (Ic c)).2 = (Pj c).2 := rfl
 rw [e] at this
 omega
theorem qK0 {c : Bd} (h : E9 c = 0) {Q : Nat → Prop} (hq : ∀ i : Nat, i < c.nodes.l.length → (Cd (Ap c i) = true → ∀ p ∈ F4 c i, (0 ≤ p ∧ p < c.nodes.l.length) ∧ Q p.toNat) → Q i) : ∀ i : Nat, i < c.nodes.l.length → Q i := by
 obtain ⟨_, h0, h1⟩ := qAX h
 have : ∀ (k : Nat) (i : Nat), i < c.nodes.l.length → (Oi c i).toNat = k → Q i := by
  intro k
  induction k using Nat.strongRecOn with
  | ind k ih =>
   intro i hi hk
   refine hq i hi fun hc p hp => ?_
   obtain ⟨h2, h3⟩ := h1 i hi hc p hp
   have := h0 p.toNat
   exact ⟨h2, ih (Oi c p.toNat).toNat (by omega) p.toNat (by omega) rfl⟩
 exact fun i hi => this _ i hi rfl
def qAY (lt : Int → Int → Bool) : Nat → List Int → List Int
 | 0, l => l
 | j + 1, l => if lt (l.getD (j + 1) 0) (l.getD j 0) then qAY lt j (q0P l (j + 1) j) else l
def q3n (lt : Int → Int → Bool) : Nat → Nat → List Int → List Int
 | 0, _, l => l
 | f + 1, i, l => q3n lt f (i + 1) (qAY lt i l)
theorem q4q {lt : Int → Int → Bool} : ∀ {j : Nat} {l : List Int}, j < l.length → (qAY lt j l).Perm l
 | 0, l, _ => List.Perm.refl l
 | j + 1, l, h => by
  simp only [qAY]
  split
  ·exact (q4q (by rw [q8F]; omega)).trans (qAT h (by omega))
  ·exact List.Perm.refl l
def q3o (key : Int → Int) (l : List Int) (n : Nat) : Prop := ∀ a b, a < b → b < n → key (l.getD a 0) ≤ key (l.getD b 0)
theorem q8z (key : Int → Int) (i : Nat) : ∀ (j : Nat) (l : List Int), j ≤ i → i < l.length → (∀ a b, a < b → b ≤ i → a ≠ j → b ≠ j → key (l.getD a 0) ≤ key (l.getD b 0)) → (∀ b, j < b → b ≤ i → key (l.getD j 0) ≤ key (l.getD b 0)) →
  q3o key (qAY (fun a b => decide (key a < key b)) j l) (i + 1)
 | 0, l, hj, hi, h1, h2 => by
  intro a b hab hb
  simp only [qAY]
  by_cases ha : a = 0
  ·subst ha; exact h2 b hab (by omega)
  ·exact h1 a b hab (by omega) ha (by omega)
 | j + 1, l, hj, hi, h1, h2 => by
  simp only [qAY]
  split
  ·rename_i hlt
   have hlt' : key (l.getD (j + 1) 0) < key (l.getD j 0) := by simpa using hlt
   have g : ∀ q, q < l.length → (q0P l (j + 1) j).getD q 0 = if q = j then l.getD (j + 1) 0 else if q = j + 1 then l.getD j 0 else l.getD q 0 := fun q hq => qH5 (by omega) (by omega) hq
   refine q8z key i j _ (by omega) (by rw [q8F]; exact hi) (fun a b hab hb ha hb' => ?_) (fun b hb hbi => ?_)
   ·rw [g a (by omega), g b (by omega), if_neg ha, if_neg hb']
    by_cases ha1 : a = j + 1
    ·rw [if_pos ha1, if_neg (by omega)]
     exact h1 j b (by omega) hb (by omega) (by omega)
    ·rw [if_neg ha1]
     by_cases hb1 : b = j + 1
     ·rw [if_pos hb1]
      exact h1 a j (by omega) (by omega) ha1 (by omega)
     ·rw [if_neg hb1]
      exact h1 a b hab hb ha1 hb1
   ·rw [g j (by omega), g b (by omega), if_pos rfl, if_neg (by omega)]
    by_cases hb1 : b = j + 1
    ·rw [if_pos hb1]; omega
    ·rw [if_neg hb1]
     exact h2 b (by omega) hbi
  ·rename_i hlt
   have hlt' : key (l.getD j 0) ≤ key (l.getD (j + 1) 0) := by simpa using hlt
   intro a b hab hb
   by_cases ha1 : a = j + 1
   ·subst ha1; exact h2 b hab (by omega)
   ·by_cases hb1 : b = j + 1
    ·subst hb1
     by_cases haj : a = j
     ·subst haj; exact hlt'
     ·have := h1 a j (by omega) (by omega) ha1 (by omega)
      omega
    ·exact h1 a b hab (by omega) ha1 hb1
theorem qGD (key : Int → Int) : ∀ (f i : Nat) (l : List Int), i + f = l.length → q3o key l i → (q3n (fun a b => decide (key a < key b)) f i l).Perm l ∧ q3o key (q3n (fun a b => decide (key a < key b)) f i l) l.length
 | 0, i, l, h, hs => ⟨List.Perm.refl l, by have : i = l.length := (by omega); subst this; exact hs⟩
 | f + 1, i, l, h, hs => by
  simp only [q3n]
  have hp := q4q (lt := fun a b => decide (key a < key b)) (show i < l.length by omega)
  have hss := q8z key i i l (Nat.le_refl _) (by omega) (fun a b hab hb ha hb' => hs a b hab (by omega)) (fun b h1 h2 => by omega)
  obtain ⟨a1, a2⟩ := qGD key f (i + 1) _ (by rw [hp.length_eq]; omega) hss
  rw [hp.length_eq] at a2
  exact ⟨a1.trans hp, a2⟩
def rng (n : Nat) : List Int := (List.range n).map fun i : Nat => (i : Int)
theorem Ko {n : Nat} : (rng n).length = n := by simp [rng]
theorem Vg {n : Nat} {x : Int} : x ∈ rng n ↔ 0 ≤ x ∧ x < n := by
 simp only [rng, List.mem_map, List.mem_range]
 constructor
 ·rintro ⟨i, hi, rfl⟩; omega
 ·intro h; exact ⟨x.toNat, by omega, by omega⟩
theorem q4r {n : Nat} : (rng n).Nodup := by
 rw [rng, List.nodup_iff_pairwise_ne, List.pairwise_map]
 exact (List.nodup_iff_pairwise_ne.1 List.nodup_range).imp fun h e => h (by omega)
def qGE (c : Bd) (a b : Int) : Bool := decide (Oi c a.toNat < Oi c b.toNat)
def Ls (c : Bd) : List Int := q3n (qGE c) (c.nodes.l.length - 1) 1 (rng c.nodes.l.length)
theorem Ym (c : Bd) : (Ls c).Perm (rng c.nodes.l.length) ∧ q3o (fun a => Oi c a.toNat) (Ls c) c.nodes.l.length := by
 by_cases h : c.nodes.l.length = 0
 ·unfold Ls
  rw [h]
  exact ⟨List.Perm.refl _, fun a b hab hb => by omega⟩
 ·have := qGD (fun a => Oi c a.toNat) (c.nodes.l.length - 1) 1 (rng c.nodes.l.length) (by rw [Ko]; omega) (fun a b hab hb => by omega)
  rw [Ko] at this
  exact this
def H6 (c : Bd) (nets : List Int) (i : Nat) : List Int := (F4 c i).map fun k => nets.getD k.toNat 0
def Qf (c : Bd) (nets : List Int) (n : Int) : List Int := if Cd (Ap c n.toNat) then nets.set n.toNat (Tz (Ap c n.toNat) (H6 c nets n.toNat)) else nets
def q55 (c : Bd) (order init : List Int) : List Int := order.foldl (Qf c) init
theorem q4s {c : Bd} {nets : List Int} {n : Int} : (Qf c nets n).length = nets.length := by unfold Qf; split <;> simp
theorem q7C {c : Bd} : ∀ {o nets : List Int}, (q55 c o nets).length = nets.length
 | [], nets => rfl
 | n :: o, nets => by
  show (q55 c o (Qf c nets n)).length = _
  rw [q7C, q4s]
def qHB (c : Bd) (init f : List Int) : Prop := f.length = c.nodes.l.length ∧ ∀ i : Nat, i < c.nodes.l.length → f.getD i 0 = if Cd (Ap c i) then Tz (Ap c i) (H6 c f i) else init.getD i 0
theorem qCf {c : Bd} : ∀ {o nets : List Int}, nets.length = c.nodes.l.length → o.Nodup → (∀ n ∈ o, 0 ≤ n ∧ n < c.nodes.l.length) → o.Pairwise (fun x y => Cd (Ap c x.toNat) = true → y ∉ F4 c x.toNat) → (∀ x ∈ o, Cd (Ap c x.toNat) = true → x ∉ F4 c x.toNat ∧ ∀ p ∈ F4 c x.toNat, 0 ≤ p) →
  (∀ i : Nat, (i : Int) ∉ o → (q55 c o nets).getD i 0 = nets.getD i 0) ∧ (∀ i : Nat, (i : Int) ∈ o → (q55 c o nets).getD i 0 = if Cd (Ap c i) then Tz (Ap c i) (H6 c (q55 c o nets) i) else nets.getD i 0)
 | [], nets, _, _, _, _, _ => ⟨fun i _ => rfl, fun i h => by cases h⟩
 | n :: o, nets, hl, hnd, hin, hpw, hself => by
  obtain ⟨hn1, hn2⟩ := List.nodup_cons.1 hnd
  obtain ⟨hp1, hp2⟩ := List.pairwise_cons.1 hpw
  have hnr := hin n List.mem_cons_self
  have hne : n = (n.toNat : Int) := by omega
  have key : ∀ i : Nat, i ≠ n.toNat → (Qf c nets n).getD i 0 = nets.getD i 0 := fun i hi => by
   unfold Qf
   split
   ·rw [Ej (by omega), if_neg hi]
   ·rfl
  obtain ⟨a1, a2⟩ := qCf (o := o) (nets := Qf c nets n) (by rw [q4s]; exact hl) hn2 (fun m hm => hin m (List.mem_cons_of_mem _ hm)) hp2 (fun x hx => hself x (List.mem_cons_of_mem _ hx))
  have hrun : q55 c (n :: o) nets = q55 c o (Qf c nets n) := rfl
  rw [hrun]
  refine ⟨fun i hi => ?_, fun i hi => ?_⟩
  ·have h1 : ¬ i = n.toNat := fun e => hi (by rw [e, ← hne]; exact List.mem_cons_self)
   rw [a1 i fun hm => hi (List.mem_cons_of_mem _ hm), key i h1]
  ·by_cases hio : (i : Int) ∈ o
   ·have h1 : ¬ i = n.toNat := fun e => hn1 (by rw [hne, ← e]; exact hio)
    rw [a2 i hio, key i h1]
   ·have h1 : i = n.toNat := by
     rcases List.mem_cons.1 hi with h | h
     ·omega
     ·exact absurd h hio
    subst h1
    rw [a1 _ hio]
    by_cases hc : Cd (Ap c n.toNat) = true
    ·have h2 : (Qf c nets n).getD n.toNat 0 = Tz (Ap c n.toNat) (H6 c nets n.toNat) := by
      unfold Qf
      rw [if_pos hc, Ej (by omega), if_pos rfl]
     rw [h2, if_pos hc]
     congr 1
     unfold H6
     refine List.map_congr_left fun p hp => ?_
     obtain ⟨hs1, hs2⟩ := hself n List.mem_cons_self hc
     have hp0 := hs2 p hp
     have hpe : p = (p.toNat : Int) := by omega
     have hpo : ((p.toNat : Nat) : Int) ∉ o := fun hm => hp1 _ hm hc (by rw [← hpe]; exact hp)
     have hpn : ¬ p.toNat = n.toNat := fun e => by
      have h9 : p = n := by omega
      rw [h9] at hp
      exact hs1 hp
     rw [a1 _ hpo, key _ hpn]
    ·rw [if_neg hc]
     unfold Qf
     rw [if_neg hc]
theorem qK1 {c : Bd} (h : E9 c = 0) {o init : List Int} (hp : o.Perm (rng c.nodes.l.length)) (hs : q3o (fun a => Oi c a.toNat) o c.nodes.l.length) (hi : init.length = c.nodes.l.length) : qHB c init (q55 c o init) := by
 obtain ⟨_, h0, h1⟩ := qAX h
 have hlen : o.length = c.nodes.l.length := by rw [hp.length_eq, Ko]
 have hmem : ∀ n, n ∈ o ↔ 0 ≤ n ∧ n < c.nodes.l.length := fun n => by rw [hp.mem_iff, Vg]
 have hpw : o.Pairwise (fun x y => Cd (Ap c x.toNat) = true → y ∉ F4 c x.toNat) := by
  rw [List.pairwise_iff_getElem]
  intro i j hi hj hij hc hm
  have hx := (hmem o[i]).1 (List.getElem_mem hi)
  obtain ⟨_, h3⟩ := h1 o[i].toNat (by omega) hc _ hm
  have h4 := hs i j hij (by omega)
  simp only [B5 hi, B5 hj] at h4
  omega
 obtain ⟨_, a2⟩ := qCf (c := c) (o := o) (nets := init) hi (hp.nodup_iff.2 q4r) (fun n hn => (hmem n).1 hn) hpw (fun x hx hc => by
  have hx' := (hmem x).1 hx
  refine ⟨fun hm => ?_, fun p hpp => (h1 x.toNat (by omega) hc p hpp).1.1⟩
  have := (h1 x.toNat (by omega) hc x hm).2
  omega)
 exact ⟨by rw [q7C]; exact hi, fun i hi => a2 i ((hmem i).2 (by omega))⟩
theorem qFJ {c : Bd} (h : E9 c = 0) {init f g : List Int} (hf : qHB c init f) (hg : qHB c init g) : f = g := by
 have key := qK0 h (Q := fun i => f.getD i 0 = g.getD i 0) fun i hi hc => by
  rw [hf.2 i hi, hg.2 i hi]
  split
  ·rename_i hcb
   congr 1
   unfold H6
   exact List.map_congr_left fun p hp => (hc hcb p hp).2
  ·rfl
 refine List.ext_getElem (by rw [hf.1, hg.1]) fun i h1 h2 => ?_
 have := key i (by rw [hf.1] at h1; exact h1)
 rwa [B5 h1, B5 h2] at this
def G5 : List Int → List Int → List Int → List Int
 | n :: ns, v :: vs, nets => G5 ns vs (nets.set n.toNat v)
 | _, _, nets => nets
theorem Qg : ∀ {ns vs nets : List Int}, (G5 ns vs nets).length = nets.length
 | [], vs, nets => by cases vs <;> rfl
 | _ :: _, [], nets => rfl
 | n :: ns, v :: vs, nets => by simp only [G5]; rw [Qg]; simp
theorem q1b : ∀ {ns vs nets : List Int} {i : Nat}, (∀ n ∈ ns, 0 ≤ n) → (i : Int) ∉ ns → (G5 ns vs nets).getD i 0 = nets.getD i 0
 | [], vs, nets, i, _, _ => by cases vs <;> rfl
 | _ :: _, [], nets, i, _, _ => rfl
 | n :: ns, v :: vs, nets, i, h0, h => by
  simp only [G5]
  rw [q1b (fun m hm => h0 m (List.mem_cons_of_mem _ hm)) fun hm => h (List.mem_cons_of_mem _ hm)]
  have h1 : ¬ n.toNat = i := fun e => h (by have := h0 n List.mem_cons_self; rw [← e, Int.toNat_of_nonneg this]; exact List.mem_cons_self)
  simp [List.getD_eq_getElem?_getD, List.getElem?_set, h1]
theorem q7D : ∀ {ns vs nets : List Int} {j : Nat}, ns.Nodup → (∀ n ∈ ns, 0 ≤ n ∧ n < nets.length) → ns.length = vs.length → (h : j < ns.length) → (G5 ns vs nets).getD (ns[j]).toNat 0 = vs.getD j 0
 | n :: ns, v :: vs, nets, j, hnd, hr, hl, h => by
  obtain ⟨h1, h2⟩ := List.nodup_cons.1 hnd
  have hn := hr n List.mem_cons_self
  simp only [G5]
  cases j with
  | zero =>
   simp only [List.getElem_cons_zero, List.getD_cons_zero]
   rw [q1b (fun m hm => (hr m (List.mem_cons_of_mem _ hm)).1) (by rw [Int.toNat_of_nonneg hn.1]; exact h1), Ej (by omega), if_pos rfl]
  | succ j =>
   simp only [List.getElem_cons_succ, List.getD_cons_succ]
   exact q7D h2 (fun m hm => by have := hr m (List.mem_cons_of_mem _ hm); simpa using this) (by simpa using hl) (by simpa using h)
 | [], vs, nets, j, _, _, _, h => by simp at h
 | _ :: _, [], nets, j, _, _, hl, h => by simp at hl
def E1 (c : Bd) : List Int := N5 [0] c.nodes.l 0
def q90 (c : Bd) (pin pst : List Int) : List Int := G5 (Be c) pst (G5 (E1 c) pin (List.replicate c.nodes.l.length 0))
theorem qBz {c : Bd} {pin pst : List Int} : (q90 c pin pst).length = c.nodes.l.length := by unfold q90; rw [Qg, Qg]; simp
def Ek (k : Int) (c : Bd) (i : Nat) : Nat := (N5 [k] (c.nodes.l.take i) 0).length
theorem qC0 {k : Int} {c : Bd} {i : Nat} (hi : i < c.nodes.l.length) (hk : Ap c i = k) : N5 [k] c.nodes.l 0 = N5 [k] (c.nodes.l.take i) 0 ++ (i : Int) :: N5 [k] (c.nodes.l.drop (i + 1)) (i + 1) := by
 have e : c.nodes.l = c.nodes.l.take i ++ c.nodes.l[i] :: c.nodes.l.drop (i + 1) := by rw [List.getElem_cons_drop, List.take_append_drop]
 have hk' : c.nodes.l[i].k = k := by simpa [Ap, hi] using hk
 have hm : (c.nodes.l.take i).length = i := by rw [List.length_take]; omega
 conv => lhs; rw [e, q71, hm]
 simp [N5, hk']
theorem q4t {k : Int} {c : Bd} {i : Nat} (hi : i < c.nodes.l.length) (hk : Ap c i = k) : Ek k c i < (N5 [k] c.nodes.l 0).length ∧ (N5 [k] c.nodes.l 0).getD (Ek k c i) 0 = i := by
 have e := qC0 hi hk
 constructor
 ·rw [e]; simp [Ek]
 ·rw [e]; simp [Ek, List.getD_eq_getElem?_getD]
theorem Jw {k : Int} {c : Bd} : ∀ n ∈ N5 [k] c.nodes.l 0, 0 ≤ n ∧ n < c.nodes.l.length ∧ Ap c n.toNat = k := by
 intro n hn
 obtain ⟨a, b, h⟩ := q76 [k] c.nodes.l 0 n hn
 refine ⟨by omega, by omega, ?_⟩
 simpa [Ap] using h
theorem q9n {k : Int} {c : Bd} {i : Nat} (hi : i < c.nodes.l.length) : (i : Int) ∈ N5 [k] c.nodes.l 0 ↔ Ap c i = k := by
 constructor
 ·intro h
  have := (Jw _ h).2.2
  simpa using this
 ·intro h
  rw [qC0 hi h]
  simp
theorem qK2 {c : Bd} {pin pst : List Int} (h1 : pin.length = (E1 c).length) (h2 : pst.length = (Be c).length) {i : Nat} (hi : i < c.nodes.l.length) :
  (q90 c pin pst).getD i 0 = if Ap c i = 0 then pin.getD (Ek 0 c i) 0 else if Ap c i = 14 then pst.getD (Ek 14 c i) 0 else 0 := by
 have n0 := (q4p [0] c.nodes.l 0).2
 have n14 := (q4p [14] c.nodes.l 0).2
 have r14 : ∀ n ∈ Be c, 0 ≤ n := fun n hn => (Jw n hn).1
 have r0 : ∀ n ∈ E1 c, 0 ≤ n := fun n hn => (Jw n hn).1
 unfold q90
 by_cases hk : Ap c i = 14
 ·obtain ⟨a, b⟩ := q4t hi hk
  have e : (N5 [14] c.nodes.l 0)[Ek 14 c i] = (i : Int) := by rw [← b, B5 a]
  have := q7D (ns := Be c) (vs := pst) (nets := G5 (E1 c) pin (List.replicate c.nodes.l.length 0)) (j := Ek 14 c i) n14 (fun n hn => by rw [Qg]; have := Jw n hn; simp; omega) h2.symm a
  have e' : (Be c)[Ek 14 c i] = (i : Int) := e
  rw [e'] at this
  simp only [Int.toNat_natCast] at this
  rw [this, if_neg (by omega), if_pos hk]
 ·have : (i : Int) ∉ Be c := fun hm => hk ((q9n hi).1 hm)
  rw [q1b r14 this]
  by_cases hk0 : Ap c i = 0
  ·obtain ⟨a, b⟩ := q4t hi hk0
   have e : (E1 c)[Ek 0 c i]'a = (i : Int) := by show (N5 [0] c.nodes.l 0)[Ek 0 c i] = _; rw [← b, B5 a]
   have := q7D (ns := E1 c) (vs := pin) (nets := List.replicate c.nodes.l.length 0) (j := Ek 0 c i) n0 (fun n hn => by have := Jw n hn; simp; omega) h1.symm a
   rw [e] at this
   simp only [Int.toNat_natCast] at this
   rw [this, if_pos hk0]
  ·have : (i : Int) ∉ E1 c := fun hm => hk0 ((q9n hi).1 hm)
   rw [q1b r0 this, if_neg hk0, if_neg hk]
   simp [List.getD_eq_getElem?_getD, List.getElem?_replicate]
   split <;> rfl
end Go.Lg
