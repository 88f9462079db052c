/- Plain data as trees, and how calls are taken. Conditions: none. -/
import Derived.Test.YthgiocdefejbiaaGreatDoorPkC
import Derived.Test.YthgiocdefejbiaaGreatDoorProg
import Derived.KernelRfl
import Derived.Lib.Bytealg
import Derived.Test.YthgiocdefejbiaaGreatDoorRows
import Derived.Test.YthgiocdefejbiaaGreatDoorCards
import Derived.Test.YthgiocdefejbiaaGreatDoorTie
import Derived.ProofKit
import Derived.Deep.DeepHandedRow
import Derived.SevenTiedAt
set_option linter.unusedSimpArgs false
set_option linter.unusedVariables false
namespace Go.Lg
open Go
attribute [simp] C5 Cd T.one AV.one Value.oneCell' Da F5 F4 Ap Yw ret qCl
@[simp] theorem qF8 (a b : Int) : (a == b) = decide (a = b) := rfl
@[simp] theorem qJN (a b : Int) : (a != b) = !decide (a = b) := rfl
@[simp] theorem qJO (s : List UInt8) : (ByteArray.mk s.toArray).size = s.length := by simp [ByteArray.size]
def A9 {α : Type} (f : α → T) (l : List α) : List (List T) := l.map fun n => [f n]
theorem A1 {α : Type} {f : α → T} {l : List α} : (A9 f l).length = l.length := by simp [A9]
theorem Bt {α : Type} {f : α → T} {l : List α} {i : Nat} (d : α) (h : i < l.length) : (A9 f l)[i]?.getD [] = [f (l[i]?.getD d)] := by simp [A9, h]
theorem A5 {α : Type} {f : α → T} {l : List α} : E5 1 (A9 f l) := by
 intro e he; obtain ⟨x, _, rfl⟩ := List.mem_map.1 he; rfl
theorem qDj {α : Type} {f : α → T} {l m : List α} : A9 f l ++ A9 f m = A9 f (l ++ m) := by simp [A9]
theorem Gj {α : Type} {f : α → T} {l : List α} {n : Nat} {x : α} : (A9 f l).set n [f x] = A9 f (l.set n x) := by simp [A9, List.map_set]
theorem Gk {α : Type} {f : α → T} : A9 f [] = [] := rfl
@[simp] theorem qF9 {s : Nat} : E5 s [] := fun e h => by cases h
def B8 {α : Type} (f : α → List T) (l : List α) : List (List T) := l.map f
theorem Aa {α : Type} {f : α → List T} {l : List α} : (B8 f l).length = l.length := by simp [B8]
theorem E4 {α : Type} {f : α → List T} {l : List α} {i : Nat} (d : α) (h : i < l.length) : (B8 f l)[i]?.getD [] = f (l[i]?.getD d) := by simp [B8, h]
theorem q3i {α : Type} {f : α → List T} {l : List α} {s : Nat} (h : ∀ x, (f x).length = s) : E5 s (B8 f l) := by
 intro e he; obtain ⟨x, _, rfl⟩ := List.mem_map.1 he; exact h x
theorem q0q {α : Type} {f : α → List T} {l m : List α} : B8 f l ++ B8 f m = B8 f (l ++ m) := by simp [B8]
@[simp] theorem An {α : Type} {f : α → T} {l : List α} : (A9 f l).take l.length = A9 f l := by rw [List.take_of_length_le (by simp [A9])]
theorem C6 {α : Type} {f : α → T} {l : List α} {x : α} : A9 f l ++ [[f x]] = A9 f (l ++ [x]) := by simp [A9]
@[simp] theorem qEk {α : Type} {f : α → List T} {l : List α} : (B8 f l).take l.length = B8 f l := by rw [List.take_of_length_le (by simp [B8])]
theorem q1z {α : Type} {f : α → List T} {l : List α} {x : α} : B8 f l ++ [f x] = B8 f (l ++ [x]) := by simp [B8]
structure Sl (α : Type) where
 l : List α
 cap : Option Nat
 nl : Option Bool
abbrev tI (n : Int) : T := .v (.int .i64 n)
abbrev tK (n : Int) : T := .v (.int .u8 n)
abbrev tB (b : Bool) : T := .v (.bool b)
abbrev Bw (l : List Int) : List (List T) := A9 tI l
def Bo (s : Sl Int) : T := .sl (Bw s.l) s.cap s.nl
@[simp] theorem qH2 {cs : List AV} : Rb (.bx cs) = ∀ c ∈ cs, F4 c := rfl
@[simp] theorem qH3 {s : ByteArray} {p : Nat} : Rb (.it s p) = True := rfl
@[simp] theorem qFv {ty s : Nat} : Rb (.sl ty s []) = True := by simp [Rb]
theorem Zw {α : Type} {f : α → T} {l : List α} {ty s : Nat} (h : ∀ x, Ap (f x) = true) : Rb (.sl ty s (A9 f l)) := by
 intro e he t ht
 obtain ⟨x, _, rfl⟩ := List.mem_map.1 he
 simp only [List.mem_singleton] at ht; subst ht; exact h x
@[simp] theorem qHz {l : List Int} {ty s : Nat} : Rb (.sl ty s (A9 tI l)) = True := eq_true (Zw fun _ => rfl)
@[simp] theorem qI0 {l : List Int} {ty s : Nat} : Rb (.sl ty s (A9 tK l)) = True := eq_true (Zw fun _ => rfl)
@[simp] theorem qI1 {l : List Bool} {ty s : Nat} : Rb (.sl ty s (A9 tB l)) = True := eq_true (Zw fun _ => rfl)
section
variable {P : Program} {Γ : Tables} {hp : List (Nat × B0)} {f : FuncId} {avs : List AV} {K : T → Prop} {ts : List T} {res : T}
theorem A8 (h : Ab P Γ f ts res) (ht : Aj (avs.map toT) = some ts) (hk : K res) : q2M P Γ hp f avs K ⟨⟩ := ⟨res, .inl ⟨ts, ht, h⟩, hk⟩
theorem A0 (h : A3 P Γ f ts res) (ht : Aj (avs.map (Ae hp 4)) = some ts) (hk : K res) : q2M P Γ hp f avs K ⟨⟩ := ⟨res, .inr ⟨ts, ht, h⟩, hk⟩
theorem Ax {ic : IC} {N n : Nat} {rvs : List RV} {args : List T} (hc : Aq P f ic N n rvs = true) (hn : args.length = n) (h : run P Γ ic (ret false rvs fun r => r = res) ⟨params 0 args, []⟩) : Ab P Γ f args res := by
 obtain ⟨r, h1, rfl⟩ := run_pure hc hn h; exact h1
theorem A6 {ic : IC} {N n : Nat} {rvs : List RV} {args : List T} (hc : Aq P f ic N n rvs = true) (hn : args.length = n) (h : run P Γ ic (ret true rvs fun r => r = res) ⟨params 0 args, []⟩) : A3 P Γ f args res := by
 obtain ⟨r, h1, rfl⟩ := q80 hc hn h; exact h1
theorem Hg {ic : IC} {N n : Nat} {rvs : List RV} {args : List AV} {r0 : AV} {hp' : List (Nat × B0)} (hc : Aq P f ic N n rvs = true) (hn : args.length = n) (h : run P Γ ic (qCl rvs fun r h => r = r0 ∧ h = hp') ⟨q8g 0 args, hp⟩) : Fe P Γ f hp args r0 hp' := by
 obtain ⟨r, h', h1, rfl, rfl⟩ := qDf hc hn h; exact h1
end
end Go.Lg
namespace Go.Lg
open Go
section
variable {P : Program} {Γ : Tables} {Q : AX → St → Prop} {s : St}
/- probecard/netlists.Check (function 32) -/
abbrev X4 : IC := (.seq (.reg [od 1 (.box true (tm 0)), od 2 (.mv (ki 0))] [kp [1] []]) (.seq (.reg [od 6 (lG 4 1), od 7 (.call 91 [(tm 6)]), om 5 7, od 8 (ex 5 0), od 9 (ex 5 1), om 3 8, om 4 9] [kp [4] []]) (.seq (.reg [om 10 4, om 2 10] [kp [2]
 []]) .ret)))
def X5 : List RV := [.tmp 2]
/- probecard/netlists.Of (function 90) -/
abbrev q0r : IC := .gh (.seq (.reg [od 12 (.bin .lss (tm 11) (tm 10))] [kp [1, 5, 9, 10, 11, 12] [23]]) (.seq (.cond (tm 12) .skip (.exit 0)) (.seq (.block 1 (.seq (.reg [om 13 11, od 14 (ia 4 9 11), od 15 (lG 4 14), od 7 (.alloc false [(.int .u8 0),
 (.slice none 0 0), (.int .i64 0), (.int .i64 0)]), om 6 13, on (.store 4 (tm 7) (tm 15))] [kp [1, 5, 6, 7, 9, 10, 11] [7, 23]]) (.seq (.reg [om 16 1, od 17 (fa 0 7), od 18 (ld 1 17), od 19 (.call 144 [(tm 16), (tm 18)])] [kp [1, 5,
 6, 9, 10, 11, 19] [23]]) (.cond (tm 19) (.reg [om 20 5, om 21 6, od 22 (.bsl true 3 1 [(tm 21)]), od 23 (.app false 3 1 (tm 20) (tm 22)), om 5 23] [kp [1, 5, 9, 10, 11] [23]]) .skip)))) (.reg [od 24 (.bin .add (tm 11) (ki 1)), om
 11 24] [kp [1, 5, 9, 10, 11] [23]])))) [kp [1, 5, 9, 10, 11] [23]]
def Oc : IC := .loop q0r
abbrev q0s : IC := (.seq (.reg [od 2 (.box true (tm 0)), od 4 (.mv kN)] [kp [1, 2] []]) (.seq (.reg [od 5 (.mv kN)] [.nl 5 23 3 1, kp [1, 2, 5] [23]]) (.seq (.seq (.reg [od 8 (fa 0 2), od 9 (ld 1 8), od 10 (le 0 9), od 11 (.mv (ki 0))] [kp [1, 5, 9,
 10, 11] [23]]) (.block 0 Oc)) (.seq (.reg [om 25 5, od 26 (.hcall 86 [(tm 25)] [23] 26000), om 4 26] [kp [4] [23]]) .ret))))
theorem Va (h : ∀ K : St → Prop, K = run P Γ Oc Q → run P Γ q0r (Ao K Q) s) : run P Γ Oc Q s := Ad h
def q0t : List RV := [.tmp 4]
/- probecard/netlists.States (function 31) -/
abbrev Vb : IC := (.seq (.reg [od 1 (.box true (tm 0)), od 2 (.mv kN)] [kp [1] []]) (.seq (.reg [od 3 (lG 4 1), od 4 (.bsl true 80 1 [(ku 14)]), od 5 (.call 90 [(tm 3), (tm 4)]), om 2 5] [kp [2] []]) .ret))
def Vd : List RV := [.tmp 2]
/- probecard/netlists.Comb (function 48) -/
abbrev Yy : IC := (.seq (.reg [od 2 (.mv kF)] [kp [0] []]) (.seq (.reg [om 3 0, od 4 (.bin .geq (tm 3) (ku 1)), om 5 4, oT 6 (.mv (tm 0)) 5, oT 7 (.bin .leq (tm 6) (ku 13)) 5, od 8 (.pick (tm 5) (tm 7) kF), om 2 8] [kp [2] []]) .ret))
def Yz : List RV := [.tmp 2]
/- slices.Clip[[]int,int] (function 86) -/
abbrev Ve : IC := (.seq (.reg [od 2 (.mv kN)] [kp [0] [1000000]]) (.seq (.reg [om 3 0, om 4 0, od 5 (le 0 4), om 6 0, od 7 (le 0 6), od 8 (.slice 1 (tm 3) none (some (tm 5)) (some (tm 7))), om 2 8] [kp [2] [1000000]]) .ret))
def Vf : List RV := [.tmp 2]
/- probecard/netlists.Levels (function 91) -/
def Es : List RO := [om 45 6, om 46 8, od 47 (ia 1 45 46), od 48 (ld 1 47), od 49 (.bin .eql (tm 48) (ki 0))]
def L9 : List RO := [om 50 7, om 51 8, od 52 (.bsl true 3 1 [(tm 51)]), od 53 (.app false 3 1 (tm 50) (tm 52)), om 7 53]
def La : List RO := [od 54 (.bin .add (tm 31) (ki 1)), om 31 54]
abbrev Vg : IC := .gh (.seq (.reg [od 32 (.bin .lss (tm 31) (tm 30))] [kp [1, 5, 6, 7, 29, 30, 31, 32] [23, 27, 53]]) (.seq (.cond (tm 32) .skip (.exit 0)) (.seq (.block 1 (.seq (.reg [om 33 31, od 34 (ia 4 29 31), od 35 (lG 4 34), od 9 (.alloc
 false [(.int .u8 0), (.slice none 0 0), (.int .i64 0), (.int .i64 0)]), om 8 33, on (.store 4 (tm 9) (tm 35))] [kp [1, 5, 6, 7, 8, 9, 29, 30, 31] [9, 23, 27, 53]]) (.seq (.seq (.reg [od 36 (fa 0 9), od 37 (ld 1 36), od 38 (.call 48
 [(tm 37)])] [kp [1, 5, 6, 7, 8, 9, 29, 30, 31, 38] [9, 23, 27, 53]]) (.cond (tm 38) (.reg [om 39 6, om 40 8, od 41 (fa 1 9), od 42 (ld 1 41), od 43 (le 0 42), od 44 (ia 1 39 40), on (.store 1 (tm 44) (tm 43))] [kp [1, 5, 6, 7, 8,
 29, 30, 31] [23, 27, 53]]) .skip)) (.seq (.reg Es [kp [1, 5, 6, 7, 8, 29, 30, 31, 49] [23, 27, 53]]) (.cond (tm 49) (.reg L9 [kp [1, 5, 6, 7, 29, 30, 31] [23, 27, 53]]) .skip))))) (.reg
 La [kp [1, 5, 6, 7, 29, 30, 31] [23, 27, 53]])))) [kp [1, 5, 6, 7, 29, 30, 31] [23, 27, 53]]
def I9 : IC := .loop Vg
abbrev Vh : IC := .gh (.seq (.reg [od 79 (.bin .lss (tm 78) (tm 77))] [kp [1, 5, 6, 7, 10, 11, 12, 76, 77, 78, 79] [23, 27, 53]]) (.seq (.cond (tm 79) .skip (.exit 4)) (.seq (.block 5 (.seq (.reg [od 80 (ia 2 76 78), od 81 (lG 2 80), od 14 (.alloc
 false [(.int .i64 0), (.int .i64 0)]), on (.store 2 (tm 14) (tm 81))] [kp [1, 5, 6, 7, 10, 11, 12, 14, 76, 77, 78] [14, 23, 27, 53]]) (.seq (.seq (.reg [od 82 (fa 0 1), od 83 (ld 1 82), od 84 (fa 0 14), od 85 (ld 1 84), od 86 (ia 4
 83 85), od 87 (fa 0 86), od 88 (ld 1 87), od 89 (.call 48 [(tm 88)]), od 90 (.un .not (tm 89))] [kp [1, 5, 6, 7, 10, 11, 12, 14, 76, 77, 78, 90] [14, 23, 27, 53]]) (.cond (tm 90) (.exit 5) .skip)) (.seq (.reg [om 91 5, od 92 (fa 0
 14), od 93 (.ldR 14 1 false (tm 92)), om 94 5, od 95 (fa 0 14), od 96 (.ldR 14 1 false (tm 95)), od 97 (ia 1 94 96), od 98 (.ldR 23 1 false (tm 97)), om 99 5, om 100 12, od 101 (ia 1 99 100), od 102 (.ldR 23 1 false (tm 101)), od
 103 (.bin .add (tm 102) (ki 1)), od 104 (.mmx true [(tm 98), (tm 103)]), od 105 (ia 1 91 93), on (.stR 23 1 (tm 105) (tm 104))] [kp [1, 5, 6, 7, 10, 11, 12, 14, 76, 77, 78] [14, 23, 27, 53]]) (.seq (.reg [om 106 6, od 107 (fa 0
 14), od 108 (ld 1 107), od 109 (ia 1 106 108), od 110 (ld 1 109), od 111 (.bin .sub (tm 110) (ki 1)), od 112 (ia 1 106 108), on (.store 1 (tm 112) (tm 111))] [kp [1, 5, 6, 7, 10, 11, 12, 14, 76, 77, 78] [14, 23, 27, 53]]) (.seq
 (.reg [om 113 6, od 114 (fa 0 14), od 115 (ld 1 114), od 116 (ia 1 113 115), od 117 (ld 1 116), od 118 (.bin .eql (tm 117) (ki 0))] [kp [1, 5, 6, 7, 10, 11, 12, 14, 76, 77, 78, 118] [14, 23, 27, 53]]) (.cond (tm 118) (.reg [om 119
 7, od 120 (fa 0 14), od 121 (ld 1 120), od 122 (.bsl true 3 1 [(tm 121)]), oz 123 (.app false 3 1 (tm 119) (tm 122)) 53, om 7 123] [kp [1, 5, 6, 7, 10, 11, 12, 76, 77, 78] [23, 27, 53]]) .skip))))))) (.reg [od 124 (.bin .add (tm
 78) (ki 1)), om 78 124] [kp [1, 5, 6, 7, 10, 11, 12, 76, 77, 78] [23, 27, 53]])))) [kp [1, 5, 6, 7, 10, 11, 12, 76, 77, 78] [23, 27, 53]]
def Ia : IC := .loop Vh
abbrev Vi : IC := .gh (.seq (.seq (.reg [om 57 11, om 58 7, od 59 (le 0 58), od 60 (.bin .lss (tm 57) (tm 59))] [kp [1, 5, 6, 7, 10, 11, 60] [23, 27, 53]]) (.cond (tm 60) .skip (.exit 2))) (.block 3 (.seq (.reg [om 61 7, om 62 11, od 63 (ia 1 61
 62), od 64 (ld 1 63), om 12 64] [kp [1, 5, 6, 7, 10, 11, 12] [23, 27, 53]]) (.seq (.reg [om 65 11, od 66 (.bin .add (tm 65) (ki 1)), om 11 66] [kp [1, 5, 6, 7, 10, 11, 12] [23, 27, 53]]) (.seq (.seq (.reg [om 67 10, om 68 12, od 69
 (ia 1 67 68), od 70 (ld 1 69), od 71 (le 0 70), od 72 (.bin .eql (tm 71) (ki 0))] [kp [1, 5, 6, 7, 10, 11, 12, 72] [23, 27, 53]]) (.cond (tm 72) (.exit 3) .skip)) (.seq (.reg [om 73 10, om 74 12, od 75 (ia 1 73 74), od 76 (ld 1
 75), od 77 (le 0 76), od 78 (.mv (ki 0))] [kp [1, 5, 6, 7, 10, 11, 12, 76, 77, 78] [23, 27, 53]]) (.block 4 Ia))))))) [kp [1, 5, 6, 7, 10, 11] [23, 27, 53]]
def Ib : IC := .loop Vi
abbrev Vj : IC := (.seq (.reg [od 1 (.box true (tm 0)), od 2 (.mv kN), od 3 (.mv (ki 0))] [kp [1] []]) (.scope (.seq (.seq (.reg [od 15 (lG 4 1), od 16 (.call 145 [(tm 15)]), om 4 16] [kp [1, 4] []]) (.seq (.reg [om 17 4, od 18 (.bin .neq (tm 17)
 (ki 0))] [kp [1, 4, 18] []]) (.cond (tm 18) (.seq (.reg [om 19 4, od 2 (.mv kN), om 3 19] [kp [2, 3] [23]]) .ret) .skip))) (.seq (.reg [od 20 (fa 0 1), od 21 (ld 1 20), od 22 (le 0 21), od 23 (.mk 3 1 [(.int .i64 0)] (tm 22) (tm
 22)), om 5 23] [kp [1, 5] [23]]) (.seq (.reg [od 24 (fa 0 1), od 25 (ld 1 24), od 26 (le 0 25), od 27 (.mk 3 1 [(.int .i64 0)] (tm 26) (tm 26)), om 6 27] [kp [1, 5, 6] [23, 27]]) (.seq (.reg [od 7 (.mv kN)] [.nl 7 53 3 1, kp [1, 5,
 6, 7] [23, 27, 53]]) (.seq (.seq (.reg [od 28 (fa 0 1), od 29 (ld 1 28), od 30 (le 0 29), od 31 (.mv (ki 0))] [kp [1, 5, 6, 7, 29, 30, 31] [23, 27, 53]]) (.block 0 I9)) (.seq (.reg [od 55 (lG 4 1), od 56 (.call 146
 [(tm 55)]), om 10 56] [kp [1, 5, 6, 7, 10] [23, 27, 53]]) (.seq (.reg [od 11 (.mv (ki 0))] [kp [1, 5, 6, 7, 10, 11] [23, 27, 53]]) (.seq .skip (.seq (.block 2 Ib) (.seq (.seq (.reg [om 125 11, od 126 (fa 0 1), od
 127 (ld 1 126), od 128 (le 0 127), od 129 (.bin .lss (tm 125) (tm 128))] [kp [5, 129] [23]]) (.cond (tm 129) (.seq (.reg [od 2 (.mv kN), od 3 (.mv (ki 6))] [kp [2, 3] [23]]) .ret) .skip)) (.seq (.reg [om 130 5, om 2 130, od 3 (.mv
 (ki 0))] [kp [2, 3] [23]]) .ret)))))))))))))
theorem Oe (h : ∀ K : St → Prop, K = run P Γ I9 Q → run P Γ Vg (Ao K Q) s) : run P Γ I9 Q s := Ad h
theorem Og (h : ∀ K : St → Prop, K = run P Γ Ia Q → run P Γ Vh (Ao K Q) s) : run P Γ Ia Q s := Ad h
theorem Oh (h : ∀ K : St → Prop, K = run P Γ Ib Q → run P Γ Vi (Ao K Q) s) : run P Γ Ib Q s := Ad h
attribute [simp] Es L9 La
def Ic : List RV := [.tmp 2, .tmp 3]
/- slices.Contains[[]probecard/api.Kind,probecard/api.Kind] (function 144) -/
abbrev J3 : IC := (.seq (.reg [od 4 (.mv kF)] [kp [0, 1] []]) (.seq (.reg [om 5 0, om 6 1, od 7 (.call 164 [(tm 5), (tm 6)]), od 8 (.bin .geq (tm 7) (ki 0)), om 4 8] [kp [4] []]) .ret))
def J4 : List RV := [.tmp 4]
/- probecard/netlists.shape (function 145) -/
abbrev X6 : IC := .gh (.seq (.reg [od 39 (.bin .lss (tm 38) (tm 37))] [kp [1, 36, 37, 38, 39] []]) (.seq (.cond (tm 39) .skip (.exit 1)) (.seq (.block 2 (.seq (.reg [od 40 (ia 4 36 38), od 41 (lG 4 40), od 4 (.alloc false [(.int .u8 0), (.slice none
 0 0), (.int .i64 0), (.int .i64 0)]), on (.store 4 (tm 4) (tm 41))] [kp [1, 4, 36, 37, 38] [4]]) (.seq (.reg [od 42 (lG 4 1), od 43 (lG 4 4), od 44 (.call 165 [(tm 42), (tm 43)]), om 5 44] [kp [1, 5, 36, 37, 38] []]) (.seq (.reg
 [om 45 5, od 46 (.bin .neq (tm 45) (ki 0))] [kp [1, 5, 36, 37, 38, 46] []]) (.cond (tm 46) (.seq (.reg [om 47 5, om 2 47] [kp [2] []]) .ret) .skip))))) (.reg [od 48 (.bin .add (tm 38) (ki 1)), om 38 48] [kp [1, 36, 37, 38] []]))))
 [kp [1, 36, 37, 38] []]
def J5 : IC := .loop X6
abbrev X7 : IC := .gh (.seq (.reg [od 58 (.bin .lss (tm 57) (tm 56))] [kp [1, 55, 56, 57, 58] []]) (.seq (.cond (tm 58) .skip (.exit 3)) (.seq (.block 4 (.seq (.reg [od 59 (ia 3 55 57), od 60 (lG 3 59), od 8 (.alloc false [(.slice none 0 0), (.slice
 none 0 0), (.int .i64 0)]), on (.store 3 (tm 8) (tm 60))] [kp [1, 8, 55, 56, 57] [8]]) (.seq (.reg [od 61 (lG 4 1), od 62 (lG 3 8), od 63 (.call 167 [(tm 61), (tm 62)]), om 9 63] [kp [1, 9, 55, 56, 57] []]) (.seq (.reg [om 64 9, od
 65 (.bin .neq (tm 64) (ki 0))] [kp [1, 9, 55, 56, 57, 65] []]) (.cond (tm 65) (.seq (.reg [om 66 9, om 2 66] [kp [2] []]) .ret) .skip))))) (.reg [od 67 (.bin .add (tm 57) (ki 1)), om 57 67] [kp [1, 55, 56, 57] []])))) [kp [1, 55,
 56, 57] []]
def J6 : IC := .loop X7
abbrev Ej : IC := (.seq (.reg [od 1 (.box true (tm 0)), od 2 (.mv (ki 0))] [kp [1] []]) (.seq (.block 0 (.seq (.reg [od 11 (fa 0 1), od 12 (ld 1 11), od 13 (le 0 12), od 14 (.bin .gtr (tm 13) (ki 16384)), om 15 14, oF 16 (fa 2 1) 15, oF 17 (ld 1 16)
 15, oF 18 (le 0 17) 15, oF 19 (.bin .gtr (tm 18) (ki 16)) 15, od 20 (.pick (tm 15) kT (tm 19)), om 21 20, oF 22 (fa 3 1) 21, oF 23 (ld 1 22) 21, oF 24 (le 0 23) 21, oF 25 (.bin .gtr (tm 24) (ki 16384)) 21, od 26 (.pick (tm 21) kT
 (tm 25)), om 10 26] [kp [1, 10] []]) (.cond (tm 10) (.seq (.reg [od 2 (.mv (ki 3))] [kp [2] []]) .ret) (.seq (.reg [od 28 (fa 1 1), od 29 (ld 1 28), od 30 (le 0 29), od 31 (fa 0 1), od 32 (ld 1 31), od 33 (le 0 32), od 34 (.bin
 .neq (tm 30) (tm 33)), om 27 34] [kp [1, 27] []]) (.cond (tm 27) (.seq (.reg [od 2 (.mv (ki 8))] [kp [2] []]) .ret) .skip))))) (.seq (.seq (.reg [od 35 (fa 0 1), od 36 (ld 1 35), od 37 (le 0 36), od 38 (.mv (ki 0))] [kp [1, 36, 37,
 38] []]) (.block 1 J5)) (.seq (.seq (.reg [od 49 (lG 4 1), od 50 (.call 166 [(tm 49)]), om 6 50] [kp [1, 6] []]) (.seq (.reg [om 51 6, od 52 (.bin .neq (tm 51) (ki 0))] [kp [1, 6, 52] []]) (.cond (tm 52) (.seq (.reg
 [om 53 6, om 2 53] [kp [2] []]) .ret) .skip))) (.seq (.seq (.reg [od 54 (fa 2 1), od 55 (ld 1 54), od 56 (le 0 55), od 57 (.mv (ki 0))] [kp [1, 55, 56, 57] []]) (.block 3 J6)) (.seq (.seq (.reg [od 68 (fa 3 1), od 69
 (ld 1 68), od 70 (lG 4 1), od 71 (.call 169 [(tm 70)]), od 72 (.call 168 [(tm 69), (tm 71)])] [kp [72] []]) (.cond (tm 72) (.seq (.reg [od 2 (.mv (ki 1))] [kp [2] []]) .ret) .skip)) (.seq (.reg [od 2 (.mv (ki 0))] [kp [2] []])
 .ret)))))))
theorem Po (h : ∀ K : St → Prop, K = run P Γ J5 Q → run P Γ X6 (Ao K Q) s) : run P Γ J5 Q s := Ad h
theorem Pq (h : ∀ K : St → Prop, K = run P Γ J6 Q → run P Γ X7 (Ao K Q) s) : run P Γ J6 Q s := Ad h
def C2 : List RV := [.tmp 2]
/- probecard/netlists.Fanout (function 146) -/
def Dy : List RO := [om 37 3, om 38 8, om 39 3, om 40 8, od 41 (ia 1 39 40), od 42 (ld 1 41), om 43 5, om 44 7, od 45 (.build [(1, (tm 43)), (1, (tm 44))]), od 46 (.bsl true 192 2 [(tm 45)]), od 47 (.app false 192 2 (tm 42) (tm 46)), od 48 (ia 1 37
 38), on (.store 1 (tm 48) (tm 47))]
def Lc : List RO := [od 49 (.bin .add (tm 28) (ki 1)), om 28 49]
abbrev Vk : IC := .gh (.seq (.reg [od 29 (.bin .lss (tm 28) (tm 27))] [.keepB [3, 4, 5, 18, 19, 20, 26, 27, 28, 29] [14] 100000 16384]) (.seq (.cond (tm 29) .skip (.exit 2)) (.seq (.block 3 (.seq (.reg [om 30 28, od 31 (ia 1 26 28), od 32 (ld 1 31),
 om 7 30, om 8 32] [.keepB [3, 4, 5, 7, 8, 18, 19, 20, 26, 27, 28] [14] 100000 16384]) (.seq (.reg [om 33 4, om 34 8, od 35 (.callv (tm 33) [(tm 34)]), od 36 (.un .not (tm 35))] [.keepB [3, 4, 5, 7, 8, 18, 19, 20, 26, 27, 28, 36]
 [14] 100000 16384]) (.cond (tm 36) (.reg Dy [.renS 47 100000 8, .keepB [3, 4, 5, 18, 19, 20, 26, 27, 28] [14] 100000 16384]) .skip)))) (.reg Lc [.keepB [3, 4, 5, 18, 19, 20, 26, 27, 28] [14] 100000
 16384])))) [.keepB [3, 4, 5, 18, 19, 20, 26, 27, 28] [14] 100000 16384]
def Ie : IC := .loop Vk
abbrev Vl : IC := .gh (.seq (.reg [od 21 (.bin .lss (tm 20) (tm 19))] [.keepB [3, 4, 18, 19, 20, 21] [14] 100000 16384]) (.seq (.cond (tm 21) .skip (.exit 0)) (.seq (.block 1 (.seq (.reg [om 22 20, od 23 (ia 4 18 20), od 24 (lG 4 23), od 6 (.alloc
 false [(.int .u8 0), (.slice none 0 0), (.int .i64 0), (.int .i64 0)]), om 5 22, on (.store 4 (tm 6) (tm 24))] [.keepB [3, 4, 5, 6, 18, 19, 20] [6, 14] 100000 16384]) (.seq (.reg [od 25 (fa 1 6), od 26 (ld 1 25), od 27 (le 0 26),
 od 28 (.mv (ki 0))] [.keepB [3, 4, 5, 18, 19, 20, 26, 27, 28] [14] 100000 16384]) (.block 2 Ie)))) (.reg [od 50 (.bin .add (tm 20) (ki 1)), om 20 50] [.keepB [3, 4, 18, 19, 20] [14] 100000 16384])))) [.keepB [3, 4,
 18, 19, 20] [14] 100000 16384]
def Ig : IC := .loop Vl
abbrev Vm : IC := .gh (.seq (.reg [od 54 (.bin .lss (tm 53) (tm 52))] [kp [3, 51, 52, 53, 54] [14, 47]]) (.seq (.cond (tm 54) .skip (.exit 4)) (.seq (.block 5 (.seq (.reg [om 55 53, od 56 (ia 1 51 53), od 57 (ld 1 56), om 9 55, om 10 57] [kp [3, 9,
 10, 51, 52, 53] [14, 47]]) (.reg [om 58 3, om 59 9, om 60 10, od 61 (.call 170 [(tm 60)]), od 62 (ia 1 58 59), on (.store 1 (tm 62) (tm 61))] [kp [3, 51, 52, 53] [14, 47]]))) (.reg [od 63 (.bin .add (tm 53) (ki 1)), om 53 63] [kp
 [3, 51, 52, 53] [14, 47]])))) [kp [3, 51, 52, 53] [14, 47]]
def Ih : IC := .loop Vm
abbrev Vn : IC := (.seq (.reg [od 1 (.box true (tm 0)), od 2 (.mv kN)] [kp [1] []]) (.seq (.reg [od 11 (fa 0 1), od 12 (ld 1 11), od 13 (le 0 12), od 14 (.mkB 190 [(.slice none 0 0)] (tm 13) (tm 13)), om 3 14] [.keepB [1, 3] [14] 100000 16384])
 (.seq (.reg [od 15 (lG 4 1), od 16 (.call 169 [(tm 15)]), om 4 16] [.keepB [1, 3, 4] [14] 100000 16384]) (.seq (.seq (.reg [od 17 (fa 0 1), od 18 (ld 1 17), od 19 (le 0 18), od 20 (.mv (ki 0))] [.keepB [3, 4, 18, 19, 20] [14]
 100000 16384]) (.block 0 Ig)) (.seq (.seq (.reg [om 51 3, od 52 (le 0 51), od 53 (.mv (ki 0))] [.frzs 100000 16384, kp [3, 51, 52, 53] [14, 47]]) (.block 4 Ih)) (.seq (.reg [om 64 3, om 2 64] [kp [2]
 [14, 47]]) .ret))))))
theorem Oi (h : ∀ K : St → Prop, K = run P Γ Ie Q → run P Γ Vk (Ao K Q) s) : run P Γ Ie Q s := Ad h
theorem Oj (h : ∀ K : St → Prop, K = run P Γ Ig Q → run P Γ Vl (Ao K Q) s) : run P Γ Ig Q s := Ad h
theorem Ol (h : ∀ K : St → Prop, K = run P Γ Ih Q → run P Γ Vm (Ao K Q) s) : run P Γ Ih Q s := Ad h
attribute [simp] Dy Lc
def Vo : List RV := [.tmp 2]
/- slices.Index[[]probecard/api.Kind,probecard/api.Kind] (function 164) -/
abbrev Lm : IC := .gh (.seq (.reg [od 9 (.bin .lss (tm 8) (tm 7))] [kp [0, 1, 7, 8, 9] []]) (.seq (.cond (tm 9) .skip (.exit 0)) (.seq (.block 1 (.seq (.reg [om 10 8, om 5 10] [kp [0, 1, 5, 7, 8] []]) (.seq (.reg [om 11 1, om 12 0, om 13 5, od 14
 (ia 1 12 13), od 15 (ld 1 14), od 16 (.bin .eql (tm 11) (tm 15))] [kp [0, 1, 5, 7, 8, 16] []]) (.cond (tm 16) (.seq (.reg [om 17 5, om 4 17] [kp [4] []]) .ret) .skip)))) (.reg [od 18 (.bin .add (tm 8) (ki 1)), om 8 18] [kp [0, 1,
 7, 8] []])))) [kp [0, 1, 7, 8] []]
def Ea : IC := .loop Lm
def Gw : List RO := [od 4 (.mv (.const (.int .i64 (-1))))]
abbrev Ln : IC := (.seq (.reg [od 4 (.mv (ki 0))] [kp [0, 1] []]) (.seq (.seq (.reg [om 6 0, od 7 (le 0 6), od 8 (.mv (ki 0))] [kp [0, 1, 7, 8] []]) (.block 0 Ea)) (.seq (.reg Gw [kp [4] []]) .ret)))
theorem Ir (h : ∀ K : St → Prop, K = run P Γ Ea Q → run P Γ Lm (Ao K Q) s) : run P Γ Ea Q s := Ad h
attribute [simp] Gw
def Db : List RV := [.tmp 4]
/- probecard/logic.Fanin (function 113) -/
abbrev Vp : IC := (.seq (.reg [od 2 (.mv (ki 0)), od 3 (.mv (ki 0))] [kp [0] []]) (.seq (.seq (.reg [om 4 0, od 5 (.conv .i64 (tm 4)), od 6 (.bin .geq (tm 5) (ki 16))] [kp [0, 6] []]) (.cond (tm 6) (.seq (.reg [od 2 (.mv (ki 0)), od 3 (.mv (.const
 (.int .i64 (-1))))] [kp [2, 3] []]) .ret) .skip)) (.seq (.reg [om 7 0, od 8 (.iadrA 16 2 (.global 0) (tm 7)), od 9 (.iadrA 2 1 (tm 8) (ki 0)), od 10 (ld 1 9), om 11 0, od 12 (.iadrA 16 2 (.global 0) (tm 11)), od 13 (.iadrA 2 1 (tm
 12) (ki 1)), od 14 (ld 1 13), om 2 10, om 3 14] [kp [2, 3] []]) .ret)))
def Vq : List RV := [.tmp 2, .tmp 3]
/- strings.IndexByte (function 162) -/
abbrev Rt : IC := (.seq (.reg [od 4 (.mv (ki 0))] [kp [0, 1] []]) (.seq (.reg [om 5 0, om 6 1, od 7 (.call 180 [(tm 5), (tm 6)]), om 4 7] [kp [4] []]) .ret))
def Ru : List RV := [.tmp 4]
/- probecard/netlists.node (function 165) -/
abbrev Z0 : IC := (.seq (.reg [od 2 (.box true (tm 0)), od 3 (.box true (tm 1)), od 4 (.mv (ki 0))] [kp [2, 3] []]) (.seq (.reg [od 9 (fa 0 3), od 10 (ld 1 9), od 11 (.call 113 [(tm 10)]), om 8 11, od 12 (ex 8 0), od 13 (ex 8 1), om 5 12, om 6 13]
 [kp [2, 3, 5, 6] []]) (.seq (.reg [od 14 (.mkf 183 [(tm 2)]), om 7 14] [kp [2, 3, 5, 6, 7] []]) (.seq (.block 0 (.seq (.reg [od 16 (fa 0 3), od 17 (ld 1 16), od 18 (.bin .gtr (tm 17) (ku 15)), om 15 18] [kp [2, 3, 5, 6, 7, 15] []])
 (.cond (tm 15) (.seq (.reg [od 4 (.mv (ki 7))] [kp [4] []]) .ret) (.seq (.reg [od 20 (fa 1 3), od 21 (ld 1 20), od 22 (le 0 21), om 23 5, od 24 (.bin .lss (tm 22) (tm 23)), om 25 24, oF 26 (fa 1 3) 25, oF 27 (ld 1 26) 25, oF 28 (le
 0 27) 25, oF 29 (.mv (tm 6)) 25, oF 30 (.bin .gtr (tm 28) (tm 29)) 25, od 31 (.pick (tm 25) kT (tm 30)), om 19 31] [kp [2, 3, 7, 19] []]) (.cond (tm 19) (.seq (.reg [od 4 (.mv (ki 8))] [kp [4] []]) .ret) (.seq (.reg [od 33 (fa 1
 3), od 34 (ld 1 33), od 35 (lG 4 2), od 36 (.call 169 [(tm 35)]), od 37 (.call 168 [(tm 34), (tm 36)]), om 32 37] [kp [2, 3, 7, 32] []]) (.cond (tm 32) (.seq (.reg [od 4 (.mv (ki 1))] [kp [4] []]) .ret) (.seq (.reg [od 39 (fa 0 3),
 od 40 (ld 1 39), od 41 (.bin .eql (tm 40) (ku 13)), om 42 41, oT 43 (fa 1 3) 42, oT 44 (ld 1 43) 42, oT 45 (.mv (tm 7)) 42, oT 46 (.call 168 [(tm 44), (tm 45)]) 42, od 47 (.pick (tm 42) (tm 46) kF), om 38 47] [kp [2, 3, 38] []])
 (.cond (tm 38) (.seq (.reg [od 4 (.mv (ki 7))] [kp [4] []]) .ret) (.seq (.reg [od 49 (lG 4 2), od 50 (lG 4 3), od 51 (.call 184 [(tm 49), (tm 50)]), od 52 (.un .not (tm 51)), om 48 52] [kp [48] []]) (.cond (tm 48) (.seq (.reg [od 4
 (.mv (ki 1))] [kp [4] []]) .ret) .skip))))))))))) (.seq (.reg [od 4 (.mv (ki 0))] [kp [4] []]) .ret)))))
def Do : List RV := [.tmp 4]
/- probecard/netlists.names (function 166) -/
abbrev X8 : IC := .gh (.seq (.reg [od 11 (.bin .lss (tm 10) (tm 9))] [kp [3, 8, 9, 10, 11] [6]]) (.seq (.cond (tm 11) .skip (.exit 0)) (.seq (.block 1 (.seq (.reg [od 12 (ia 1 8 10), od 13 (ld 1 12), om 5 13] [kp [3, 5, 8, 9, 10] [6]]) (.seq (.seq
 (.reg [om 14 5, od 15 (.call 185 [(tm 14)]), od 16 (.un .not (tm 15)), om 17 16, oF 18 (.mv (tm 3)) 17, oF 19 (.mv (tm 5)) 17, oF 20 (.lkup .str (.bool false) false (tm 18) (tm 19)) 17, od 21 (.pick (tm 17) kT (tm 20))] [kp [3, 5,
 8, 9, 10, 21] [6]]) (.cond (tm 21) (.seq (.reg [od 2 (.mv (ki 5))] [kp [2] []]) .ret) .skip)) (.reg [om 22 3, om 23 5, on (.mup .str (tm 22) (tm 23) kT)] [kp [3, 8, 9, 10] [6]])))) (.reg [od 24 (.bin .add (tm 10) (ki 1)), om 10 24]
 [kp [3, 8, 9, 10] [6]])))) [kp [3, 8, 9, 10] [6]]
def J7 : IC := .loop X8
abbrev X9 : IC := (.seq (.reg [od 1 (.box true (tm 0)), od 2 (.mv (ki 0))] [kp [1] []]) (.seq (.reg [od 6 (.mkmap), om 3 6] [kp [1, 3] [6]]) (.seq (.seq (.reg [od 7 (fa 1 1), od 8 (ld 1 7), od 9 (le 0 8), od 10 (.mv (ki 0))] [kp [3, 8, 9, 10] [6]])
 (.block 0 J7)) (.seq (.reg [od 2 (.mv (ki 0))] [kp [2] []]) .ret))))
theorem Pv (h : ∀ K : St → Prop, K = run P Γ J7 Q → run P Γ X8 (Ao K Q) s) : run P Γ J7 Q s := Ad h
def Om : List RV := [.tmp 2]
/- probecard/netlists.memory (function 167) -/
abbrev Vr : IC := (.seq (.reg [od 2 (.box true (tm 0)), od 3 (.box true (tm 1)), od 4 (.mv (ki 0))] [kp [2, 3] []]) (.seq (.reg [od 5 (.mv (.func 186))] [kp [2, 3, 5] []]) (.seq (.reg [od 7 (lG 4 2), od 8 (.call 169 [(tm 7)]), om 6 8] [kp [3, 5, 6]
 []]) (.seq (.block 0 (.seq (.reg [om 10 5, od 11 (fa 0 3), od 12 (ld 1 11), od 13 (.callv (tm 10) [(tm 12), (ki 8)]), om 14 13, oF 15 (.mv (tm 5)) 14, oF 16 (fa 1 3) 14, oF 17 (ld 1 16) 14, oF 18 (.callv (tm 15) [(tm 17), (ki 32)])
 14, od 19 (.pick (tm 14) kT (tm 18)), om 9 19] [kp [3, 6, 9] []]) (.cond (tm 9) (.seq (.reg [od 4 (.mv (ki 8))] [kp [4] []]) .ret) (.seq (.reg [od 21 (fa 0 3), od 22 (ld 1 21), om 23 6, od 24 (.call 168 [(tm 22), (tm 23)]), om 25
 24, oF 26 (fa 1 3) 25, oF 27 (ld 1 26) 25, oF 28 (.mv (tm 6)) 25, oF 29 (.call 168 [(tm 27), (tm 28)]) 25, od 30 (.pick (tm 25) kT (tm 29)), om 31 30, oF 32 (.mv (tm 6)) 31, oF 33 (fa 2 3) 31, oF 34 (ld 1 33) 31, oF 35 (.callv (tm
 32) [(tm 34)]) 31, od 36 (.pick (tm 31) kT (tm 35)), om 20 36] [kp [20] []]) (.cond (tm 20) (.seq (.reg [od 4 (.mv (ki 1))] [kp [4] []]) .ret) .skip))))) (.seq (.reg [od 4 (.mv (ki 0))] [kp [4] []]) .ret)))))
def Dk : List RV := [.tmp 4]
/- slices.ContainsFunc[[]int,int] (function 168) -/
abbrev Jt : IC := (.seq (.reg [od 4 (.mv kF)] [kp [0, 1] []]) (.seq (.reg [om 5 0, om 6 1, od 7 (.call 187 [(tm 5), (tm 6)]), od 8 (.bin .geq (tm 7) (ki 0)), om 4 8] [kp [4] []]) .ret))
def Ju : List RV := [.tmp 4]
/- probecard/netlists.outside (function 169) -/
abbrev Tq : IC := (.seq (.reg [od 1 (.box true (tm 0)), od 2 (.mv (.const .nilFunc))] [kp [1] []]) (.seq (.reg [od 3 (.mkf 188 [(tm 1)]), om 2 3] [kp [2] []]) .ret))
def Tt : List RV := [.tmp 2]
/- slices.Clip[[]probecard/api.Line,probecard/api.Line] (function 170) -/
abbrev Nl : IC := (.seq (.reg [od 2 (.mv kN)] [kp [0] []]) (.seq (.reg [om 3 0, om 4 0, od 5 (le 0 4), om 6 0, od 7 (le 0 6), od 8 (.slice 2 (tm 3) none (some (tm 5)) (some (tm 7))), om 2 8] [kp [2] []]) .ret))
def Nn : List RV := [.tmp 2]
/- internal/stringslite.IndexByte (function 180) -/
abbrev Jv : IC := (.seq (.reg [od 4 (.mv (ki 0))] [kp [0, 1] []]) (.seq (.reg [om 5 0, om 6 1, od 7 (.call 197 [(tm 5), (tm 6)]), om 4 7] [kp [4] []]) .ret))
def Jw : List RV := [.tmp 4]
/- probecard/netlists.node$1 (function 183) -/
abbrev Vs : IC := (.seq (.reg [od 3 (.mv kF)] [kp [0, 1] []]) (.seq (.reg [od 4 (fa 0 1), od 5 (ld 1 4), om 6 0, od 7 (ia 4 5 6), od 8 (fa 0 7), od 9 (ld 1 8), od 10 (.bin .neq (tm 9) (ku 12)), om 3 10] [kp [3] []]) .ret))
def Vt : List RV := [.tmp 3]
/- probecard/netlists.bit (function 184) -/
abbrev En : IC := (.seq (.reg [od 2 (.box true (tm 0)), od 3 (.box true (tm 1)), od 4 (.mv kF)] [kp [2, 3] []]) (.seq (.seq (.reg [od 5 (fa 0 3), od 6 (ld 1 5), od 7 (.bin .neq (tm 6) (ku 15))] [kp [2, 3, 7] []]) (.cond (tm 7) (.seq (.reg [od 8 (fa
 2 3), od 9 (ld 1 8), od 10 (.bin .eql (tm 9) (ki 0)), om 11 10, oT 12 (fa 3 3) 11, oT 13 (ld 1 12) 11, oT 14 (.bin .eql (tm 13) (ki 0)) 11, od 15 (.pick (tm 11) (tm 14) kF), om 4 15] [kp [4] []]) .ret) .skip)) (.seq (.reg [od 16
 (fa 2 3), od 17 (ld 1 16), od 18 (.bin .geq (tm 17) (ki 0)), om 19 18, oT 20 (fa 2 3) 19, oT 21 (ld 1 20) 19, oT 22 (fa 2 2) 19, oT 23 (ld 1 22) 19, oT 24 (le 0 23) 19, oT 25 (.bin .lss (tm 21) (tm 24)) 19, od 26 (.pick (tm 19) (tm
 25) kF), om 27 26, oT 28 (fa 3 3) 27, oT 29 (ld 1 28) 27, oT 30 (.bin .geq (tm 29) (ki 0)) 27, od 31 (.pick (tm 27) (tm 30) kF), om 32 31, oT 33 (fa 3 3) 32, oT 34 (ld 1 33) 32, oT 35 (fa 2 2) 32, oT 36 (ld 1 35) 32, oT 37 (fa 2 3)
 32, oT 38 (ld 1 37) 32, oT 39 (ia 3 36 38) 32, oT 40 (fa 1 39) 32, oT 41 (ld 1 40) 32, oT 42 (le 0 41) 32, oT 43 (.bin .lss (tm 34) (tm 42)) 32, od 44 (.pick (tm 32) (tm 43) kF), om 4 44] [kp [4] []]) .ret)))
def Eo : List RV := [.tmp 4]
/- probecard/netlists.IsName (function 185) -/
abbrev Ii : IC := (.seq (.reg [od 2 (.mv kF)] [kp [0] []]) (.seq (.reg [od 3 (.mv (.func 198))] [kp [0, 3] []]) (.seq (.reg [om 4 0, od 5 (.bin .neq (tm 4) (.const (sV []))), om 6 5, oT 7 (.mv (tm 0)) 6, oT 8 (le 1 7) 6, oT 9 (.bin .leq (tm 8) (ki
 32)) 6, od 10 (.pick (tm 6) (tm 9) kF), om 11 10, oT 12 (.mv (tm 0)) 11, oT 13 (.mv (tm 3)) 11, oT 14 (.call 200 [(tm 12), (tm 13)]) 11, oT 15 (.un .not (tm 14)) 11, od 16 (.pick (tm 11) (tm 15) kF), om 2 16] [kp [2] []]) .ret)))
def Ij : List RV := [.tmp 2]
/- probecard/netlists.memory$1 (function 186) -/
abbrev Rw : IC := (.seq (.reg [od 4 (.mv kF)] [kp [0, 1] []]) (.seq (.reg [om 5 0, od 6 (le 0 5), od 7 (.bin .eql (tm 6) (ki 0)), om 8 7, oF 9 (.mv (tm 0)) 8, oF 10 (le 0 9) 8, oF 11 (.mv (tm 1)) 8, oF 12 (.bin .gtr (tm 10) (tm 11)) 8, od 13 (.pick
 (tm 8) kT (tm 12)), om 4 13] [kp [4] []]) .ret))
def Rx : List RV := [.tmp 4]
/- slices.IndexFunc[[]int,int] (function 187) -/
abbrev Np : IC := .gh (.seq (.reg [od 9 (.bin .lss (tm 8) (tm 7))] [kp [0, 1, 7, 8, 9] []]) (.seq (.cond (tm 9) .skip (.exit 0)) (.seq (.block 1 (.seq (.reg [om 10 8, om 5 10] [kp [0, 1, 5, 7, 8] []]) (.seq (.reg [om 11 1, om 12 0, om 13 5, od 14
 (ia 1 12 13), od 15 (ld 1 14), od 16 (.callv (tm 11) [(tm 15)])] [kp [0, 1, 5, 7, 8, 16] []]) (.cond (tm 16) (.seq (.reg [om 17 5, om 4 17] [kp [4] []]) .ret) .skip)))) (.reg [od 18 (.bin .add (tm 8) (ki 1)), om 8 18] [kp [0, 1, 7,
 8] []])))) [kp [0, 1, 7, 8] []]
def Ek : IC := .loop Np
abbrev Nq : IC := (.seq (.reg [od 4 (.mv (ki 0))] [kp [0, 1] []]) (.seq (.seq (.reg [om 6 0, od 7 (le 0 6), od 8 (.mv (ki 0))] [kp [0, 1, 7, 8] []]) (.block 0 Ek)) (.seq (.reg [od 4 (.mv (.const (.int .i64 (-1))))] [kp [4] []])
 .ret)))
theorem J8 (h : ∀ K : St → Prop, K = run P Γ Ek Q → run P Γ Np (Ao K Q) s) : run P Γ Ek Q s := Ad h
def Hh : List RV := [.tmp 4]
/- probecard/netlists.outside$1 (function 188) -/
abbrev Px : IC := (.seq (.reg [od 3 (.mv kF)] [kp [0, 1] []]) (.seq (.reg [om 4 0, od 5 (.bin .lss (tm 4) (ki 0)), om 6 5, oF 7 (.mv (tm 0)) 6, oF 8 (fa 0 1) 6, oF 9 (ld 1 8) 6, oF 10 (le 0 9) 6, oF 11 (.bin .geq (tm 7) (tm 10)) 6, od 12 (.pick (tm
 6) kT (tm 11)), om 3 12] [kp [3] []]) .ret))
def Py : List RV := [.tmp 3]
/- probecard/netlists.IsName$1 (function 198) -/
abbrev Gm : IC := (.seq (.reg [od 2 (.mv kF)] [kp [0] []]) (.seq (.reg [om 3 0, od 4 (.bin .leq (tm 3) (.const (.int .i32 32))), om 5 4, oF 6 (.mv (tm 0)) 5, oF 7 (.bin .gtr (tm 6) (.const (.int .i32 126))) 5, od 8 (.pick (tm 5) kT (tm 7)), om 9 8,
 oF 10 (.mv (tm 0)) 9, oF 11 (.call 199 [(.const (sV [40, 41, 61, 44, 35])), (tm 10)]) 9, od 12 (.pick (tm 9) kT (tm 11)), om 2 12] [kp [2] []]) .ret))
def Gn : List RV := [.tmp 2]
/- strings.ContainsRune (function 199) -/
abbrev Nr : IC := (.seq (.reg [od 4 (.mv kF)] [kp [0, 1] []]) (.seq (.reg [om 5 0, om 6 1, od 7 (.call 206 [(tm 5), (tm 6)]), od 8 (.bin .geq (tm 7) (ki 0)), om 4 8] [kp [4] []]) .ret))
def Ns : List RV := [.tmp 4]
/- strings.ContainsFunc (function 200) -/
abbrev Nu : IC := (.seq (.reg [od 4 (.mv kF)] [kp [0, 1] []]) (.seq (.reg [om 5 0, om 6 1, od 7 (.call 207 [(tm 5), (tm 6)]), od 8 (.bin .geq (tm 7) (ki 0)), om 4 8] [kp [4] []]) .ret))
def Nv : List RV := [.tmp 4]
/- strings.IndexRune (function 206) -/
abbrev Ry : IC := (.seq (.reg [od 4 (.mv (ki 0))] [kp [0, 1] []]) (.block 0 (.seq (.reg [om 161 1, od 162 (.bin .leq (.const (.int .i32 0)) (tm 161)), om 163 162, oT 164 (.mv (tm 1)) 163, oT 165 (.bin .lss (tm 164) (.const (.int .i32 128))) 163, od
 166 (.pick (tm 163) (tm 165) kF), om 160 166] [kp [0, 1, 160] []]) (.cond (tm 160) (.seq (.reg [om 167 0, om 168 1, od 169 (.conv .u8 (tm 168)), od 170 (.call 162 [(tm 167), (tm 169)]), om 4 170] [kp [4] []]) .ret) (.seq (.reg [om
 172 1, od 173 (.bin .eql (tm 172) (.const (.int .i32 65533))), om 171 173] [kp [1, 171] []]) (.cond (tm 171) .dead (.seq (.reg [om 184 1, od 185 (.call 208 [(tm 184)]), od 186 (.un .not (tm 185)), om 183 186] [kp [183] []]) (.cond
 (tm 183) .dead .dead))))))))
def Rz : List RV := [.tmp 4]
/- strings.IndexFunc (function 207) -/
abbrev S0 : IC := (.seq (.reg [od 4 (.mv (ki 0))] [kp [0, 1] []]) (.seq (.reg [om 5 0, om 6 1, od 7 (.call 211 [(tm 5), (tm 6), kT]), om 4 7] [kp [4] []]) .ret))
def S1 : List RV := [.tmp 4]
/- unicode/utf8.ValidRune (function 208) -/
abbrev S3 : IC := .gh (.seq (.reg [od 11 (.nxt (tm 10)), od 12 (ex 11 0)] [kp [1, 2, 10, 11, 12] [10]]) (.seq (.cond (tm 12) .skip (.exit 0)) (.block 1 (.seq (.reg [od 13 (ex 11 1), od 14 (ex 11 2), om 7 13, om 8 14] [kp [1, 2, 7, 8, 10] [10]])
 (.seq (.reg [om 15 1, om 16 8, od 17 (.callv (tm 15) [(tm 16)]), om 18 2, od 19 (.eqb true (tm 17) (tm 18))] [kp [1, 2, 7, 10, 19] [10]]) (.cond (tm 19) (.seq (.reg [om 20 7, om 6 20] [kp [6] []]) .ret) .skip)))))) [kp [1, 2, 10]
 [10]]
def Gp : IC := .loop S3
abbrev S4 : IC := (.seq (.reg [od 6 (.mv (ki 0))] [kp [0, 1, 2] []]) (.seq (.seq (.reg [om 9 0, od 10 (.rng (tm 9))] [kp [1, 2, 10] [10]]) (.block 0 Gp)) (.seq (.reg [od 6 (.mv (.const (.int .i64 (-1))))] [kp [6] []]) .ret)))
theorem Lo (h : ∀ K : St → Prop, K = run P Γ Gp Q → run P Γ S3 (Ao K Q) s) : run P Γ Gp Q s := Ad h
def Jx : List RV := [.tmp 6]
end
end Go.Lg
namespace Go.Lg
open Go Go.Proofs
theorem q31 : Aq Tryz.prog 32 X4 11 1 X5 = true := by kernel_rfl
theorem q5i : Aq Tryz.prog 90 q0s 27 2 q0t = true := by kernel_rfl
theorem q28 : Aq Tryz.prog 31 Vb 6 1 Vd = true := by kernel_rfl
theorem q3j : Aq Tryz.prog 48 Yy 9 1 Yz = true := by kernel_rfl
theorem q29 : Aq Tryz.prog 86 Ve 9 1 Vf = true := by kernel_rfl
theorem q2A : Aq Tryz.prog 91 Vj 131 1 Ic = true := by kernel_rfl
theorem Tc : Aq Tryz.prog 144 J3 9 2 J4 = true := by kernel_rfl
theorem q32 : Aq Tryz.prog 145 Ej 73 1 C2 = true := by kernel_rfl
theorem q2B : Aq Tryz.prog 146 Vn 65 1 Vo = true := by kernel_rfl
theorem Wv : Aq Tryz.prog 164 Ln 19 2 Db = true := by kernel_rfl
theorem q5j : Aq Tryz.prog 113 Vp 15 1 Vq = true := by kernel_rfl
theorem q0W : Aq Tryz.prog 162 Rt 8 2 Ru = true := by kernel_rfl
theorem q3k : Aq Tryz.prog 165 Z0 53 2 Do = true := by kernel_rfl
theorem q33 : Aq Tryz.prog 166 X9 25 1 Om = true := by kernel_rfl
theorem q2C : Aq Tryz.prog 167 Vr 37 2 Dk = true := by kernel_rfl
theorem Um : Aq Tryz.prog 168 Jt 9 2 Ju = true := by kernel_rfl
theorem q0u : Aq Tryz.prog 169 Tq 4 1 Tt = true := by kernel_rfl
theorem Yf : Aq Tryz.prog 170 Nl 9 1 Nn = true := by kernel_rfl
theorem Un : Aq Tryz.prog 180 Jv 8 2 Jw = true := by kernel_rfl
theorem q2D : Aq Tryz.prog 183 Vs 11 2 Vt = true := by kernel_rfl
theorem q4f : Aq Tryz.prog 184 En 45 2 Eo = true := by kernel_rfl
theorem q2E : Aq Tryz.prog 185 Ii 17 1 Ij = true := by kernel_rfl
theorem q0X : Aq Tryz.prog 186 Rw 14 2 Rx = true := by kernel_rfl
theorem Yg : Aq Tryz.prog 187 Nq 19 2 Hh = true := by kernel_rfl
theorem Zx : Aq Tryz.prog 188 Px 13 2 Py = true := by kernel_rfl
theorem q0Y : Aq Tryz.prog 198 Gm 13 1 Gn = true := by kernel_rfl
theorem Yh : Aq Tryz.prog 199 Nr 9 2 Ns = true := by kernel_rfl
theorem Yi : Aq Tryz.prog 200 Nu 9 2 Nv = true := by kernel_rfl
theorem q0Z : Aq Tryz.prog 206 Ry 187 2 Rz = true := by kernel_rfl
theorem q0a : Aq Tryz.prog 207 S0 8 2 S1 = true := by kernel_rfl
theorem q0b : Aq Tryz.prog 211 S4 21 3 Jx = true := by kernel_rfl
end Go.Lg
set_option maxRecDepth 100000
namespace Go.Lg
open Go Go.Proofs
variable {Γ : Tables}
theorem q83 (es : List (List T)) (cap : Option Nat) (nl : Option Bool) (hw : E5 2 es) : Ab Tryz.prog Γ 170 [.sl es cap nl] (.sl es (some es.length) nl) := by
 refine Ax Yf rfl ?_
 simp [Nl, Nn, ret, hw]
theorem qB5 (ty : Nat) (es : List (List T)) (len : Nat) (cap : Option Nat) (hw : E5 1 es) : Fe Tryz.prog Γ 86 [(1000000, .sl ty 1 es)] [.ls 1000000 0 len cap] (.ls 1000000 0 len (some len)) [(1000000, .sl ty 1 es)] := by
 refine Hg q29 rfl ?_
 simp [Ve, Vf, qCl, hw]
def Yj {α : Type} (p : α → Bool) (l : List α) : Int := match l.findIdx? p with | some i => i | none => -1
theorem Zy {α : Type} {p : α → Bool} {l : List α} {i : Nat} (hp : ∀ j, j < i → ∀ x, l[j]? = some x → p x = false) (x : α) (hx : l[i]? = some x) (h : p x = true) : l.findIdx? p = some i := by
 rw [List.findIdx?_eq_some_iff_getElem]
 have hi := (List.getElem?_eq_some_iff.1 hx).1
 refine ⟨hi, ?_, fun j hj => ?_⟩
 ·have := (List.getElem?_eq_some_iff.1 hx).2; rw [this]; exact h
 ·have := hp j hj l[j] (List.getElem?_eq_getElem (by omega))
  simp [this]
theorem q0L (l : List Int) (c : Option Nat) (nl : Option Bool) (x : Int) (hl : l.length ≤ 1000000000) : ∀ (k i : Nat), k + i = l.length → (∀ j, j < i → ∀ y, l[j]? = some y → (y == x) = false) →
  run Tryz.prog Γ Ea (L8 0 (Ao (run Tryz.prog Γ (.seq (.reg Gw [.keep [4] []]) .ret) (ret true Db fun r => r = tI (Yj (· == x) l))) (ret true Db fun r => r = tI (Yj (· == x) l)))) ⟨[(0, .t (.sl (A9 tK l) c nl)), (1, .t (tK x)), (7, .t (tI l.length)), (8, .t (tI i))], []⟩
 | 0, i, h, hp => by
  refine Ir fun K hK => ?_
  have h2 : ¬ i < l.length := by omega
  simp (disch := omega) [A1, Bt (0 : Int), A5, A4, h2, ret, Db, Da, F5, F4, Ap]
  have : l.findIdx? (· == x) = none := by
   rw [List.findIdx?_eq_none_iff]
   intro y hy
   obtain ⟨j, hj, rfl⟩ := List.getElem_of_mem hy
   exact hp j (by omega) _ (List.getElem?_eq_getElem hj)
  have e : l.findIdx? (fun y => decide (y = x)) = _ := this
  simp [Yj, e]
 | k + 1, i, h, hp => by
  refine Ir fun K hK => ?_
  have h2 : i < l.length := by omega
  simp (disch := omega) [A1, Bt (0 : Int), A5, A4, h2]
  refine ⟨fun hc => ?_, fun hc => ?_⟩
  ·simp [Ba, ret, Db, Da, F5, F4, Ap]
   have := Zy (p := (· == x)) hp l[i] (List.getElem?_eq_getElem h2) (by simp [hc])
   have e : l.findIdx? (fun y => decide (y = x)) = _ := this
   simp [Yj, e]
  ·simp (disch := omega) [Ba, A4]
   rw [hK]
   exact_mod_cast q0L l c nl x hl k (i + 1) (by omega) (fun j hj y hy => by
    rcases Nat.lt_succ_iff_lt_or_eq.1 hj with hj | rfl
    ·exact hp j hj y hy
    ·rw [List.getElem?_eq_getElem h2] at hy; simp at hy; subst hy
     simp; exact fun e => hc e.symm)
theorem qB6 (l : List Int) (c : Option Nat) (nl : Option Bool) (x : Int) (hl : l.length ≤ 1000000000) : A3 Tryz.prog Γ 164 [.sl (A9 tK l) c nl, tK x] (tI (Yj (· == x) l)) := by
 refine A6 Wv rfl ?_
 simp (disch := omega) [Ln, A1, A4]
 exact_mod_cast q0L l c nl x hl l.length 0 (by omega) (by simp)
theorem q7W (l : List Int) (c : Option Nat) (nl : Option Bool) (x : Int) (hl : l.length ≤ 1000000000) : A3 Tryz.prog Γ 144 [.sl (A9 tK l) c nl, tK x] (tB (l.contains x)) := by
 refine A6 Tc rfl ?_
 simp (disch := omega) [J3, A1, A4]
 refine A0 (qB6 l c nl x hl) rfl ?_
 simp [ret, J4, Da, F5, F4, Ap]
 unfold Yj
 cases h : l.findIdx? (· == x) with
 | none =>
  rw [List.findIdx?_eq_none_iff] at h
  have : ¬ x ∈ l := fun hx => by simpa using h x hx
  simp [this]
 | some i =>
  rw [List.findIdx?_eq_some_iff_getElem] at h
  obtain ⟨hi, h1, _⟩ := h
  have : x ∈ l := by rw [← (show l[i] = x by simpa using h1)]; exact List.getElem_mem hi
  simp [this]
theorem Nw {cs : List T} : Aj (cs.map fun t => some t) = some cs := by
 induction cs with
 | nil => rfl
 | cons t cs ih => simp only [List.map_cons, Aj, ih, Option.map_some]
theorem Vu {hp : List (Nat × B0)} {f : FuncId} {K : T → Prop} {cs : List T} {t res : T} (h : A3 Tryz.prog Γ f (t :: cs) res) (hk : K res) : q2M Tryz.prog Γ hp f (.t t :: cs.map .t) K ⟨⟩ :=
 A0 h (by simp only [List.map_cons, List.map_map, Function.comp_def, Aj, Ae]; rw [Nw]; rfl) hk
theorem q0v {Q : AX → St → Prop} (l : List Int) (c : Option Nat) (nl : Option Bool) (f : FuncId) (cs : List T) (p : Int → Bool) (hp : ∀ x ∈ l, A3 Tryz.prog Γ f (tI x :: cs) (tB (p x))) (hl : l.length ≤ 1000000000)
  (h0 : (∀ x ∈ l, p x = false) → Q (.exit 0) ⟨[(0, .t (.sl (Bw l) c nl)), (1, .t (.fn f cs)), (7, .t (tI l.length)), (8, .t (tI l.length)), (9, .t (tB false))], []⟩)
  (h1 : ∀ i : Nat, l.findIdx? p = some i → Q .ret ⟨[(4, .t (tI i))], []⟩) : ∀ (k i : Nat), k + i = l.length → (∀ j, j < i → ∀ y, l[j]? = some y → p y = false) →
  run Tryz.prog Γ Ek Q ⟨[(0, .t (.sl (Bw l) c nl)), (1, .t (.fn f cs)), (7, .t (tI l.length)), (8, .t (tI i))], []⟩
 | 0, i, h, hq => by
  refine J8 fun K hK => ?_
  have h2 : ¬ i < l.length := by omega
  simp (disch := omega) [A1, Bt (0 : Int), A5, A4, h2]
  have h3 : i = l.length := by omega
  subst h3
  refine h0 fun y hy => ?_
  obtain ⟨j, hj, rfl⟩ := List.getElem_of_mem hy
  exact hq j (by omega) _ (List.getElem?_eq_getElem hj)
 | k + 1, i, h, hq => by
  refine J8 fun K hK => ?_
  have h2 : i < l.length := by omega
  simp (disch := omega) [A1, Bt (0 : Int), A5, A4, h2]
  refine Vu (hp l[i] (List.getElem_mem h2)) ?_
  simp
  refine ⟨fun hc => ?_, fun hc => ?_⟩
  ·simp [Ba]
   exact h1 i (Zy hq l[i] (List.getElem?_eq_getElem h2) hc)
  ·simp (disch := omega) [Ba, A4]
   rw [hK]
   exact_mod_cast q0v l c nl f cs p hp hl h0 h1 k (i + 1) (by omega) (fun j hj y hy => by
    rcases Nat.lt_succ_iff_lt_or_eq.1 hj with hj | rfl
    ·exact hq j hj y hy
    ·rw [List.getElem?_eq_getElem h2] at hy; simp at hy; subst hy; exact hc)
theorem q7X (l : List Int) (c : Option Nat) (nl : Option Bool) (f : FuncId) (cs : List T) (p : Int → Bool) (hp : ∀ x ∈ l, A3 Tryz.prog Γ f (tI x :: cs) (tB (p x))) (hl : l.length ≤ 1000000000) : A3 Tryz.prog Γ 187 [.sl (Bw l) c nl, .fn f cs] (tI (Yj p l)) := by
 refine A6 Yg rfl ?_
 simp (disch := omega) [Nq, A1, A4]
 refine q0v l c nl f cs p hp hl (fun h => ?_) (fun i h => ?_) l.length 0 (by omega) (by simp)
 ·have : l.findIdx? p = none := List.findIdx?_eq_none_iff.2 h
  simp [ret, Hh, Da, F5, F4, Ap, Yj, this]
 ·simp [ret, Hh, Da, F5, F4, Ap, Yj, h]
theorem Z1 (l : List Int) (c : Option Nat) (nl : Option Bool) (f : FuncId) (cs : List T) (p : Int → Bool) (hp : ∀ x ∈ l, A3 Tryz.prog Γ f (tI x :: cs) (tB (p x))) (hl : l.length ≤ 1000000000) : A3 Tryz.prog Γ 168 [.sl (Bw l) c nl, .fn f cs] (tB (l.any p)) := by
 refine A6 Um rfl ?_
 simp (disch := omega) [Jt, A1, A4]
 refine A0 (q7X l c nl f cs p hp hl) rfl ?_
 simp [ret, Ju, Da, F5, F4, Ap]
 unfold Yj
 cases h : l.findIdx? p with
 | none =>
  rw [List.findIdx?_eq_none_iff] at h
  have : l.any p = false := by rw [List.any_eq_false]; intro x hx; simp [h x hx]
  simp [this]
 | some i =>
  rw [List.findIdx?_eq_some_iff_getElem] at h
  obtain ⟨hi, h1, _⟩ := h
  have : l.any p = true := List.any_eq_true.2 ⟨_, List.getElem_mem hi, h1⟩
  simp [this]
theorem q4g (k : Int) : A3 Tryz.prog Γ 48 [tK k] (tB (decide (1 ≤ k ∧ k ≤ 13))) := by
 refine A6 q3j rfl ?_
 by_cases h1 : 1 ≤ k <;> by_cases h2 : k ≤ 13 <;> simp [Yy, ret, Yz, Da, F5, F4, Ap, h1, h2]
structure Nd where
 k : Int
 inn : Sl Int
 mem : Int
 bit : Int
structure Mm where
 addr : Sl Int
 data : Sl Int
 write : Int
structure B1 where
 nodes : Sl Nd
 names : Sl (List UInt8)
 mems : Sl Mm
 outs : Sl Int
def Gq (x : Nd) : List T := [tK x.k, Bo x.inn, tI x.mem, tI x.bit]
def tMm (m : Mm) : List T := [Bo m.addr, Bo m.data, tI m.write]
def tS (l : List UInt8) : T := .v (sV l)
def A7 (s : Sl Nd) : T := .sl (B8 Gq s.l) s.cap s.nl
def Ac (s : Sl (List UInt8)) : T := .sl (A9 tS s.l) s.cap s.nl
def Af (s : Sl Mm) : T := .sl (B8 tMm s.l) s.cap s.nl
def tC (c : B1) : List T := [A7 c.nodes, Ac c.names, Af c.mems, Bo c.outs]
def Nd.d : Nd := ⟨0, ⟨[], none, none⟩, 0, 0⟩
def Mm.d : Mm := ⟨⟨[], none, none⟩, ⟨[], none, none⟩, 0⟩
theorem Bl {l : List Nd} : E5 4 (B8 Gq l) := q3i fun _ => rfl
theorem On {l : List Mm} : E5 3 (B8 tMm l) := q3i fun _ => rfl
structure CirOk (c : B1) : Prop where
 nodes : c.nodes.l.length ≤ 1000000000
 names : c.names.l.length ≤ 1000000000
 mems : c.mems.l.length ≤ 1000000000
 outs : c.outs.l.length ≤ 1000000000
 kind : ∀ x ∈ c.nodes.l, 0 ≤ x.k ∧ x.k ≤ 255
 inn : ∀ x ∈ c.nodes.l, x.inn.l.length ≤ 1000000000
 addr : ∀ m ∈ c.mems.l, m.addr.l.length ≤ 1000000000 ∧ m.data.l.length ≤ 1000000000
def Oo (c : B1) (n : Int) : Bool := decide (n < 0 ∨ (c.nodes.l.length : Int) ≤ n)
theorem Yk (c : B1) (n : Int) (hc : c.nodes.l.length ≤ 1000000000) : A3 Tryz.prog Γ 188 [tI n, .ip (tC c) 0] (tB (Oo c n)) := by
 refine A6 Zx rfl ?_
 by_cases h1 : n < 0 <;> simp (disch := omega) [Px, ret, Py, Da, F5, F4, Ap, h1, tC, A7, Aa, A4, Oo]
theorem Uo (c : B1) : Ab Tryz.prog Γ 169 [.agg (tC c)] (.fn 188 [.ip (tC c) 0]) := by
 refine Ax q0u rfl ?_
 simp [Tq, ret, Tt, tC, C5, Cd, T.one, AV.one, A7, Ac, Af, Bo]
theorem Xa (c : B1) (hc : c.nodes.l.length ≤ 1000000000) (l : List Int) (cap : Option Nat) (nl : Option Bool) (hl : l.length ≤ 1000000000) : A3 Tryz.prog Γ 168 [.sl (Bw l) cap nl, .fn 188 [.ip (tC c) 0]] (tB (l.any (Oo c))) :=
 Z1 l cap nl _ _ _ (fun x _ => Yk c x hc) hl
def q6h : List (Int × Int) := [(0, 0), (0, 0), (0, 0), (1, 1), (1, 1), (2, 16), (2, 16), (2, 16), (2, 16), (2, 16), (2, 16), (3, 3), (2, 2), (1, 16), (1, 1), (0, 0)]
def qCm : List T := q6h.flatMap fun p => [tI p.1, tI p.2]
def Td (k : Int) : Int × Int := if 16 ≤ k then (0, -1) else q6h.getD k.toNat (0, 0)
def GOk (Γ : Tables) : Prop := Γ 0 = some qCm
theorem D7 (hΓ : GOk Γ) (k : Int) (h0 : 0 ≤ k) (h1 : k ≤ 255) : A3 Tryz.prog Γ 113 [tK k] (.tup [tI (Td k).1, tI (Td k).2]) := by
 unfold GOk at hΓ
 refine A6 q5j rfl ?_
 by_cases h2 : 16 ≤ k
 ·simp (disch := omega) [Vp, ret, Vq, Da, F5, F4, Ap, h2, A4, Td]
 ·have h3 : k = 0 ∨ k = 1 ∨ k = 2 ∨ k = 3 ∨ k = 4 ∨ k = 5 ∨ k = 6 ∨ k = 7 ∨ k = 8 ∨ k = 9 ∨ k = 10 ∨ k = 11 ∨ k = 12 ∨ k = 13 ∨ k = 14 ∨ k = 15 := by omega
  rcases h3 with rfl | rfl | rfl | rfl | rfl | rfl | rfl | rfl | rfl | rfl | rfl | rfl | rfl | rfl | rfl | rfl <;>
  simp (disch := omega) [Vp, ret, Vq, Da, F5, F4, Ap, A4, Td, hΓ, qCm, q6h] <;> exact ⟨rfl, rfl⟩
def Z2 (c : B1) (x : Nd) : Bool :=
 if x.k ≠ 15 then decide (x.mem = 0 ∧ x.bit = 0)
 else decide (0 ≤ x.mem ∧ x.mem < c.mems.l.length ∧ 0 ≤ x.bit ∧ x.bit < ((c.mems.l.getD x.mem.toNat Mm.d).data.l.length))
theorem qDk (c : B1) (x : Nd) (hc : CirOk c) : A3 Tryz.prog Γ 184 [.agg (tC c), .agg (Gq x)] (tB (Z2 c x)) := by
 refine A6 q4f rfl ?_
 have hm := hc.mems
 by_cases h1 : x.k = 15
 ·by_cases h2 : 0 ≤ x.mem
  ·by_cases h3 : x.mem < c.mems.l.length
   ·have h3' : x.mem.toNat < c.mems.l.length := by omega
    by_cases h4 : 0 ≤ x.bit
    ·simp (disch := omega) [En, ret, Eo, Da, F5, F4, Ap, C5, Cd, T.one, AV.one, tC, Gq, A7, Ac, Af, Bo, h1, h2, h3, h4, h3', Aa, E4 Mm.d, A4, On, tMm, A1, Z2]
    ·simp (disch := omega) [En, ret, Eo, Da, F5, F4, Ap, C5, Cd, T.one, AV.one, tC, Gq, A7, Ac, Af, Bo, h1, h2, h3, h4, h3', Aa, E4 Mm.d, A4, On, tMm, A1, Z2]
   ·simp (disch := omega) [En, ret, Eo, Da, F5, F4, Ap, C5, Cd, T.one, AV.one, tC, Gq, A7, Ac, Af, Bo, h1, h2, h3, Aa, E4 Mm.d, A4, On, tMm, A1, Z2]
  ·simp (disch := omega) [En, ret, Eo, Da, F5, F4, Ap, C5, Cd, T.one, AV.one, tC, Gq, A7, Ac, Af, Bo, h1, h2, Aa, E4 Mm.d, A4, On, tMm, A1, Z2]
 ·by_cases h2 : x.mem = 0
  ·simp (disch := omega) [Ba, En, Eo, tC, Gq, A7, Ac, Af, Bo, h1, h2, Z2, -decide_eq_decide]
  ·have h2' : (x.mem == 0) = false := by simpa using h2
   simp (disch := omega) [Ba, En, Eo, tC, Gq, A7, Ac, Af, Bo, h1, h2, h2', Z2]
def Tf (l : List Int) (most : Int) : Bool := decide (l.length = 0 ∨ most < l.length)
theorem q3l (l : List Int) (cap : Option Nat) (nl : Option Bool) (most : Int) (hl : l.length ≤ 1000000000) : A3 Tryz.prog Γ 186 [.sl (Bw l) cap nl, tI most] (tB (Tf l most)) := by
 refine A6 q0X rfl ?_
 by_cases h : l.length = 0 <;> simp (disch := omega) [Rw, ret, Rx, Da, F5, F4, Ap, A1, h, Tf, A4]
def q0w (c : B1) (n : Int) : Bool := decide ((c.nodes.l.getD n.toNat Nd.d).k ≠ 12)
theorem qB7 (c : B1) (n : Int) (h0 : 0 ≤ n) (h1 : n < c.nodes.l.length) : A3 Tryz.prog Γ 183 [tI n, .ip (tC c) 0] (tB (q0w c n)) := by
 refine A6 q2D rfl ?_
 have h2 : n.toNat < c.nodes.l.length := by omega
 simp (disch := omega) [Vs, ret, Vt, Da, F5, F4, Ap, tC, A7, Aa, E4 Nd.d, Bl, h0, h1, h2, q0w, Gq]
def Di (c : B1) (x : Nd) : Int :=
 if 15 < x.k then 7 else if (x.inn.l.length : Int) < (Td x.k).1 ∨ (Td x.k).2 < x.inn.l.length then 8 else if x.inn.l.any (Oo c) then 1
 else if x.k = 13 ∧ x.inn.l.any (q0w c) = true then 7 else if Z2 c x = false then 1 else 0
theorem q20 {c : B1} {l : List Int} (h : l.any (Oo c) = false) : ∀ n ∈ l, 0 ≤ n ∧ n < c.nodes.l.length := by
 intro n hn
 have := List.any_eq_false.1 h n hn
 simp only [Oo, decide_eq_true_eq, not_or, Int.not_lt, Int.not_le] at this
 exact this
theorem qCn (hΓ : GOk Γ) (c : B1) (x : Nd) (hc : CirOk c) (hk : 0 ≤ x.k ∧ x.k ≤ 255) (hl : x.inn.l.length ≤ 1000000000) : A3 Tryz.prog Γ 165 [.agg (tC c), .agg (Gq x)] (tI (Di c x)) := by
 refine A6 q3k rfl ?_
 have hn := hc.nodes
 have e1 := Xa (Γ := Γ) c hn x.inn.l x.inn.cap x.inn.nl hl
 have e2 := D7 hΓ x.k hk.1 hk.2
 have e3 := Uo (Γ := Γ) c
 have e4 := qDk (Γ := Γ) c x hc
 simp (disch := omega) [Z0, C5, Cd, T.one, AV.one, tC, Gq, A7, Ac, Af, Bo]
 refine A0 e2 rfl ?_
 simp (disch := omega)
 simp
 refine ⟨fun h1 => ?_, fun h1 => ?_⟩
 ·simp [Ba, ret, Do, Da, F5, F4, Ap, Di, h1]
 by_cases h2 : (x.inn.l.length : Int) < (Td x.k).1
 ·simp (disch := omega) [Ba, A1, A4, h2, ret, Do, Da, F5, F4, Ap, Di, h1]
 by_cases h3 : (Td x.k).2 < x.inn.l.length
 ·simp (disch := omega) [Ba, A1, A4, h2, h3, ret, Do, Da, F5, F4, Ap, Di, h1]
 simp (disch := omega) [Ba, A1, A4, h2, h3]
 refine A8 e3 rfl ?_
 simp (disch := omega)
 refine A0 e1 rfl ?_
 simp (disch := omega) [-List.any_eq_true, -List.any_eq_false]
 refine ⟨fun h4 => ?_, fun h4 => ?_⟩
 ·simp [-List.any_eq_true, -List.any_eq_false, Ba, ret, Do, Da, F5, F4, Ap, Di, h1, h2, h3, h4]
 have h4' : x.inn.l.any (Oo c) = false := h4
 by_cases h5 : x.k = 13
 ·have e5 := Z1 (Γ := Γ) x.inn.l x.inn.cap x.inn.nl 183 [.ip (tC c) 0] (q0w c) (fun n hm => qB7 c n (q20 h4' n hm).1 (q20 h4' n hm).2) hl
  simp (disch := omega) [Ba, h5]
  refine A0 e5 rfl ?_
  simp [-List.any_eq_true, -List.any_eq_false]
  refine ⟨fun h6 => ?_, fun h6 => ?_⟩
  ·have h6' : x.inn.l.any (q0w c) = true := h6
   simp [-List.any_eq_true, -List.any_eq_false, Ba, ret, Do, Da, F5, F4, Ap, Di, h1, h2, h3, h4', h5, h6']
   simp [h5] at h2 h3; omega
  ·have h6' : x.inn.l.any (q0w c) = false := h6
   have e : Di c x = if Z2 c x = false then 1 else 0 := by
    unfold Di
    rw [if_neg (by omega), if_neg (by omega), if_neg (by simp [h4']), if_neg (by simp [h6'])]
   rw [e]
   simp (disch := omega) [Ba, h6']
   rw [show Gq x = [tK 13, Bo x.inn, tI x.mem, tI x.bit] from by simp [Gq, h5]] at e4
   refine A0 e4 rfl ?_
   simp
   refine ⟨fun h7 => ?_, fun h7 => ?_⟩ <;> simp [Ba, Do, h7]
 ·have e : Di c x = if Z2 c x = false then 1 else 0 := by
   unfold Di
   rw [if_neg (by omega), if_neg (by omega), if_neg (by simp [h4']), if_neg (by simp [h5])]
  rw [e]
  simp (disch := omega) [Ba, h5]
  refine A0 e4 rfl ?_
  simp
  refine ⟨fun h7 => ?_, fun h7 => ?_⟩ <;> simp [Ba, Do, h7]
theorem qJZ : (Tryz.prog.funcs[197]?).map (fun f => (f.name, f.body.isNone, f.origin)) = some ("internal/bytealg.IndexByteString", true, "") := by kernel_rfl
abbrev tR (n : Int) : T := .v (.int .i32 n)
theorem q0x (s : ByteArray) (c : Int) : A3 Tryz.prog Γ 197 [.v (.string s), tK c] (tI (Lib.indexByte s.data.toList c.toNat.toUInt8)) := by
 intro w X vs hg hx hts
 obtain ⟨x, xs, rfl, h1, h2⟩ := hts.cons_inv
 obtain ⟨y, ys, rfl, h3, h4⟩ := h2.cons_inv
 have := h4.nil_inv; subst this
 cases h1; cases h3
 refine .inr ⟨.int .i64 (Lib.indexByte s.data.toList c.toNat.toUInt8), ?_, RowKit.Below.refl _ _, .v _⟩
 have h := qJZ
 simp only [Option.map_eq_some_iff, Prod.mk.injEq] at h
 obtain ⟨fn, hf, hn, hb, ho⟩ := h
 have e1 : Extern.findNext fn = none := by
  simp only [Extern.findNext, hn, ho]
  have a : Extern.allNextRows.lookup "internal/bytealg.IndexByteString" = none := by kernel_rfl
  have b : Extern.allNextRows.lookup "" = none := by kernel_rfl
  rw [a, b]; rfl
 have e2 : Extern.find fn = some Extern.BytealgIndexByte.indexByte := by
  simp only [Extern.find, hn, ho]
  have a : Extern.allGenericRows.lookup "internal/bytealg.IndexByteString" = none := by kernel_rfl
  have b : Extern.allTypedRows.lookup "internal/bytealg.IndexByteString" = none := by kernel_rfl
  have c : Extern.allRows.lookup "internal/bytealg.IndexByteString" = some Extern.BytealgIndexByte.indexByte := by kernel_rfl
  rw [a, b, c]; rfl
 have hnn : ¬ fn.name = "runtime.NumGoroutine" := by rw [hn]; decide
 have hr := Lib.run_indexByteString (P := Tryz.prog) s c w
 have hb' : fn.body = none := by simpa using hb
 simp [callFunc, hf, hnn, hb', e1, e2, hr]
theorem qCo (s : ByteArray) (c : Int) : A3 Tryz.prog Γ 180 [.v (.string s), tK c] (tI (Lib.indexByte s.data.toList c.toNat.toUInt8)) := by
 refine A6 Un rfl ?_
 simp [Jv]
 refine A0 (q0x s c) rfl ?_
 simp [Jw]
theorem q0y (s : ByteArray) (c : Int) : A3 Tryz.prog Γ 162 [.v (.string s), tK c] (tI (Lib.indexByte s.data.toList c.toNat.toUInt8)) := by
 refine A6 q0W rfl ?_
 simp [Rt]
 refine A0 (qCo s c) rfl ?_
 simp [Ru]
theorem q6i (s : ByteArray) (c : Int) (h0 : 0 ≤ c) (h1 : c < 128) : A3 Tryz.prog Γ 206 [.v (.string s), tR c] (tI (Lib.indexByte s.data.toList c.toNat.toUInt8)) := by
 refine A6 q0Z rfl ?_
 simp (disch := omega) [Ry, h0, h1, B7]
 refine A0 (q0y s c) rfl ?_
 simp [Rz]
theorem q3m (s : ByteArray) (c : Int) (h0 : 0 ≤ c) (h1 : c < 128) : A3 Tryz.prog Γ 199 [.v (.string s), tR c] (tB (decide (0 ≤ Lib.indexByte s.data.toList c.toNat.toUInt8))) := by
 refine A6 Yh rfl ?_
 simp (disch := omega) [Nr]
 refine A0 (q6i s c h0 h1) rfl ?_
 simp [Ns]
def qCp (c : Int) : Bool := decide (c ≤ 32 ∨ 126 < c ∨ 0 ≤ Lib.indexByte [40, 41, 61, 44, 35] c.toNat.toUInt8)
theorem qCq (c : Int) : A3 Tryz.prog Γ 198 [tR c] (tB (qCp c)) := by
 refine A6 q0Y rfl ?_
 by_cases h1 : c ≤ 32
 ·simp [Gm, Gn, h1, qCp]
 by_cases h2 : 126 < c
 ·simp [Gm, Gn, h1, h2, qCp]
 simp [Gm, h1, h2]
 refine A0 (q3m ⟨#[40, 41, 61, 44, 35]⟩ c (by omega) (by omega)) rfl ?_
 simp [Gn, qCp, h1, h2]
theorem qB8 (s : List UInt8) (i : Nat) (hi : i < s.length) (ha : s[i] < 128) : Utf8.decode ⟨s.toArray⟩ i = ((s[i]).toNat, 1) := by
 have e : (ByteArray.mk s.toArray).get! (i + 0) = s[i] := by
  simp [ByteArray.get!, hi]
 have h2 : (s[i]).toNat < 128 := by simpa [UInt8.lt_iff_toNat_lt] using ha
 unfold Utf8.decode
 simp only [e, h2, ↓reduceIte]
def qB9 (s : List UInt8) : Bool := s.any fun b => qCp b.toNat
theorem q0z {Q : AX → St → Prop} (s : List UInt8) (ha : ∀ b ∈ s, b < 128)
  (h0 : qB9 s = false → Q (.exit 0) ⟨[(1, .t (.fn 198 [])), (2, .t (tB true)), (10, .li 10), (11, .t (.tup [tB false])), (12, .t (tB false))], [(10, .it ⟨s.toArray⟩ s.length)]⟩)
  (h1 : qB9 s = true → ∀ i : Nat, Q .ret ⟨[(6, .t (tI i))], []⟩) : ∀ (k i : Nat), k + i = s.length → (∀ j, j < i → ∀ b, s[j]? = some b → qCp b.toNat = false) →
  run Tryz.prog Γ Gp Q ⟨[(1, .t (.fn 198 [])), (2, .t (tB true)), (10, .li 10)], [(10, .it ⟨s.toArray⟩ i)]⟩
 | 0, i, h, hq => by
  refine Lo fun K hK => ?_
  have h2 : ¬ i < s.length := by omega
  have h3 : i = s.length := by omega
  have h4 : ¬ i < (ByteArray.mk s.toArray).size := by simpa [ByteArray.size] using h2
  simp [h2]
  subst h3
  refine h0 (List.any_eq_false.2 fun b hb => ?_)
  obtain ⟨j, hj, rfl⟩ := List.getElem_of_mem hb
  simp [hq j hj _ (List.getElem?_eq_getElem hj)]
 | k + 1, i, h, hq => by
  refine Lo fun K hK => ?_
  have h2 : i < s.length := by omega
  have h4 : i < (ByteArray.mk s.toArray).size := by simpa [ByteArray.size] using h2
  simp [h2, qB8 s i h2 (ha _ (List.getElem_mem h2))]
  refine A0 (qCq s[i].toNat) rfl ?_
  simp
  refine ⟨fun hc => ?_, fun hc => ?_⟩
  ·simp [Ba]
   exact h1 (List.any_eq_true.2 ⟨_, List.getElem_mem h2, hc⟩) i
  ·simp [Ba]
   rw [hK]
   exact q0z s ha h0 h1 k (i + 1) (by omega) (fun j hj b hb => by
    rcases Nat.lt_succ_iff_lt_or_eq.1 hj with hj | rfl
    ·exact hq j hj b hb
    ·rw [List.getElem?_eq_getElem h2] at hb; simp at hb; subst hb; exact hc)
theorem q8i (s : List UInt8) (ha : ∀ b ∈ s, b < 128) : ∃ n : Int, A3 Tryz.prog Γ 211 [tS s, .fn 198 [], tB true] (tI n) ∧ (0 ≤ n ↔ qB9 s = true) := by
 have : ∃ r, A3 Tryz.prog Γ 211 [tS s, .fn 198 [], tB true] r ∧ ∃ n, r = tI n ∧ (0 ≤ n ↔ qB9 s = true) := by
  refine q80 q0b rfl ?_
  simp [S4, tS, sV]
  refine q0z s ha (fun h => ?_) (fun h i => ?_) s.length 0 (by omega) (by simp)
  ·simp [Jx, h]
  ·simp [Jx, h]
 obtain ⟨_, h1, n, rfl, h2⟩ := this
 exact ⟨n, h1, h2⟩
theorem q5k (s : List UInt8) (ha : ∀ b ∈ s, b < 128) : ∃ n : Int, A3 Tryz.prog Γ 207 [tS s, .fn 198 []] (tI n) ∧ (0 ≤ n ↔ qB9 s = true) := by
 obtain ⟨n, h1, h2⟩ := q8i (Γ := Γ) s ha
 refine ⟨n, A6 q0a rfl ?_, h2⟩
 simp [S0]
 refine A0 h1 rfl ?_
 simp [S1]
theorem q10 (s : List UInt8) (ha : ∀ b ∈ s, b < 128) : A3 Tryz.prog Γ 200 [tS s, .fn 198 []] (tB (qB9 s)) := by
 obtain ⟨n, h1, h2⟩ := q5k (Γ := Γ) s ha
 refine A6 Yi rfl ?_
 simp [Nu]
 refine A0 h1 rfl ?_
 simp [Nv, h2]
def q34 (s : List UInt8) : Bool := decide (s ≠ [] ∧ s.length ≤ 32) && !qB9 s
theorem q9i (s : List UInt8) (ha : ∀ b ∈ s, b < 128) : A3 Tryz.prog Γ 185 [tS s] (tB (q34 s)) := by
 refine A6 q2E rfl ?_
 have h := q10 (Γ := Γ) s ha
 by_cases h1 : s = []
 ·simp [Ii, Ij, tS, sV, h1, q34]
 have h1' : s.isEmpty = false := by simpa using h1
 by_cases h2 : s.length ≤ 32
 ·have h2' : (s.length : Int) ≤ 32 := by omega
  simp [Ii, tS, sV, h1, h1', h2']
  refine A0 h rfl ?_
  simp [Ij, q34, h1, h2]
 ·have h2' : ¬ (s.length : Int) ≤ 32 := by omega
  simp [Ii, Ij, tS, sV, h1, h1', h2', h2, q34]
def Mc (c : B1) (m : Mm) : Int :=
 if Tf m.addr.l 8 = true ∨ Tf m.data.l 32 = true then 8 else if m.addr.l.any (Oo c) = true ∨ m.data.l.any (Oo c) = true ∨ Oo c m.write = true then 1 else 0
theorem q9j (c : B1) (m : Mm) (hc : CirOk c) (hm : m.addr.l.length ≤ 1000000000 ∧ m.data.l.length ≤ 1000000000) : A3 Tryz.prog Γ 167 [.agg (tC c), .agg (tMm m)] (tI (Mc c m)) := by
 refine A6 q2C rfl ?_
 have hn := hc.nodes
 have e1 := Xa (Γ := Γ) c hn m.addr.l m.addr.cap m.addr.nl hm.1
 have e2 := Xa (Γ := Γ) c hn m.data.l m.data.cap m.data.nl hm.2
 have e3 := Uo (Γ := Γ) c
 have e4 := q3l (Γ := Γ) m.addr.l m.addr.cap m.addr.nl 8 hm.1
 have e5 := q3l (Γ := Γ) m.data.l m.data.cap m.data.nl 32 hm.2
 have e6 := Yk (Γ := Γ) c m.write hn
 simp [Vr, tC, tMm, A7, Ac, Af, Bo]
 refine A8 e3 rfl ?_
 simp
 refine A0 e4 rfl ?_
 have fin2 : ∀ b : Bool, b = decide (m.addr.l.any (Oo c) = true ∨ m.data.l.any (Oo c) = true ∨ Oo c m.write = true) → (Tf m.addr.l 8 = false) → (Tf m.data.l 32 = false) → Mc c m = if b then 1 else 0 := by
  intro b hb h1 h2
  subst hb
  unfold Mc
  rw [if_neg (by simp [h1, h2])]
  simp
 by_cases h1 : Tf m.addr.l 8 = true
 ·simp [h1, Dk, Mc]
 have h1' : Tf m.addr.l 8 = false := by simpa using h1
 simp [h1']
 refine A0 e5 rfl ?_
 by_cases h2 : Tf m.data.l 32 = true
 ·simp [h2, Dk, Mc]
 have h2' : Tf m.data.l 32 = false := by simpa using h2
 simp [h2']
 refine A0 e1 rfl ?_
 generalize m.addr.l.any (Oo c) = b1 at e1 fin2
 generalize m.data.l.any (Oo c) = b2 at e2 fin2
 generalize Oo c m.write = b3 at e6 fin2
 cases b1 with
 | true => simp [Dk, fin2 true (by simp) h1' h2']
 | false =>
  simp
  refine A0 e2 rfl ?_
  cases b2 with
  | true => simp [Dk, fin2 true (by simp) h1' h2']
  | false =>
   simp
   refine Vu e6 ?_
   cases b3 with
   | true => simp [Dk, fin2 true (by simp) h1' h2']
   | false => simp [Dk, fin2 false (by simp) h1' h2']
def q6j (l : List (List UInt8)) : List (Value × T) := l.map fun s => (sV s, tB true)
theorem qFw (a b : List UInt8) : q0H (sV a) (sV b) = decide (a = b) := by
 simp only [q0H, sV]
 by_cases h : a = b
 ·subst h; simp [q8a]
 ·have : ¬ (ByteArray.mk a.toArray) = ⟨b.toArray⟩ := fun e => h (by simpa using e)
  have h2 : ((ByteArray.mk a.toArray) == ⟨b.toArray⟩) = false := by
   cases hq : ((ByteArray.mk a.toArray) == ⟨b.toArray⟩)
   ·rfl
   ·exact absurd ((q8a _ _).1 hq) this
  rw [h2]; simp [h]
theorem q6k (x : List UInt8) : ∀ l : List (List UInt8), Fb (sV x) (q6j l) = if x ∈ l then some (tB true) else none
 | [] => rfl
 | y :: l => by
  have ih := q6k x l
  simp only [q6j, List.map_cons, Fb, qFw] at ih ⊢
  by_cases h : x = y
  ·simp [h]
  ·simp [h, ih]
theorem q84 (x : List UInt8) : ∀ l : List (List UInt8), x ∉ l → q4M (sV x) (tB true) (q6j l) = q6j (l ++ [x])
 | [], _ => rfl
 | y :: l, h => by
  have ih := q84 x l (fun hm => h (List.mem_cons_of_mem _ hm))
  have hne : x ≠ y := fun e => h (by simp [e])
  simp only [q6j, List.map_cons, q4M, qFw, List.cons_append] at ih ⊢
  simp [hne, ih]
theorem qCr (l : List (List UInt8)) : M1 .str (q6j l) := by
 intro e he; obtain ⟨s, _, rfl⟩ := List.mem_map.1 he; rfl
def Is : List (List UInt8) → List (List UInt8) → Int
 | _, [] => 0
 | done, s :: l => if q34 s = false ∨ s ∈ done then 5 else Is (done ++ [s]) l
theorem q6l {Q : AX → St → Prop} (n : Sl (List UInt8)) (hl : n.l.length ≤ 1000000000) (ha : ∀ s ∈ n.l, ∀ b ∈ s, b < 128) (R : Int)
  (h0 : R = 0 → ∀ m : List (Value × T), Q (.exit 0) ⟨[(3, .lm 6), (8, .t (Ac n)), (9, .t (tI n.l.length)), (10, .t (tI n.l.length)), (11, .t (tB false))], [(6, .mp m)]⟩)
  (h5 : R = 5 → Q .ret ⟨[(2, .t (tI 5))], []⟩) : ∀ (k i : Nat), k + i = n.l.length → Is (n.l.take i) (n.l.drop i) = R →
  run Tryz.prog Γ J7 Q ⟨[(3, .lm 6), (8, .t (Ac n)), (9, .t (tI n.l.length)), (10, .t (tI i))], [(6, .mp (q6j (n.l.take i)))]⟩
 | 0, i, h, hR => by
  refine Pv fun K hK => ?_
  have h2 : ¬ i < n.l.length := by omega
  have h3 : i = n.l.length := by omega
  simp [h2, Ac]
  subst h3
  refine h0 ?_ _
  rw [← hR]; simp [Is]
 | k + 1, i, h, hR => by
  refine Pv fun K hK => ?_
  have h2 : i < n.l.length := by omega
  simp (disch := omega) [h2, Ac, A1, Bt ([] : List UInt8), A5]
  refine A0 (q9i n.l[i] (ha _ (List.getElem_mem h2))) rfl ?_
  have hd : n.l.drop i = n.l[i] :: n.l.drop (i + 1) := List.drop_eq_getElem_cons h2
  rw [hd] at hR
  simp only [Is] at hR
  have ht : n.l.take i ++ [n.l[i]] = n.l.take (i + 1) := by rw [List.take_add_one]; simp [h2]
  by_cases hq : q34 n.l[i] = true
  ·have hfit := qCr (n.l.take i)
   simp [hq, tS, KT.fits, sV, hfit]
   rw [show (Value.string ⟨(n.l[i]).toArray⟩) = sV n.l[i] from rfl, q6k]
   by_cases hm : n.l[i] ∈ n.l.take i
   ·simp [hm]
    refine h5 ?_
    rw [← hR, if_pos (.inr hm)]
   ·rw [if_neg (by simp [hq, hm]), ht] at hR
    simp (disch := omega) [hm, sV, KT.fits, hfit, A4]
    rw [hK]
    have := q6l n hl ha R h0 h5 k (i + 1) (by omega) hR
    rw [show (Value.string ⟨(n.l[i]).toArray⟩) = sV n.l[i] from rfl, q84 _ _ hm, ht]
    exact_mod_cast this
  ·have hq' : q34 n.l[i] = false := by simpa using hq
   simp [hq']
   refine h5 ?_
   rw [← hR, if_pos (.inl hq')]
theorem qBA (c : B1) (hc : CirOk c) (ha : ∀ s ∈ c.names.l, ∀ b ∈ s, b < 128) : A3 Tryz.prog Γ 166 [.agg (tC c)] (tI (Is [] c.names.l)) := by
 refine A6 q33 rfl ?_
 simp [X9, tC, A7, Ac, Af, Bo, A1]
 refine q6l c.names hc.names ha (Is [] c.names.l) (fun h m => ?_) (fun h => ?_) c.names.l.length 0 (by omega) (by simp)
 ·simp [Om, h]
 ·simp [Om, h]
def Dc : List Int → Int
 | [] => 0
 | e :: l => if e ≠ 0 then e else Dc l
theorem q2O {α : Type} (f : α → Int) (l : List α) (i : Nat) (h : i < l.length) : Dc ((l.drop i).map f) = if f l[i] ≠ 0 then f l[i] else Dc ((l.drop (i + 1)).map f) := by
 rw [List.drop_eq_getElem_cons h]; rfl
theorem q5I {Q : AX → St → Prop} (hΓ : GOk Γ) (c : B1) (hc : CirOk c) (R : Int)
  (h0 : R = 0 → Q (.exit 1) ⟨[(1, .t (.ip (tC c) 0)), (36, .t (A7 c.nodes)), (37, .t (tI c.nodes.l.length)), (38, .t (tI c.nodes.l.length)), (39, .t (tB false))], []⟩)
  (h5 : R ≠ 0 → Q .ret ⟨[(2, .t (tI R))], []⟩) : ∀ (k i : Nat), k + i = c.nodes.l.length → Dc ((c.nodes.l.drop i).map (Di c)) = R →
  run Tryz.prog Γ J5 Q ⟨[(1, .t (.ip (tC c) 0)), (36, .t (A7 c.nodes)), (37, .t (tI c.nodes.l.length)), (38, .t (tI i))], []⟩
 | 0, i, h, hR => by
  refine Po fun K hK => ?_
  have h2 : ¬ i < c.nodes.l.length := by omega
  have h3 : i = c.nodes.l.length := by omega
  simp [h2]
  subst h3
  exact h0 (by rw [← hR]; simp [Dc])
 | k + 1, i, h, hR => by
  refine Po fun K hK => ?_
  have h2 : i < c.nodes.l.length := by omega
  have hn := hc.nodes
  have hx := List.getElem_mem h2
  rw [q2O (Di c) _ _ h2] at hR
  have e := qCn (Γ := Γ) hΓ c c.nodes.l[i] hc (hc.kind _ hx) (hc.inn _ hx)
  simp (disch := omega) [h2, A7, Aa, E4 Nd.d, Bl, Gq, tC, Bo]
  refine A0 e rfl ?_
  by_cases hq : Di c c.nodes.l[i] = 0
  ·rw [if_neg (by simp [hq])] at hR
   simp (disch := omega) [hq, A4]
   rw [hK]
   have := q5I hΓ c hc R h0 h5 k (i + 1) (by omega) hR
   simpa [tC, A7, Bo] using this
  ·rw [if_pos (by simpa using hq)] at hR
   simp [hq]
   rw [hR]
   exact h5 (by rw [← hR]; exact hq)
theorem q6m {Q : AX → St → Prop} (c : B1) (hc : CirOk c) (R : Int)
  (h0 : R = 0 → Q (.exit 3) ⟨[(1, .t (.ip (tC c) 0)), (55, .t (Af c.mems)), (56, .t (tI c.mems.l.length)), (57, .t (tI c.mems.l.length)), (58, .t (tB false))], []⟩)
  (h5 : R ≠ 0 → Q .ret ⟨[(2, .t (tI R))], []⟩) : ∀ (k i : Nat), k + i = c.mems.l.length → Dc ((c.mems.l.drop i).map (Mc c)) = R →
  run Tryz.prog Γ J6 Q ⟨[(1, .t (.ip (tC c) 0)), (55, .t (Af c.mems)), (56, .t (tI c.mems.l.length)), (57, .t (tI i))], []⟩
 | 0, i, h, hR => by
  refine Pq fun K hK => ?_
  have h2 : ¬ i < c.mems.l.length := by omega
  have h3 : i = c.mems.l.length := by omega
  simp [h2]
  subst h3
  exact h0 (by rw [← hR]; simp [Dc])
 | k + 1, i, h, hR => by
  refine Pq fun K hK => ?_
  have h2 : i < c.mems.l.length := by omega
  have hn := hc.mems
  have hx := List.getElem_mem h2
  rw [q2O (Mc c) _ _ h2] at hR
  have e := q9j (Γ := Γ) c c.mems.l[i] hc (hc.addr _ hx)
  simp (disch := omega) [h2, Af, Aa, E4 Mm.d, On, tMm, tC, Bo]
  refine A0 e rfl ?_
  by_cases hq : Mc c c.mems.l[i] = 0
  ·rw [if_neg (by simp [hq])] at hR
   simp (disch := omega) [hq, A4]
   rw [hK]
   have := q6m c hc R h0 h5 k (i + 1) (by omega) hR
   simpa [tC, Af, Bo] using this
  ·rw [if_pos (by simpa using hq)] at hR
   simp [hq]
   rw [hR]
   exact h5 (by rw [← hR]; exact hq)
def Dp (c : B1) : Int :=
 if 16384 < c.nodes.l.length ∨ 16 < c.mems.l.length ∨ 16384 < c.outs.l.length then 3 else if c.names.l.length ≠ c.nodes.l.length then 8
 else if Dc (c.nodes.l.map (Di c)) ≠ 0 then Dc (c.nodes.l.map (Di c))
 else if Is [] c.names.l ≠ 0 then Is [] c.names.l
 else if Dc (c.mems.l.map (Mc c)) ≠ 0 then Dc (c.mems.l.map (Mc c))
 else if c.outs.l.any (Oo c) = true then 1 else 0
theorem qBB (hΓ : GOk Γ) (c : B1) (hc : CirOk c) (ha : ∀ s ∈ c.names.l, ∀ b ∈ s, b < 128) : A3 Tryz.prog Γ 145 [.agg (tC c)] (tI (Dp c)) := by
 refine A6 q32 rfl ?_
 have hn := hc.nodes
 have hm := hc.mems
 have ho := hc.outs
 have hnn := hc.names
 have en := qBA (Γ := Γ) c hc ha
 have eo := Uo (Γ := Γ) c
 have ec := Xa (Γ := Γ) c hn c.outs.l c.outs.cap c.outs.nl ho
 by_cases h1 : 16384 < c.nodes.l.length ∨ 16 < c.mems.l.length ∨ 16384 < c.outs.l.length
 ·have : Dp c = 3 := by unfold Dp; rw [if_pos h1]
  rw [this]
  by_cases g1 : (16384 : Int) < c.nodes.l.length
  ·simp [Ej, C2, tC, A7, Ac, Af, Bo, Aa, A1, g1]
  by_cases g2 : (16 : Int) < c.mems.l.length
  ·simp [Ej, C2, tC, A7, Ac, Af, Bo, Aa, A1, g1, g2]
  have g3 : (16384 : Int) < c.outs.l.length := by omega
  simp [Ej, C2, tC, A7, Ac, Af, Bo, Aa, A1, g1, g2, g3]
 have g1 : ¬ (16384 : Int) < c.nodes.l.length := by omega
 have g2 : ¬ (16 : Int) < c.mems.l.length := by omega
 have g3 : ¬ (16384 : Int) < c.outs.l.length := by omega
 by_cases h2 : c.names.l.length = c.nodes.l.length
 case neg =>
  have : Dp c = 8 := by unfold Dp; rw [if_neg h1, if_pos h2]
  have h2' : ¬ (c.names.l.length : Int) = c.nodes.l.length := by omega
  rw [this]
  simp [Ej, C2, tC, A7, Ac, Af, Bo, Aa, A1, g1, g2, g3, h2']
 simp [Ej, tC, A7, Ac, Af, Bo, Aa, A1, g1, g2, g3, h2]
 have e0 : Dp c = if Dc (c.nodes.l.map (Di c)) ≠ 0 then Dc (c.nodes.l.map (Di c))
   else if Is [] c.names.l ≠ 0 then Is [] c.names.l
   else if Dc (c.mems.l.map (Mc c)) ≠ 0 then Dc (c.mems.l.map (Mc c))
   else if c.outs.l.any (Oo c) = true then 1 else 0 := by
  unfold Dp; rw [if_neg h1, if_neg (by simp [h2])]
 refine q5I hΓ c hc (Dc (c.nodes.l.map (Di c))) (fun h3 => ?_) (fun h3 => ?_) c.nodes.l.length 0 (by omega) (by simp)
 case refine_2 =>
  rw [if_pos h3] at e0
  simp [C2, e0]
 rw [if_neg (by rw [h3]; decide)] at e0
 simp [tC, A7, Ac, Af, Bo]
 refine A0 en rfl ?_
 by_cases h4 : Is [] c.names.l = 0
 case neg =>
  rw [if_pos h4] at e0
  simp [h4, C2, e0]
 rw [if_neg (by rw [h4]; decide)] at e0
 simp [h4, Aa]
 refine q6m c hc (Dc (c.mems.l.map (Mc c))) (fun h5 => ?_) (fun h5 => ?_) c.mems.l.length 0 (by omega) (by simp)
 case refine_2 =>
  rw [if_pos h5] at e0
  simp [C2, e0]
 rw [if_neg (by rw [h5]; decide)] at e0
 simp [tC, A7, Ac, Af, Bo]
 refine A8 eo rfl ?_
 simp
 refine A0 ec rfl ?_
 generalize c.outs.l.any (Oo c) = b at e0
 cases b <;> simp [C2, e0]
def K9 (ks : List Int) : List Nd → Nat → List Int
 | [], _ => []
 | x :: l, i => if ks.contains x.k then (i : Int) :: K9 ks l (i + 1) else K9 ks l (i + 1)
theorem q3n (ks : List Int) : ∀ (a b : List Nd) (i : Nat), K9 ks (a ++ b) i = K9 ks a i ++ K9 ks b (i + a.length)
 | [], b, i => by simp [K9]
 | x :: a, b, i => by
  have := q3n ks a b (i + 1)
  simp only [List.cons_append, K9, this, List.length_cons]
  split <;> simp [Nat.add_assoc, Nat.add_comm 1]
theorem Up (ks : List Int) : ∀ (a : List Nd) (i : Nat), (K9 ks a i).length ≤ a.length
 | [], _ => by simp [K9]
 | x :: a, i => by
  have := Up ks a (i + 1)
  simp only [K9]
  split <;> simp <;> omega
theorem qBy {Q : AX → St → Prop} (n : Sl Nd) (hl : n.l.length ≤ 1000000000) (ks : List Int) (kc : Option Nat) (kn : Option Bool) (hk : ks.length ≤ 1000000000)
  (h0 : Q (.exit 0) ⟨[(1, .t (.sl (A9 tK ks) kc kn)), (5, .ls 23 0 (K9 ks n.l 0).length none), (9, .t (A7 n)), (10, .t (tI n.l.length)), (11, .t (tI n.l.length)), (12, .t (tB false))], [(23, .sl 3 1 (Bw (K9 ks n.l 0)))]⟩) : ∀ (k i : Nat), k + i = n.l.length →
  run Tryz.prog Γ Oc Q ⟨[(1, .t (.sl (A9 tK ks) kc kn)), (5, .ls 23 0 (K9 ks (n.l.take i) 0).length none), (9, .t (A7 n)), (10, .t (tI n.l.length)), (11, .t (tI i))], [(23, .sl 3 1 (Bw (K9 ks (n.l.take i) 0)))]⟩
 | 0, i, h => by
  refine Va fun K hK => ?_
  have h2 : ¬ i < n.l.length := by omega
  have h3 : i = n.l.length := by omega
  simp [h2]
  subst h3
  simpa using h0
 | k + 1, i, h => by
  refine Va fun K hK => ?_
  have h2 : i < n.l.length := by omega
  have ht : n.l.take (i + 1) = n.l.take i ++ [n.l[i]] := by rw [List.take_add_one]; simp [h2]
  have hlen := Up ks (n.l.take i) 0
  have htl : (n.l.take i).length = i := by simp; omega
  have hal : K9 ks (n.l.take (i + 1)) 0 = if ks.contains n.l[i].k then K9 ks (n.l.take i) 0 ++ [(i : Int)] else K9 ks (n.l.take i) 0 := by
   rw [ht, q3n, htl]
   simp only [K9, Nat.zero_add]
   split <;> simp
  have e := q7W (Γ := Γ) ks kc kn n.l[i].k hk
  simp (disch := omega) [h2, A7, Aa, E4 Nd.d, Bl, Gq, Bo]
  refine A0 e rfl ?_
  generalize ks.contains n.l[i].k = b at hal
  have ih := qBy n hl ks kc kn hk h0 k (i + 1) (by omega)
  rw [hal] at ih
  cases b with
  | false =>
   simp (disch := omega) [A4]
   rw [hK]
   simpa [A7] using ih
  | true =>
   have hw : E5 1 [[tI (i : Int)]] := by intro e he; simp at he; subst he; rfl
   simp (disch := omega) [A4, A1, A5, hw]
   rw [hK]
   simp [A7] at ih
   rw [C6 (f := tI) (x := (i : Int))]
   exact ⟨by omega, ih⟩
theorem qFA (c : B1) (hc : CirOk c) (ks : List Int) (kc : Option Nat) (kn : Option Bool) (hk : ks.length ≤ 1000000000) :
  A3 Tryz.prog Γ 90 [.agg (tC c), .sl (A9 tK ks) kc kn] (.sl (Bw (K9 ks c.nodes.l 0)) (some (K9 ks c.nodes.l 0).length) none) := by
 refine A6 q5i rfl ?_
 simp [q0s, tC, A7, Ac, Af, Bo, Aa]
 refine qBy c.nodes hc.nodes ks kc kn hk ?_ c.nodes.l.length 0 (by omega)
 simp
 refine ⟨_, _, qB5 3 (Bw (K9 ks c.nodes.l 0)) (K9 ks c.nodes.l 0).length none A5, ?_⟩
 simp [q0t]
abbrev Lj := List (Int × Int)
def tLn (p : Int × Int) : List T := [tI p.1, tI p.2]
def q6n (i : Nat) (r : Lj) : AV := if r = [] then .t (.sl [] (some 0) (some true)) else .ls (100000 + i) 0 r.length none
def C7 (rows : List Lj) : List AV := rows.mapIdx q6n
def Jy (rows : List Lj) (id : Nat) : Option B0 := match rows[id - 100000]? with
 | some r => if r = [] then none else some (.sl 192 2 (B8 tLn r))
 | none => none
def Jz (k : Nat) (g : Nat → Option B0) : List (Nat × B0) := (List.range' 100000 k).filterMap fun id => (g id).map fun r => (id, r)
def Cj (rows : List Lj) : List (Nat × B0) := Jz 16384 (Jy rows)
theorem q6o {α β : Type} {f g : α → Option β} : ∀ {l : List α}, (∀ x ∈ l, f x = g x) → l.filterMap f = l.filterMap g
 | [], _ => rfl
 | x :: l, h => by
  rw [List.filterMap_cons, List.filterMap_cons, h x List.mem_cons_self, q6o (l := l) fun y hy => h y (List.mem_cons_of_mem _ hy)]
theorem qFB {l : List Nat} {g : Nat → Option B0} {t : Nat} : A2 (l.filterMap fun id => (g id).map fun r => (id, r)) t = if t ∈ l then g t else none := by
 induction l with
 | nil => simp [A2]
 | cons k l ih =>
  rw [List.filterMap_cons]
  cases hg : g k with
  | none =>
   simp only [Option.map_none, ih]
   by_cases h : t = k
   ·subst h; simp [hg]
   ·simp [h]
  | some r =>
   simp only [Option.map_some, A2, ih]
   by_cases h : k = t
   ·subst h; simp [hg]
   ·simp [h, Ne.symm h]
theorem Md {k : Nat} {g : Nat → Option B0} {t : Nat} : A2 (Jz k g) t = if 100000 ≤ t ∧ t < 100000 + k then g t else none := by
 unfold Jz; rw [qFB]
 by_cases h : 100000 ≤ t ∧ t < 100000 + k
 ·rw [if_pos h, if_pos (by rw [List.mem_range'_1]; exact h)]
 ·rw [if_neg h, if_neg (by rw [List.mem_range'_1]; exact h)]
theorem q85 {rows : List Lj} {l : List (Nat × B0)} (h : ∀ t ∈ List.range' 100000 16384, A2 l t = Jy rows t) : Lg.keep (List.range' 100000 16384) l = Cj rows := by
 unfold Lg.keep Cj Jz
 exact q6o fun t ht => by rw [h t ht]
theorem q4h {env : List (Nat × AV)} {hp : List (Nat × B0)} {ks : List Nat} {rows : List Lj} (hk : (hp.map (·.1)).filter (fun id => !([14] : List Nat).contains id && !(decide (100000 ≤ id) && decide (id < 100000 + 16384))) = [])
  (h14 : A2 hp 14 = some (.bx (C7 rows))) (hr : ∀ t, 100000 ≤ t → t < 116384 → A2 hp t = Jy rows t) :
  Gh.run (.keepB ks [14] 100000 16384) ⟨env, hp⟩ = ⟨Lg.keep ks env, (14, .bx (C7 rows)) :: Cj rows⟩ := by
 simp only [Gh.run, q66, hk, I8, q4e, h14, q6e, List.cons_append, List.nil_append]
 congr 2
 simp only [Lg.keep, Cj, Jz]
 refine q6o fun t ht => ?_
 rw [List.mem_range'_1] at ht
 rw [hr t ht.1 (by omega)]
theorem Z3 {k : Nat} {g : Nat → Option B0} : ∀ p ∈ Jz k g, 100000 ≤ p.1 ∧ p.1 < 100000 + k := by
 intro p hp
 obtain ⟨id, hid, he⟩ := List.mem_filterMap.1 hp
 rw [List.mem_range'_1] at hid
 cases hg : g id with
 | none => rw [hg] at he; cases he
 | some r => rw [hg] at he; simp at he; subst he; exact hid
theorem q5J {rows : List Lj} : ((Cj rows).map (·.1)).filter (fun id => !([14] : List Nat).contains id && !(decide (100000 ≤ id) && decide (id < 100000 + 16384))) = [] := by
 rw [List.filter_eq_nil_iff]
 intro id hid
 obtain ⟨p, hp, rfl⟩ := List.mem_map.1 hid
 have := Z3 p hp
 simp [this.1, this.2]
theorem q21 {rows : List Lj} {t : Nat} : A2 ((14, .bx (C7 rows)) :: Cj rows) t = if t = 14 then some (.bx (C7 rows)) else if 100000 ≤ t ∧ t < 116384 then Jy rows t else none := by
 simp only [A2, Cj, Md]
 by_cases h : t = 14
 ·simp [h]
 ·simp [h, Ne.symm h]
theorem Ur {env : List (Nat × AV)} {ks : List Nat} {rows : List Lj} : Gh.run (.keepB ks [14] 100000 16384) ⟨env, (14, .bx (C7 rows)) :: Cj rows⟩ = ⟨Lg.keep ks env, (14, .bx (C7 rows)) :: Cj rows⟩ := by
 refine q4h ?_ (by simp [A2]) fun t h1 h2 => ?_
 ·rw [List.map_cons, List.filter_cons]; simp only [q5J]; simp
 ·rw [q21, if_neg (by omega), if_pos ⟨h1, h2⟩]
theorem q8j {id : Nat} (h : id < 100000) (rows : List Lj) : (C7 rows).map (E8 id) = C7 rows := by
 apply List.ext_getElem?
 intro i
 simp only [C7, List.getElem?_map, List.getElem?_mapIdx, Option.map_map]
 cases rows[i]? with
 | none => rfl
 | some r =>
  simp only [Option.map_some, Function.comp_def, q6n]
  split
  ·rfl
  ·simp only [E8, kill1]; rw [if_neg (by omega)]
theorem qFC {env : List (Nat × AV)} {ks : List Nat} {rows : List Lj} {q : B0} : Gh.run (.keepB ks [14] 100000 16384) ⟨env, (6, q) :: (14, .bx (C7 rows)) :: Cj rows⟩ = ⟨(Lg.keep ks env).map (fun p => (p.1, E8 6 p.2)), (14, .bx (C7 rows)) :: Cj rows⟩ := by
 have hk : (((6, q) :: (14, B0.bx (C7 rows)) :: Cj rows).map (·.1)).filter (fun id => !([14] : List Nat).contains id && !(decide (100000 ≤ id) && decide (id < 100000 + 16384))) = [6] := by
  rw [List.map_cons, List.map_cons, List.filter_cons, List.filter_cons]; simp only [q5J]; simp
 have hl : ∀ t, t ≠ 6 → A2 (St.kill 6 ⟨Lg.keep ks env, (6, q) :: (14, .bx (C7 rows)) :: Cj rows⟩).hp t = A2 ((14, .bx (C7 rows)) :: Cj rows) t := by
  intro t ht
  rw [Yu, if_neg ht]
  show (A2 ((6, q) :: (14, .bx (C7 rows)) :: Cj rows) t).map _ = _
  rw [A2, if_neg (Ne.symm ht), q21]
  by_cases h : t = 14
  ·simp [h, O6, q8j]
  ·simp only [h, ↓reduceIte]
   split
   ·unfold Jy
    split
    ·split <;> simp [O6]
    ·rfl
   ·rfl
 simp only [Gh.run, q66, hk, I8, q4e, q6e, List.cons_append, List.nil_append]
 rw [hl 14 (by omega)]
 simp only [A2, ↓reduceIte, List.cons_append, List.nil_append]
 congr 2
 refine q85 fun t ht => ?_
 rw [List.mem_range'_1] at ht
 rw [hl t (by omega), q21, if_neg (by omega), if_pos ⟨ht.1, by omega⟩]
def Hi (rows : List Lj) (n : Nat) (p : Int × Int) : List Lj := rows.set n (rows.getD n [] ++ [p])
theorem q35 {rows : List Lj} {n : Nat} {p : Int × Int} : (Hi rows n p).length = rows.length := by simp [Hi]
theorem qCs {env : List (Nat × AV)} {ks : List Nat} {rows : List Lj} {n : Nat} {p : Int × Int} {hp : List (Nat × B0)} {cs : List AV} (hn : n < rows.length) (hn2 : rows.length ≤ 16384)
  (hlen : cs.length = rows.length) (hcs : ∀ i, i ≠ n → cs[i]? = (C7 rows)[i]?) (hc : cs[n]? = some (.ls 47 0 ((rows.getD n []).length + 1) none)) (h47 : A2 hp 47 = some (.sl 192 2 (B8 tLn (rows.getD n [] ++ [p])))) (h14 : A2 hp 14 = some (.bx cs))
  (hno : A2 hp (100000 + n) = none) (hoth : ∀ t, 100000 ≤ t → t < 116384 → t ≠ 100000 + n → A2 hp t = Jy rows t) (hkeys : ∀ q ∈ hp, q.1 = 47 ∨ q.1 = 14 ∨ (100000 ≤ q.1 ∧ q.1 < 116384)) :
  Gh.run (.keepB ks [14] 100000 16384) (q3g 47 (100000 + n) ⟨env, hp⟩) = ⟨(Lg.keep ks (env.map fun q => (q.1, Be (Hf 47 (100000 + n)) q.2))), (14, .bx (C7 (Hi rows n p))) :: Cj (Hi rows n p)⟩ := by
 have hr : q3g 47 (100000 + n) ⟨env, hp⟩ = ⟨env.map fun q => (q.1, Be (Hf 47 (100000 + n)) q.2), X3 47 (100000 + n) hp⟩ := by
  unfold q3g
  rw [if_pos]
  simp [hno, h47]; omega
 rw [hr]
 have hget : ∀ i, (Hi rows n p)[i]? = if i = n then some (rows.getD n [] ++ [p]) else rows[i]? := by
  intro i
  unfold Hi
  rw [List.getElem?_set]
  by_cases h : n = i
  ·subst h; simp [hn]
  ·simp [h, Ne.symm h]
 have hl := fun t => q2z (a := 47) (b := 100000 + n) (t := t) hno (by omega)
 refine q4h ?_ ?_ fun t h1 h2 => ?_
 ·rw [List.filter_eq_nil_iff]
  intro id hid
  have : id = 100000 + n ∨ id ≠ 47 ∧ ∃ q ∈ hp, q.1 = id := by
   clear hl hr hno hoth h14 h47
   induction hp with
   | nil => simp [X3] at hid
   | cons q l ih =>
    obtain ⟨k, r⟩ := q
    simp only [X3, List.map_cons, List.mem_cons] at hid
    rcases hid with hid | hid
    ·by_cases h : k = 47
     ·left; simpa [h] using hid
     ·right; simp [h] at hid; subst hid; exact ⟨h, _, List.mem_cons_self, rfl⟩
    ·rcases ih (fun q hq => hkeys q (List.mem_cons_of_mem _ hq)) hid with h | ⟨h, q, hq, e⟩
     ·exact .inl h
     ·exact .inr ⟨h, q, List.mem_cons_of_mem _ hq, e⟩
  rcases this with h | ⟨h, q, hq, rfl⟩
  ·subst h; simp; intro _; omega
  ·rcases hkeys q hq with e | e | ⟨e1, e2⟩
   ·exact absurd e h
   ·simp [e]
   ·simp; intro _; omega
 ·rw [hl, if_neg (by omega), if_neg (by omega), h14]
  simp only [Option.map_some, Ce, Option.some.injEq, B0.bx.injEq]
  apply List.ext_getElem?
  intro i
  simp only [List.getElem?_map, C7, List.getElem?_mapIdx]
  rw [hget]
  by_cases h : i = n
  ·subst h
   rw [hc]
   have : ¬ (rows.getD i [] ++ [p] = []) := by simp
   simp only [↓reduceIte, Option.map_some, Option.some.injEq]
   unfold q6n
   rw [if_neg this]
   simp [Be, ren1, ren0, Hf]
  ·rw [hcs i h, if_neg h]
   simp only [C7, List.getElem?_mapIdx, Option.map_map]
   cases hrow : rows[i]? with
   | none => rfl
   | some r =>
    simp only [Option.map_some, Function.comp_def, q6n, Option.some.injEq]
    split
    ·rfl
    ·simp only [Be, ren1, ren0, Hf]; rw [if_neg (by omega)]
 ·rw [hl]
  by_cases h : t = 100000 + n
  ·rw [if_pos h, h47]
   subst h
   unfold Jy
   rw [show 100000 + n - 100000 = n by omega, hget, if_pos rfl]
   simp [Ce]
  ·rw [if_neg h, if_neg (by omega), hoth t h1 h2 h]
   unfold Jy
   rw [hget, if_neg (by omega)]
   cases rows[t - 100000]? with
   | none => rfl
   | some r => simp only; split <;> simp [Ce]
def q4i (k i : Nat) (r : Lj) : AV := if r = [] then .t (.sl [] (some 0) (some true)) else if k ≤ i then .t (.sl (B8 tLn r) none none) else .ls (100000 + i) 0 r.length none
theorem qDl {env : List (Nat × AV)} {rows : List Lj} (he : ∀ id r, 100000 ≤ id → ∀ p ∈ env, Cm id r p.2 = p.2) (k : Nat) : St.freeze (100000 + k) ⟨env, (14, .bx (rows.mapIdx (q4i (k + 1)))) :: Jz (k + 1) (Jy rows)⟩ = ⟨env, (14, .bx (rows.mapIdx (q4i k))) :: Jz k (Jy rows)⟩ := by
 have hsplit : Jz (k + 1) (Jy rows) = Jz k (Jy rows) ++ (match Jy rows (100000 + k) with | some r => [(100000 + k, r)] | none => []) := by
  unfold Jz
  rw [← List.range'_append (s := 100000) (m := k) (n := 1) (step := 1)]
  rw [List.filterMap_append]
  congr 1
  cases hr : Jy rows (100000 + k) <;> simp [hr]
 have hl : A2 ((14, B0.bx (rows.mapIdx (q4i (k + 1)))) :: Jz (k + 1) (Jy rows)) (100000 + k) = Jy rows (100000 + k) := by
  rw [A2, if_neg (by omega), Md, if_pos (by omega)]
 simp only [St.freeze, hl]
 cases hr : Jy rows (100000 + k) with
 | none =>
  rw [hr] at hsplit
  simp only [hsplit, List.append_nil]
  refine congrArg (fun l => (⟨env, (14, B0.bx l) :: Jz k (Jy rows)⟩ : St)) ?_
  apply List.ext_getElem?
  intro i
  simp only [List.getElem?_mapIdx]
  cases hi : rows[i]? with
  | none => rfl
  | some r =>
   simp only [Option.map_some, q4i]
   by_cases h0 : r = []
   ·simp [h0]
   ·by_cases hik : i = k
    ·subst hik
     unfold Jy at hr
     rw [show 100000 + i - 100000 = i by omega, hi] at hr
     simp [h0] at hr
    ·have : (k + 1 ≤ i) = (k ≤ i) := by apply propext; omega
     simp [this]
 | some q =>
  obtain ⟨r, hrow, hne, rfl⟩ : ∃ r, rows[k]? = some r ∧ r ≠ [] ∧ q = .sl 192 2 (B8 tLn r) := by
   unfold Jy at hr
   rw [show 100000 + k - 100000 = k by omega] at hr
   split at hr
   ·rename_i r h
    split at hr
    ·cases hr
    ·rename_i hne; simp only [Option.some.injEq] at hr; exact ⟨r, h, hne, hr.symm⟩
   ·cases hr
  rw [hr] at hsplit
  simp only [B0.closed, ↓reduceIte]
  have e1 : env.map (fun p => (p.1, Cm (100000 + k) (.sl 192 2 (B8 tLn r)) p.2)) = env := by
   conv => rhs; rw [← List.map_id env]
   refine List.map_congr_left fun p hp => ?_
   rw [he _ _ (by omega) p hp]; rfl
  have e2 : del (100000 + k) ((14, B0.bx (rows.mapIdx (q4i (k + 1)))) :: Jz (k + 1) (Jy rows)) = (14, B0.bx (rows.mapIdx (q4i (k + 1)))) :: Jz k (Jy rows) := by
   rw [hsplit]
   unfold del
   rw [List.filter_cons, if_pos (by simp; omega), List.filter_append]
   congr 1
   have h1 : (Jz k (Jy rows)).filter (fun p => p.1 != 100000 + k) = Jz k (Jy rows) := by
    rw [List.filter_eq_self]
    intro p hp
    have := Z3 p hp
    simp; omega
   rw [h1]; simp
  rw [e1, e2]
  have e3 : (Jz k (Jy rows)).map (fun p => (p.1, G9 (100000 + k) (.sl 192 2 (B8 tLn r)) p.2)) = Jz k (Jy rows) := by
   conv => rhs; rw [← List.map_id (Jz k (Jy rows))]
   refine List.map_congr_left fun p hp => ?_
   obtain ⟨id, hid, hee⟩ := List.mem_filterMap.1 hp
   cases hg : Jy rows id with
   | none => rw [hg] at hee; cases hee
   | some q =>
    rw [hg] at hee
    simp only [Option.map_some, Option.some.injEq] at hee; subst hee
    unfold Jy at hg
    split at hg
    ·split at hg
     ·cases hg
     ·simp only [Option.some.injEq] at hg; subst hg; rfl
    ·cases hg
  rw [List.map_cons, e3]
  refine congrArg (fun l => (⟨env, (14, B0.bx l) :: Jz k (Jy rows)⟩ : St)) ?_
  apply List.ext_getElem?
  intro i
  simp only [List.getElem?_map, List.getElem?_mapIdx, Option.map_map]
  cases hi : rows[i]? with
  | none => rfl
  | some r' =>
   simp only [Option.map_some, Function.comp_def, q4i]
   by_cases h0 : r' = []
   ·simp [h0, Cm, frz1, frz0]
   ·simp only [h0, ↓reduceIte]
    by_cases hik : i = k
    ·subst hik
     rw [hrow] at hi; cases hi
     rw [if_neg (by omega), if_pos (Nat.le_refl _)]
     simp [Cm, frz1, frz0, Ae, A2]
    ·by_cases hlt : k + 1 ≤ i
     ·rw [if_pos hlt, if_pos (by omega)]; rfl
     ·rw [if_neg hlt, if_neg (by omega)]
      simp only [Cm, frz1, frz0]
      rw [if_neg (by omega)]
theorem qBz {env : List (Nat × AV)} {rows : List Lj} (he : ∀ id r, 100000 ≤ id → ∀ p ∈ env, Cm id r p.2 = p.2) : ∀ k, qB1 100000 k ⟨env, (14, .bx (rows.mapIdx (q4i k))) :: Jz k (Jy rows)⟩ = ⟨env, (14, .bx (rows.mapIdx (q4i 0))) :: []⟩
 | 0 => by simp [qB1, Jz]
 | k + 1 => by
  rw [qB1, qDl he k]
  exact qBz he k
def q7Y (r : Lj) : T := if r = [] then .sl [] (some 0) (some true) else .sl (B8 tLn r) none none
theorem qDm {env : List (Nat × AV)} {rows : List Lj} (hl : rows.length ≤ 16384) (he : ∀ id r, 100000 ≤ id → ∀ p ∈ env, Cm id r p.2 = p.2) : Gh.run (.frzs 100000 16384) ⟨env, (14, .bx (C7 rows)) :: Cj rows⟩ = ⟨env, [(14, .bx (rows.map fun r => .t (q7Y r)))]⟩ := by
 have h1 : C7 rows = rows.mapIdx (q4i 16384) := by
  apply List.ext_getElem?
  intro i
  simp only [C7, List.getElem?_mapIdx]
  cases hi : rows[i]? with
  | none => rfl
  | some r =>
   have := (List.getElem?_eq_some_iff.1 hi).1
   simp only [Option.map_some, q6n, q4i]
   rw [if_neg (show ¬ 16384 ≤ i by omega)]
 have h2 : rows.mapIdx (q4i 0) = rows.map fun r => .t (q7Y r) := by
  apply List.ext_getElem?
  intro i
  simp only [List.getElem?_mapIdx, List.getElem?_map]
  cases rows[i]? with
  | none => rfl
  | some r =>
   simp only [Option.map_some, q4i, q7Y, Nat.zero_le, ↓reduceIte]
   split <;> rfl
 have := qBz (rows := rows) he 16384
 rw [h2] at this
 simp only [Gh.run, h1, Cj]
 exact this
theorem Qh {rows : List Lj} : (C7 rows).length = rows.length := by simp [C7]
theorem qDn {rows : List Lj} {n : Nat} (h : n < rows.length) : ((C7 rows).drop n).take 1 = [q6n n (rows.getD n [])] := by
 have : (C7 rows).drop n = q6n n (rows.getD n []) :: (C7 rows).drop (n + 1) := by
  rw [List.drop_eq_getElem_cons (by rw [Qh]; exact h)]
  simp [C7, h]
 rw [this]; rfl
theorem q8k {l : Lj} : E5 2 (B8 tLn l) := q3i fun _ => rfl
theorem qH4 {Q : AX → St → Prop} (rows : List Lj) (n : Nat) (hn : n < rows.length) (hn2 : rows.length ≤ 16384) (i k : Int) (hr : (rows.getD n []).length ≤ 1000000000) (t4 t18 t19 t20 t26 t27 t28 t36 : T) (m : Nat) (hm : m = rows.length)
  (h : Q .normal ⟨[(3, .lb 14 m), (4, .t t4), (5, .t (tI i)), (18, .t t18), (19, .t t19), (20, .t t20), (26, .t t26), (27, .t t27), (28, .t t28)], (14, .bx (C7 (Hi rows n (i, k)))) :: Cj (Hi rows n (i, k))⟩) :
  Ge Tryz.prog Γ Dy ⟨[(3, .lb 14 m), (4, .t t4), (5, .t (tI i)), (7, .t (tI k)), (8, .t (tI n)), (18, .t t18), (19, .t t19), (20, .t t20), (26, .t t26), (27, .t t27), (28, .t t28), (36, .t t36)], (14, .bx (C7 rows)) :: Cj rows⟩
   (fun s1 => Q .normal (ghs [.renS 47 100000 8, .keepB [3, 4, 5, 18, 19, 20, 26, 27, 28] [14] 100000 16384] s1)) ⟨⟩ := by
 subst hm
 have hw : E5 2 [[tI i, tI k]] := by intro e he; simp at he; subst he; rfl
 have hlk47 : A2 (Cj rows) 47 = none := by rw [Cj, Md, if_neg (by omega)]
 have hat := qDn hn
 have hlk : A2 (Cj rows) (100000 + n) = if rows.getD n [] = [] then none else some (.sl 192 2 (B8 tLn (rows.getD n []))) := by
  rw [Cj, Md, if_pos (by omega)]
  unfold Jy
  rw [show 100000 + n - 100000 = n by omega, List.getElem?_eq_getElem hn]
  simp [hn]
 have hadd : Hi rows n (i, k) = rows.set n (rows.getD n [] ++ [(i, k)]) := rfl
 have fin := @qCs
 generalize hrow : rows.getD n [] = row at hr hat hlk hadd
 have hlen1 : n + 1 ≤ rows.length := hn
 have hset : ∀ (j : Nat), j ≠ n → ∀ (l : List AV) (x : AV), l.length = rows.length → (l.take n ++ x :: l.drop (n + 1))[j]? = l[j]? := by
  intro j hj l x hl
  rw [List.getElem?_append]
  by_cases hlt : j < n
  ·rw [if_pos (by simp; omega), List.getElem?_take, if_pos hlt]
  ·rw [if_neg (by simp; omega)]
   have e : (l.take n).length = n := by simp; omega
   rw [e, show j - n = (j - n - 1) + 1 by omega, List.getElem?_cons_succ, List.getElem?_drop]
   congr 1; omega
 have hseta : ∀ (l : List AV) (x : AV), l.length = rows.length → (l.take n ++ x :: l.drop (n + 1))[n]? = some x := by
  intro l x hl
  rw [List.getElem?_append, if_neg (by simp; omega)]
  have e : (l.take n).length = n := by simp; omega
  rw [e]; simp
 by_cases h0 : row = []
 ·subst h0
  simp only [q6n, ↓reduceIte] at hat hlk
  simp (disch := omega) [-Gh.run, Fa, hat, Qh, hn, hw, hlk47, hlen1]
  rw [show ∀ st, A2 st.env 8 = some (.t (tI n)) → (Gh.renS 47 100000 8).run st = q3g 47 (100000 + n) st from fun st hs => by simp [Gh.run, hs]]
  rw [fin (p := (i, k)) hn hn2 (by simp [Qh]; omega) (fun j hj => hset j hj _ _ Qh) (by rw [hseta _ _ Qh, hrow]; first | done | rfl) (by rw [hrow]; first | done | rfl) (by simp [A2]) (by rw [A2, if_neg (by omega), A2, if_neg (by omega)]; exact hlk) (fun t h1 h2 h3 => ?_) (fun q hq => ?_)]
  ·simpa [Be, ren1, ren0, Hf] using h
  ·rw [A2, if_neg (by omega), A2, if_neg (by omega), Cj, Md, if_pos (by omega)]
  ·rcases List.mem_cons.1 hq with rfl | hq
   ·exact .inl rfl
   ·rcases List.mem_cons.1 hq with rfl | hq
    ·exact .inr (.inl rfl)
    ·have := Z3 q hq; exact .inr (.inr (by omega))
  ·rfl
 ·simp only [q6n, h0, ↓reduceIte] at hat hlk
  have h14 : ¬ 14 = 100000 + n := by omega
  have htl : ∀ t, A2 ((Cj rows).filter fun p => p.1 != 100000 + n) t = if t = 100000 + n then none else A2 (Cj rows) t := fun t => q6E (100000 + n) (Cj rows) t
  have hkl : ∀ l : List (Nat × B0), (∀ p ∈ l, p ∈ Cj rows) → l.map (fun p => (p.1, O6 (100000 + n) p.2)) = l := by
   intro l hl
   conv => rhs; rw [← List.map_id l]
   refine List.map_congr_left fun p hp => ?_
   obtain ⟨id, hid, hee⟩ := List.mem_filterMap.1 (hl p hp)
   cases hg : Jy rows id with
   | none => rw [hg] at hee; cases hee
   | some q =>
    rw [hg] at hee
    simp only [Option.map_some, Option.some.injEq] at hee; subst hee
    unfold Jy at hg
    split at hg
    ·split at hg
     ·cases hg
     ·simp only [Option.some.injEq] at hg; subst hg; rfl
    ·cases hg
  have hk : (del (100000 + n) ((14, B0.bx (C7 rows)) :: Cj rows)).map (fun p => (p.1, O6 (100000 + n) p.2)) = (14, .bx ((C7 rows).map (E8 (100000 + n)))) :: (Cj rows).filter fun p => p.1 != 100000 + n := by
   have e : del (100000 + n) ((14, B0.bx (C7 rows)) :: Cj rows) = (14, B0.bx (C7 rows)) :: (Cj rows).filter fun p => p.1 != 100000 + n := by
    unfold del
    rw [List.filter_cons, if_pos (by simp; omega)]
   rw [e, List.map_cons, hkl _ (fun p hp => (List.mem_filter.1 hp).1)]
   rfl
  have hl47 : A2 ((Cj rows).filter fun p => p.1 != 100000 + n) 47 = none := by rw [htl, if_neg (by omega)]; exact hlk47
  generalize htail : (Cj rows).filter (fun p => p.1 != 100000 + n) = tl at htl hk hl47
  have hkeys : ∀ q ∈ tl, 100000 ≤ q.1 ∧ q.1 < 116384 := by
   intro q hq
   rw [← htail] at hq
   have := Z3 q (List.mem_filter.1 hq).1
   omega
  have hcs : ∀ j, j ≠ n → ((C7 rows).map (E8 (100000 + n)))[j]? = (C7 rows)[j]? := by
   intro j hj
   simp only [C7, List.getElem?_map, List.getElem?_mapIdx, Option.map_map]
   cases rows[j]? with
   | none => rfl
   | some r =>
    simp only [Option.map_some, Function.comp_def, q6n]
    split
    ·rfl
    ·simp only [E8, kill1]; rw [if_neg (by omega)]
  have hcl : ((C7 rows).map (E8 (100000 + n))).length = rows.length := by simp [Qh]
  simp (disch := omega) [-Gh.run, Fa, -del, -O6, hat, Qh, hn, hw, hlk, hlen1, Aa, q8k, h14, hk, hl47]
  refine ⟨by omega, ?_⟩
  rw [show ∀ st, A2 st.env 8 = some (.t (tI n)) → (Gh.renS 47 100000 8).run st = q3g 47 (100000 + n) st from fun st hs => by simp [Gh.run, hs]]
  ·rw [fin (p := (i, k)) hn hn2 (by simp [hcl]; omega) (fun j hj => (hset j hj _ _ hcl).trans (hcs j hj)) (by rw [hseta _ _ hcl, hrow]) (by rw [hrow]; simp [A2]; rw [show [tI i, tI k] = tLn (i, k) from rfl, q1z]) (by simp [A2]) (by rw [A2, if_neg (by omega), A2, if_neg (by omega), htl, if_pos rfl]) (fun t h1 h2 h3 => ?_) (fun q hq => ?_)]
   ·simpa [Be, ren1, ren0, Hf] using h
   ·rw [A2, if_neg (by omega), A2, if_neg (by omega), htl, if_neg h3, Cj, Md, if_pos (by omega)]
   ·rcases List.mem_cons.1 hq with rfl | hq
    ·exact .inl rfl
    ·rcases List.mem_cons.1 hq with rfl | hq
     ·exact .inr (.inl rfl)
     ·exact .inr (.inr (hkeys q hq))
  ·rfl
def J9 (c : B1) (i : Nat) : List Int → Nat → List Lj → List Lj
 | [], _, rows => rows
 | n :: l, k, rows => J9 c i l (k + 1) (if Oo c n then rows else Hi rows n.toNat (i, k))
def Gs (c : B1) : List Nd → Nat → List Lj → List Lj
 | [], _, rows => rows
 | x :: l, i, rows => Gs c l (i + 1) (J9 c i x.inn.l 0 rows)
def RB (rows : List Lj) (B : Nat) : Prop := ∀ r ∈ rows, r.length ≤ B
theorem RB.add {rows : List Lj} {B n : Nat} {p : Int × Int} (h : RB rows B) : RB (Hi rows n p) (B + 1) := by
 intro r hr
 unfold Hi at hr
 by_cases hn : n < rows.length
 ·rcases List.mem_or_eq_of_mem_set hr with hr | rfl
  ·have := h r hr; omega
  ·have : (rows.getD n []).length ≤ B := by
    have e : rows.getD n [] = rows[n] := by simp [hn]
    rw [e]; exact h _ (List.getElem_mem hn)
   simp at this ⊢; omega
 ·rw [List.set_eq_of_length_le (by omega)] at hr
  have := h r hr; omega
theorem RB.mono {rows : List Lj} {B C : Nat} (h : RB rows B) (hc : B ≤ C) : RB rows C := fun r hr => Nat.le_trans (h r hr) hc
theorem RB.at {rows : List Lj} {B : Nat} (h : RB rows B) (n : Nat) : (rows.getD n []).length ≤ B := by
 by_cases hn : n < rows.length
 ·have e : rows.getD n [] = rows[n] := by simp [hn]
  rw [e]; exact h _ (List.getElem_mem hn)
 ·simp [List.getD, List.getElem?_eq_none (Nat.not_lt.1 hn)]
theorem Vv (c : B1) (i : Nat) : ∀ (l : List Int) (k : Nat) (rows : List Lj) (B : Nat), RB rows B → (J9 c i l k rows).length = rows.length ∧ RB (J9 c i l k rows) (B + l.length)
 | [], k, rows, B, h => ⟨rfl, h⟩
 | n :: l, k, rows, B, h => by
  simp only [J9, List.length_cons]
  split
  ·have := Vv c i l (k + 1) rows B h
   exact ⟨this.1, this.2.mono (by omega)⟩
  ·have := Vv c i l (k + 1) _ (B + 1) (h.add (n := n.toNat) (p := (i, k)))
   exact ⟨this.1.trans q35, this.2.mono (by omega)⟩
theorem q4j {Q : AX → St → Prop} (c : B1) (hn : c.nodes.l.length ≤ 16384) (i : Nat) (s : Sl Int) (hs : s.l.length ≤ 1000000000) (R : List Lj)
  (h0 : Q (.exit 2) ⟨[(3, .lb 14 c.nodes.l.length), (4, .t (.fn 188 [.ip (tC c) 0])), (5, .t (tI i)), (18, .t (A7 c.nodes)), (19, .t (tI c.nodes.l.length)), (20, .t (tI i)), (26, .t (Bo s)), (27, .t (tI s.l.length)), (28, .t (tI s.l.length)), (29, .t (tB false))], (14, .bx (C7 R)) :: Cj R⟩) :
  ∀ (kk k : Nat) (rows : List Lj), kk + k = s.l.length → rows.length = c.nodes.l.length → (∀ n, (rows.getD n []).length + kk ≤ 1000000000) → J9 c i (s.l.drop k) k rows = R →
  run Tryz.prog Γ Ie Q ⟨[(3, .lb 14 c.nodes.l.length), (4, .t (.fn 188 [.ip (tC c) 0])), (5, .t (tI i)), (18, .t (A7 c.nodes)), (19, .t (tI c.nodes.l.length)), (20, .t (tI i)), (26, .t (Bo s)), (27, .t (tI s.l.length)), (28, .t (tI k))], (14, .bx (C7 rows)) :: Cj rows⟩
 | 0, k, rows, h, hl, hb, hR => by
  refine Oi fun K hK => ?_
  have h2 : ¬ k < s.l.length := by omega
  have h3 : k = s.l.length := by omega
  simp [h2, -Gh.run, Fa, Ur]
  subst h3
  rw [List.drop_of_length_le (Nat.le_refl _)] at hR
  simp only [J9] at hR
  subst hR
  exact h0
 | kk + 1, k, rows, h, hl, hb, hR => by
  refine Oi fun K hK => ?_
  have h2 : k < s.l.length := by omega
  rw [List.drop_eq_getElem_cons h2] at hR
  simp only [J9] at hR
  have e := Yk (Γ := Γ) c s.l[k] (by omega)
  simp (disch := omega) [h2, -Gh.run, Fa, Ur, -Dy, Bo, A1, Bt (0 : Int), A5]
  refine Vu e ?_
  by_cases ho : Oo c s.l[k] = true
  ·rw [if_pos ho] at hR
   simp (disch := omega) [ho, -Gh.run, Fa, Ur, -Dy, A4]
   rw [hK]
   have := q4j c hn i s hs R h0 kk (k + 1) rows (by omega) hl (fun n => by have := hb n; omega) hR
   simpa [Bo] using this
  ·have ho' : Oo c s.l[k] = false := by simpa using ho
   rw [if_neg ho] at hR
   have hr := q20 (c := c) (l := [s.l[k]]) (by simp [ho']) s.l[k] (by simp)
   simp (disch := omega) [ho', -Gh.run, Fa, Ur, -Dy]
   have hz : ((s.l[k]).toNat : Int) = s.l[k] := by omega
   have := qH4 (Γ := Γ) (Q := L8 3 (Ao (run Tryz.prog Γ (.reg Lc [.keepB [3, 4, 5, 18, 19, 20, 26, 27, 28] [14] 100000 16384]) (Ao (fun s => Ao K Q .normal (ghs [.keepB [3, 4, 5, 18, 19, 20, 26, 27, 28] [14] 100000 16384] s)) (Ao K Q))) (Ao (fun s => Ao K Q .normal (ghs [.keepB [3, 4, 5, 18, 19, 20, 26, 27, 28] [14] 100000 16384] s)) (Ao K Q)))) rows (s.l[k]).toNat (by omega) (by omega) i k (by have := hb (s.l[k]).toNat; omega)
    (.fn 188 [.ip (tC c) 0]) (A7 c.nodes) (tI c.nodes.l.length) (tI i) (.sl (Bw s.l) s.cap s.nl) (tI s.l.length) (tI k) (tB true) c.nodes.l.length hl.symm ?_
   ·rw [hz] at this; exact this
   ·simp (disch := omega) [-Gh.run, Fa, Ur, A4]
    rw [hK]
    have hbb : ∀ n, ((Hi rows (s.l[k]).toNat (i, k)).getD n []).length + kk ≤ 1000000000 := by
     intro n
     unfold Hi
     have h5 := hb n
     have h6 := hb (s.l[k]).toNat
     by_cases hq : n = (s.l[k]).toNat
     ·subst hq
      have hlt : (s.l[k]).toNat < rows.length := by omega
      simp [List.getD, List.getElem?_set, hlt] at h6 ⊢
      omega
     ·have : ¬ (s.l[k]).toNat = n := fun e => hq e.symm
      simp [List.getD, List.getElem?_set, this] at h5 ⊢
      omega
    have := q4j c hn i s hs R h0 kk (k + 1) (Hi rows (s.l[k]).toNat (i, k)) (by omega) (q35.trans hl) hbb hR
    simpa [Bo] using this
theorem qFD {ks rs : List Nat} {st : St} : Gh.run (.keep ks rs) st = ⟨(I8 ((st.hp.map (·.1)).filter fun id => !rs.contains id) ⟨Lg.keep ks st.env, st.hp⟩).env, Lg.keep rs (I8 ((st.hp.map (·.1)).filter fun id => !rs.contains id) ⟨Lg.keep ks st.env, st.hp⟩).hp⟩ := rfl
theorem qDo {env : List (Nat × AV)} {ks : List Nat} {rows : List Lj} {q : B0} : Gh.run (.keepB ks [6, 14] 100000 16384) ⟨env, (6, q) :: (14, .bx (C7 rows)) :: Cj rows⟩ = ⟨Lg.keep ks env, (6, q) :: (14, .bx (C7 rows)) :: Cj rows⟩ := by
 have hk : (((6, q) :: (14, B0.bx (C7 rows)) :: Cj rows).map (·.1)).filter (fun id => !([6, 14] : List Nat).contains id && !(decide (100000 ≤ id) && decide (id < 100000 + 16384))) = [] := by
  rw [List.filter_eq_nil_iff]
  intro id hid
  simp only [List.map_cons, List.mem_cons] at hid
  rcases hid with rfl | rfl | hid
  ·simp
  ·simp
  ·obtain ⟨p, hp, rfl⟩ := List.mem_map.1 hid
   have := Z3 p hp
   simp; omega
 simp only [Gh.run, q66, hk, I8, q4e, q6e, A2, ↓reduceIte]
 simp only [show ¬ (6 = 14) by omega, ↓reduceIte, List.cons_append, List.nil_append]
 congr 3
 refine q85 fun t ht => ?_
 rw [List.mem_range'_1] at ht
 rw [A2, if_neg (by omega), q21, if_neg (by omega), if_pos ⟨ht.1, by omega⟩]
theorem q6p {Q : AX → St → Prop} (c : B1) (hn : c.nodes.l.length ≤ 16384) (hi : ∀ x ∈ c.nodes.l, x.inn.l.length ≤ 16) (R : List Lj)
  (h0 : Q (.exit 0) ⟨[(3, .lb 14 c.nodes.l.length), (4, .t (.fn 188 [.ip (tC c) 0])), (18, .t (A7 c.nodes)), (19, .t (tI c.nodes.l.length)), (20, .t (tI c.nodes.l.length)), (21, .t (tB false))], (14, .bx (C7 R)) :: Cj R⟩) :
  ∀ (kk i : Nat) (rows : List Lj), kk + i = c.nodes.l.length → rows.length = c.nodes.l.length → RB rows (16 * i) → Gs c (c.nodes.l.drop i) i rows = R →
  run Tryz.prog Γ Ig Q ⟨[(3, .lb 14 c.nodes.l.length), (4, .t (.fn 188 [.ip (tC c) 0])), (18, .t (A7 c.nodes)), (19, .t (tI c.nodes.l.length)), (20, .t (tI i))], (14, .bx (C7 rows)) :: Cj rows⟩
 | 0, i, rows, h, hl, hb, hR => by
  refine Oj fun K hK => ?_
  have h2 : ¬ i < c.nodes.l.length := by omega
  have h3 : i = c.nodes.l.length := by omega
  simp [h2, -Gh.run, Fa, Ur]
  subst h3
  rw [List.drop_of_length_le (Nat.le_refl _)] at hR
  simp only [Gs] at hR
  subst hR
  exact h0
 | kk + 1, i, rows, h, hl, hb, hR => by
  refine Oj fun K hK => ?_
  have h2 : i < c.nodes.l.length := by omega
  rw [List.drop_eq_getElem_cons h2] at hR
  simp only [Gs] at hR
  have hx := hi _ (List.getElem_mem h2)
  have hlk6 : A2 (Cj rows) 6 = none := by rw [Cj, Md, if_neg (by omega)]
  simp (disch := omega) [h2, -Gh.run, Fa, Ur, qFC, qDo, A7, Aa, E4 Nd.d, Bl, Gq, Bo, hlk6, A1]
  refine q4j c hn i c.nodes.l[i].inn (by omega) _ ?_ c.nodes.l[i].inn.l.length 0 rows (by omega) hl (fun n => by have := hb.at n; omega) rfl
  obtain ⟨hf1, hf2⟩ := Vv c i c.nodes.l[i].inn.l 0 rows (16 * i) hb
  simp (disch := omega) [-Gh.run, Fa, Ur, A4, List.drop_zero]
  rw [hK]
  have := q6p c hn hi R h0 kk (i + 1) _ (by omega) (hf1.trans hl) (hf2.mono (by omega)) hR
  simpa [A7] using this
def Vw (r : Lj) : T := .sl (B8 tLn r) (some r.length) (if r = [] then some true else none)
theorem qDp (r : Lj) : Ab Tryz.prog Γ 170 [q7Y r] (Vw r) := by
 unfold q7Y Vw
 by_cases h : r = []
 ·subst h; simpa [B8] using q83 (Γ := Γ) [] (some 0) (some true) qF9
 ·rw [if_neg h, if_neg h]
  have := q83 (Γ := Γ) (B8 tLn r) none none q8k
  rwa [Aa] at this
def Zz (rows : List Lj) (i : Nat) : List AV := rows.mapIdx fun j r => .t (if j < i then Vw r else q7Y r)
theorem q3o {rows : List Lj} {i : Nat} : (Zz rows i).length = rows.length := by simp [Zz]
theorem qFE {rows : List Lj} {i : Nat} (h : i < rows.length) : ((Zz rows i).drop i).take 1 = [.t (q7Y rows[i])] := by
 rw [List.drop_eq_getElem_cons (by rw [q3o]; exact h)]
 simp [Zz]
theorem qCt {rows : List Lj} {i : Nat} (h : i < rows.length) : (Zz rows i).take i ++ .t (Vw rows[i]) :: (Zz rows i).drop (i + 1) = Zz rows (i + 1) := by
 apply List.ext_getElem?
 intro j
 rw [List.getElem?_append]
 have e : ((Zz rows i).take i).length = i := by simp [q3o]; omega
 rw [e]
 by_cases h1 : j < i
 ·rw [if_pos h1, List.getElem?_take, if_pos h1]
  simp only [Zz, List.getElem?_mapIdx]
  cases rows[j]? with
  | none => rfl
  | some r => simp only [Option.map_some]; rw [if_pos h1, if_pos (by omega)]
 ·rw [if_neg h1]
  by_cases h2 : j = i
  ·subst h2
   simp [Zz, List.getElem?_eq_getElem h]
  ·rw [show j - i = (j - i - 1) + 1 by omega, List.getElem?_cons_succ, List.getElem?_drop]
   rw [show i + 1 + (j - i - 1) = j by omega]
   simp only [Zz, List.getElem?_mapIdx]
   cases rows[j]? with
   | none => rfl
   | some r => simp only [Option.map_some]; rw [if_neg h1, if_neg (by omega)]
theorem q86 {Q : AX → St → Prop} (rows : List Lj) (hn : rows.length ≤ 16384)
  (h0 : Q (.exit 4) ⟨[(3, .lb 14 rows.length), (51, .lb 14 rows.length), (52, .t (tI rows.length)), (53, .t (tI rows.length)), (54, .t (tB false))], [(14, .bx (Zz rows rows.length))]⟩) :
  ∀ (kk i : Nat), kk + i = rows.length →
  run Tryz.prog Γ Ih Q ⟨[(3, .lb 14 rows.length), (51, .lb 14 rows.length), (52, .t (tI rows.length)), (53, .t (tI i))], [(14, .bx (Zz rows i))]⟩
 | 0, i, h => by
  refine Ol fun K hK => ?_
  have h2 : ¬ i < rows.length := by omega
  have h3 : i = rows.length := by omega
  simp [h2]
  subst h3
  exact h0
 | kk + 1, i, h => by
  refine Ol fun K hK => ?_
  have h2 : i < rows.length := by omega
  have h3 : i + 1 ≤ rows.length := h2
  have e := qDp (Γ := Γ) rows[i]
  have ho : (q7Y rows[i]).one = true := by unfold q7Y; split <;> rfl
  simp (disch := omega) [h2, h3, qFE h2, q3o]
  refine A8 e rfl ?_
  simp (disch := omega) [h2, h3, q3o, A4, Vw]
  rw [hK]
  have := q86 rows hn h0 kk (i + 1) (by omega)
  rw [← qCt h2] at this
  simpa [Vw] using this
def Em (c : B1) : List Lj := Gs c c.nodes.l 0 (List.replicate c.nodes.l.length [])
def q9k (rows : List Lj) : T := .sl (A9 Vw rows) (some rows.length) none
theorem q3p (c : B1) : ∀ (l : List Nd) (i : Nat) (rows : List Lj), (Gs c l i rows).length = rows.length
 | [], _, _ => rfl
 | x :: l, i, rows => by
  simp only [Gs]
  rw [q3p c l]
  exact (Vv c i x.inn.l 0 rows (rows.foldr (fun r m => r.length + m) 0) (by
   intro r hr
   induction rows with
   | nil => cases hr
   | cons y ys ih =>
    simp only [List.foldr_cons]
    rcases List.mem_cons.1 hr with rfl | hr
    ·omega
    ·have := ih hr; omega)).1
theorem Xb (c : B1) : (Em c).length = c.nodes.l.length := by rw [Em, q3p]; simp
theorem q9l (c : B1) (hn : c.nodes.l.length ≤ 16384) (hi : ∀ x ∈ c.nodes.l, x.inn.l.length ≤ 16) : Ab Tryz.prog Γ 146 [.agg (tC c)] (q9k (Em c)) := by
 refine Ax q2B rfl ?_
 have eo := Uo (Γ := Γ) c
 have hR := Xb c
 have hk1 : ∀ (env : List (Nat × AV)) (ks : List Nat), Gh.run (.keepB ks [14] 100000 16384) ⟨env, [(14, .bx (List.replicate c.nodes.l.length (.t (.sl [] (some 0) (some true)))))]⟩ = ⟨Lg.keep ks env, (14, .bx (C7 (List.replicate c.nodes.l.length []))) :: Cj (List.replicate c.nodes.l.length [])⟩ := by
  intro env ks
  have hc : C7 (List.replicate c.nodes.l.length []) = List.replicate c.nodes.l.length (.t (.sl [] (some 0) (some true))) := by
   apply List.ext_getElem?
   intro j
   simp only [C7, List.getElem?_mapIdx, List.getElem?_replicate]
   split <;> simp [q6n]
  refine q4h (by simp) (by simp [A2, hc]) fun t h1 h2 => ?_
  rw [A2, if_neg (by omega)]
  unfold Jy
  rw [List.getElem?_replicate]
  split <;> rename_i hq
  ·split at hq
   ·simp only [Option.some.injEq] at hq; subst hq; rfl
   ·cases hq
  ·rfl
 simp (disch := omega) [Vn, tC, A7, Ac, Af, Bo, Aa, -Gh.run, Fa, qFD, hk1, A4]
 refine ⟨by omega, ?_⟩
 refine A8 eo rfl ?_
 simp (disch := omega) [-Gh.run, Fa, Ur, Aa]
 have hp0 : RB (List.replicate c.nodes.l.length []) (16 * 0) := by
  intro r hr; rw [List.eq_of_mem_replicate hr]; simp
 refine q6p c hn hi (Em c) ?_ c.nodes.l.length 0 (List.replicate c.nodes.l.length []) (by omega) (by simp) hp0 rfl
 generalize Em c = R at hR
 rw [← hR]
 simp (disch := omega) [-Gh.run, Fa]
 rw [qDm (by omega) (fun id r h p hp => by
  simp only [List.mem_cons, List.not_mem_nil, or_false] at hp
  have h14 : ¬ 14 = id := by omega
  rcases hp with rfl | rfl | rfl | rfl | rfl | rfl | rfl | rfl | rfl <;> simp [Cm, frz1, frz0, h14])]
 have hmix : (R.map fun r => AV.t (q7Y r)) = Zz R 0 := by
  apply List.ext_getElem?
  intro j
  simp only [List.getElem?_map, Zz, List.getElem?_mapIdx]
  cases R[j]? <;> simp
 rw [hmix]
 simp
 refine q86 R (by omega) ?_ R.length 0 (by omega)
 have hfin : Zz R R.length = (R.map Vw).map .t := by
  apply List.ext_getElem?
  intro j
  simp only [List.getElem?_map, Zz, List.getElem?_mapIdx, Option.map_map]
  cases hj : R[j]? with
  | none => rfl
  | some r =>
   have := (List.getElem?_eq_some_iff.1 hj).1
   simp only [Option.map_some, Function.comp_def]
   rw [if_pos this]
 have hopt : Aj ((Zz R R.length).map (Ae [(14, .bx (Zz R R.length))] 3)) = some (R.map Vw) := by
  conv => lhs; rw [hfin]
  rw [List.map_map]
  have : (R.map Vw).map (Ae [(14, .bx ((R.map Vw).map .t))] 3 ∘ AV.t) = (R.map Vw).map fun t => some t := List.map_congr_left fun t _ => by simp [Ae]
  rw [this]; exact Nw
 simp [Vo, q9k, hopt, A9]
end Go.Lg
namespace Go.Lg
open Go Go.Proofs
def Xc (N : Nat) (rows : List Lj) : Prop := ∀ r ∈ rows, ∀ p ∈ r, ∃ i : Nat, i < N ∧ p.1 = i
theorem Xc.add {N : Nat} {rows : List Lj} {n i : Nat} {k : Int} (h : Xc N rows) (hi : i < N) : Xc N (Hi rows n (i, k)) := by
 intro r hr p hp
 unfold Hi at hr
 by_cases hn : n < rows.length
 ·rcases List.mem_or_eq_of_mem_set hr with hr | rfl
  ·exact h r hr p hp
  ·rcases List.mem_append.1 hp with hp | hp
   ·have e : rows.getD n [] = rows[n] := by simp [hn]
    rw [e] at hp
    exact h _ (List.getElem_mem hn) p hp
   ·simp at hp; subst hp; exact ⟨i, hi, rfl⟩
 ·rw [List.set_eq_of_length_le (by omega)] at hr
  exact h r hr p hp
theorem q36 {N : Nat} (c : B1) (i : Nat) (hi : i < N) : ∀ (l : List Int) (k : Nat) (rows : List Lj), Xc N rows → Xc N (J9 c i l k rows)
 | [], _, _, h => h
 | n :: l, k, rows, h => by
  simp only [J9]
  split
  ·exact q36 c i hi l (k + 1) rows h
  ·exact q36 c i hi l (k + 1) _ (h.add hi)
theorem q5K {N : Nat} (c : B1) : ∀ (l : List Nd) (i : Nat) (rows : List Lj), i + l.length ≤ N → Xc N rows → Xc N (Gs c l i rows)
 | [], _, _, _, h => h
 | x :: l, i, rows, hl, h => by
  simp only [Gs]
  simp at hl
  exact q5K c l (i + 1) _ (by omega) (q36 c i (by omega) _ _ _ h)
theorem q37 (c : B1) : Xc c.nodes.l.length (Em c) := by
 refine q5K c c.nodes.l 0 _ (by omega) fun r hr p hp => ?_
 rw [List.eq_of_mem_replicate hr] at hp; cases hp
theorem q5L (c : B1) : ∀ (l : List Nd) (i B : Nat) (rows : List Lj), (∀ x ∈ l, x.inn.l.length ≤ 16) → RB rows B → RB (Gs c l i rows) (B + 16 * l.length)
 | [], _, _, _, _, h => h
 | x :: l, i, B, rows, hl, h => by
  simp only [Gs, List.length_cons]
  have h1 := (Vv c i x.inn.l 0 rows B h).2
  have h2 := hl x List.mem_cons_self
  exact (q5L c l (i + 1) (B + 16) _ (fun y hy => hl y (List.mem_cons_of_mem _ hy)) (h1.mono (by omega))).mono (by omega)
theorem qBC (c : B1) (hn : c.nodes.l.length ≤ 16384) (hi : ∀ x ∈ c.nodes.l, x.inn.l.length ≤ 16) : RB (Em c) 262144 := by
 refine (q5L c c.nodes.l 0 0 _ hi fun r hr => ?_).mono (by omega)
 rw [List.eq_of_mem_replicate hr]; simp
structure LS where
 out : List Int
 left : List Int
 rdy : List Int
def Dt (k : Int) : Bool := decide (1 ≤ k ∧ k ≤ 13)
def Ar (c : B1) (j : Nat) : Int := (c.nodes.l.getD j Nd.d).k
def Du (c : B1) (n : Nat) (s : LS) (p : Int × Int) : LS :=
 if Dt (Ar c p.1.toNat) then
  ⟨s.out.set p.1.toNat (max (s.out.getD p.1.toNat 0) (s.out.getD n 0 + 1)), s.left.set p.1.toNat (s.left.getD p.1.toNat 0 - 1), if s.left.getD p.1.toNat 0 - 1 = 0 then s.rdy ++ [p.1] else s.rdy⟩
 else s
def G2 (c : B1) (n : Nat) : Lj := (Em c).getD n []
def Kv (c : B1) : Nat → Nat → LS → Nat × LS
 | 0, d, s => (d, s)
 | f + 1, d, s => if d < s.rdy.length then Kv c f (d + 1) ((G2 c (s.rdy.getD d 0).toNat).foldl (Du c (s.rdy.getD d 0).toNat) s) else (d, s)
def Df (x : Nd) : Int := if Dt x.k then x.inn.l.length else 0
def Dj : List Nd → Nat → List Int
 | [], _ => []
 | x :: l, i => if Df x = 0 then (i : Int) :: Dj l (i + 1) else Dj l (i + 1)
def Hj (c : B1) : LS := ⟨List.replicate c.nodes.l.length 0, c.nodes.l.map Df, Dj c.nodes.l 0⟩
def Me (c : B1) : Nat × LS := Kv c (c.nodes.l.length + 1) 0 (Hj c)
structure LI (N M : Nat) (s : LS) : Prop where
 lo : s.out.length = N
 ll : s.left.length = N
 rd : ∀ j ∈ s.rdy, ∃ i : Nat, i < N ∧ j = i ∧ s.left.getD i 0 ≤ 0
 nd : s.rdy.Nodup
 bo : ∀ i, 0 ≤ s.out.getD i 0 ∧ s.out.getD i 0 ≤ M
 bl : ∀ i, -(M : Int) ≤ s.left.getD i 0 ∧ s.left.getD i 0 ≤ 1000
theorem q87 {N : Nat} {l : List Int} (h : l.Nodup) (hb : ∀ j ∈ l, ∃ i : Nat, i < N ∧ j = i) : l.length ≤ N := by
 have h1 : (l.map Int.toNat).Nodup := by
  rw [List.nodup_iff_pairwise_ne] at h ⊢
  rw [List.pairwise_map]
  refine h.imp_of_mem fun {a b} ha hb' hne e => hne ?_
  obtain ⟨i, _, rfl⟩ := hb a ha
  obtain ⟨j, _, rfl⟩ := hb b hb'
  have : i = j := by simpa using e
  rw [this]
 have h2 : (l.map Int.toNat) ⊆ List.range N := by
  intro j hj
  obtain ⟨a, ha, rfl⟩ := List.mem_map.1 hj
  obtain ⟨i, hi, rfl⟩ := hb a ha
  simpa using hi
 have := (List.Nodup.length_le_of_subset h1 h2)
 simpa using this
theorem LI.len {N M : Nat} {s : LS} (h : LI N M s) : s.rdy.length ≤ N := q87 h.nd fun j hj => by obtain ⟨i, h1, h2, _⟩ := h.rd j hj; exact ⟨i, h1, h2⟩
theorem Hk {l : List Int} {j i : Nat} {v : Int} (hj : j < l.length) : (l.set j v).getD i 0 = if i = j then v else l.getD i 0 := by
 simp only [List.getD, List.getElem?_set]
 by_cases h : j = i
 ·subst h; simp [hj]
 ·simp [h, Ne.symm h]
theorem LI.step {N M : Nat} {c : B1} {s : LS} {n i : Nat} {k : Int} (h : LI N M s) (hi : i < N) : LI N (M + 1) (Du c n s (i, k)) := by
 unfold Du
 simp only [Int.toNat_natCast]
 split
 case isFalse => exact ⟨h.lo, h.ll, h.rd, h.nd, fun j => ⟨(h.bo j).1, by have := (h.bo j).2; omega⟩, fun j => ⟨by have := (h.bl j).1; omega, (h.bl j).2⟩⟩
 refine ⟨by simp [h.lo], by simp [h.ll], ?_, ?_, ?_, ?_⟩
 ·intro j hj
  have old : ∀ j ∈ s.rdy, ∃ i0 : Nat, i0 < N ∧ j = i0 ∧ (s.left.set i (s.left.getD i 0 - 1)).getD i0 0 ≤ 0 := by
   intro j hj
   obtain ⟨i0, h1, h2, h3⟩ := h.rd j hj
   refine ⟨i0, h1, h2, ?_⟩
   rw [Hk (by rw [h.ll]; exact hi)]
   split
   ·rename_i e; subst e; omega
   ·exact h3
  split at hj
  ·rename_i hz
   rcases List.mem_append.1 hj with hj | hj
   ·exact old j hj
   ·simp at hj; subst hj
    refine ⟨i, hi, rfl, ?_⟩
    rw [Hk (by rw [h.ll]; exact hi), if_pos rfl]; omega
  ·exact old j hj
 ·split
  ·rename_i hz
   rw [List.nodup_append]
   refine ⟨h.nd, by simp, ?_⟩
   intro a ha b hb e
   simp at hb; subst hb; subst e
   obtain ⟨i0, h1, h2, h3⟩ := h.rd _ ha
   have : i = i0 := by omega
   subst this
   omega
  ·exact h.nd
 ·intro j
  rw [Hk (by rw [h.lo]; exact hi)]
  have h1 := h.bo j
  have h2 := h.bo i
  have h3 := h.bo n
  split
  ·rename_i e
   omega
  ·omega
 ·intro j
  rw [Hk (by rw [h.ll]; exact hi)]
  have h1 := h.bl j
  have h2 := h.bl i
  split <;> omega
theorem LI.fold {N : Nat} {c : B1} {n : Nat} : ∀ {r : Lj} {s : LS} {M : Nat}, LI N M s → (∀ p ∈ r, ∃ i : Nat, i < N ∧ p.1 = i) → LI N (M + r.length) (r.foldl (Du c n) s)
 | [], _, _, h, _ => h
 | p :: r, s, M, h, hr => by
  obtain ⟨i, hi, he⟩ := hr p List.mem_cons_self
  obtain ⟨p1, p2⟩ := p
  simp only at he; subst he
  have := LI.fold (c := c) (n := n) (h.step (c := c) (n := n) (k := p2) hi) fun q hq => hr q (List.mem_cons_of_mem _ hq)
  simp only [List.foldl_cons, List.length_cons]
  rw [show M + (r.length + 1) = M + 1 + r.length by omega]
  exact this
theorem q38 : ∀ (l : List Nd) (i : Nat), (∀ j ∈ Dj l i, ∃ a : Nat, i ≤ a ∧ a < i + l.length ∧ j = a ∧ (l.map Df).getD (a - i) 0 = 0) ∧ (Dj l i).Nodup
 | [], _ => ⟨fun j h => (by cases h), List.nodup_nil⟩
 | x :: l, i => by
  obtain ⟨h1, h2⟩ := q38 l (i + 1)
  have h3 : ∀ j ∈ Dj l (i + 1), ∃ a : Nat, i ≤ a ∧ a < i + (l.length + 1) ∧ j = a ∧ ((x :: l).map Df).getD (a - i) 0 = 0 := by
   intro j hj
   obtain ⟨a, e1, e2, e3, e4⟩ := h1 j hj
   refine ⟨a, by omega, by omega, e3, ?_⟩
   rw [show a - i = (a - (i + 1)) + 1 by omega]
   simpa using e4
  simp only [Dj, List.length_cons]
  split
  ·rename_i hz
   refine ⟨fun j hj => ?_, ?_⟩
   ·rcases List.mem_cons.1 hj with rfl | hj
    ·exact ⟨i, by omega, by omega, rfl, by simp [hz]⟩
    ·exact h3 j hj
   ·rw [List.nodup_cons]
    refine ⟨fun hm => ?_, h2⟩
    obtain ⟨a, e1, _, e3, _⟩ := h1 _ hm
    omega
  ·exact ⟨h3, h2⟩
theorem q9m (c : B1) (hi : ∀ x ∈ c.nodes.l, x.inn.l.length ≤ 16) : LI c.nodes.l.length 0 (Hj c) := by
 obtain ⟨h1, h2⟩ := q38 c.nodes.l 0
 refine ⟨by simp [Hj], by simp [Hj], fun j hj => ?_, h2, fun i => ?_, fun i => ?_⟩
 ·obtain ⟨a, _, e2, e3, e4⟩ := h1 j hj
  exact ⟨a, by omega, e3, by simp only [Nat.sub_zero] at e4; simp only [Hj]; omega⟩
 ·simp only [Hj, List.getD, List.getElem?_replicate]
  split <;> simp
 ·simp only [Hj, List.getD, List.getElem?_map]
  cases hx : c.nodes.l[i]? with
  | none => simp
  | some x =>
   have := hi x (List.mem_of_getElem? hx)
   simp only [Option.map_some, Option.getD_some, Df]
   split <;> simp <;> omega
end Go.Lg
namespace Go.Lg
open Go Go.Proofs
variable {Γ : Tables}
theorem q3q {α : Type} {f : α → T} {l : List α} {j : Nat} {x : α} (h : j < l.length) : (A9 f (l.set j x))[j]?.getD [] = [f x] := by simp [A9, h]
theorem qFF {r : Lj} {i : Nat} (h : i < r.length) : (B8 tLn r)[i]?.getD [] = tLn r[i] := by simp [B8, h]
def lsH (s : LS) : List (Nat × B0) := [(23, .sl 3 1 (Bw s.out)), (27, .sl 3 1 (Bw s.left)), (53, .sl 3 1 (Bw s.rdy))]
theorem q39 {Q : AX → St → Prop} (c : B1) (hc : CirOk c) (hn : c.nodes.l.length ≤ 16384) (n : Nat) (hnn : n < c.nodes.l.length) (d : Int) (r : Lj) (nl : Option Bool) (hr : r.length ≤ 262144) (hin : ∀ p ∈ r, ∃ i : Nat, i < c.nodes.l.length ∧ p.1 = i) (Td : T) (S : LS)
  (h0 : Q (.exit 4) ⟨[(1, .t (.ip (tC c) 0)), (5, .ls 23 0 c.nodes.l.length none), (6, .ls 27 0 c.nodes.l.length none), (7, .ls 53 0 S.rdy.length none), (10, .t Td), (11, .t (tI d)), (12, .t (tI n)), (76, .t (.sl (B8 tLn r) (some r.length) nl)), (77, .t (tI r.length)), (78, .t (tI r.length)), (79, .t (tB false))], lsH S⟩) :
  ∀ (kk k : Nat) (s : LS) (M : Nat), kk + k = r.length → LI c.nodes.l.length M s → M + kk ≤ 4611686018427387904 → (r.drop k).foldl (Du c n) s = S →
  run Tryz.prog Γ Ia Q ⟨[(1, .t (.ip (tC c) 0)), (5, .ls 23 0 c.nodes.l.length none), (6, .ls 27 0 c.nodes.l.length none), (7, .ls 53 0 s.rdy.length none), (10, .t Td), (11, .t (tI d)), (12, .t (tI n)), (76, .t (.sl (B8 tLn r) (some r.length) nl)), (77, .t (tI r.length)), (78, .t (tI k))], lsH s⟩
 | 0, k, s, M, h, hI, hM, hS => by
  refine Og fun K hK => ?_
  have h2 : ¬ k < r.length := by omega
  have h3 : k = r.length := by omega
  simp [h2, lsH]
  subst h3
  rw [List.drop_of_length_le (Nat.le_refl _)] at hS
  simp only [List.foldl_nil] at hS
  subst hS
  exact h0
 | kk + 1, k, s, M, h, hI, hM, hS => by
  refine Og fun K hK => ?_
  have h2 : k < r.length := by omega
  rw [List.drop_eq_getElem_cons h2] at hS
  simp only [List.foldl_cons] at hS
  obtain ⟨j, hj, hpj⟩ := hin _ (List.getElem_mem h2)
  have hstep := hI.step (c := c) (n := n) (k := r[k].2) hj
  have hpair : r[k] = ((j : Int), r[k].2) := by rw [← hpj]
  rw [hpair] at hS
  generalize r[k].2 = q at hS hstep hpair
  have e := q4g (Γ := Γ) c.nodes.l[j].k
  have hkind : Ar c j = c.nodes.l[j].k := by simp [Ar, hj]
  simp (disch := omega) [h2, lsH, Aa, qFF h2, q8k, hpair, tLn, tC, A7, E4 Nd.d, Bl, Gq, Bo, hj]
  refine A0 e rfl ?_
  by_cases hcb : Dt c.nodes.l[j].k = true
  case neg =>
   have hcb' : decide (1 ≤ c.nodes.l[j].k ∧ c.nodes.l[j].k ≤ 13) = false := by simpa [Dt] using hcb
   have hcb2 : Dt (Ar c j) = false := by rw [hkind]; exact hcb'
   have hst : Du c n s ((j : Int), q) = s := by unfold Du; simp [hcb2]
   rw [hst] at hS hstep
   rw [hcb']
   simp (disch := omega) [A4]
   rw [hK]
   have := q39 c hc hn n hnn d r nl hr hin Td S h0 kk (k + 1) s (M + 1) (by omega) hstep (by omega) hS
   simpa [lsH, tC, A7, Bo] using this
  have hcb' : decide (1 ≤ c.nodes.l[j].k ∧ c.nodes.l[j].k ≤ 13) = true := by simpa [Dt] using hcb
  have hcb2 : Dt (Ar c j) = true := by rw [hkind]; exact hcb'
  rw [hcb']
  have ho := hI.lo
  have hll := hI.ll
  have b1 := hI.bo n
  have b2 := hI.bo j
  have b3 := hI.bl j
  have hrl := hI.len
  have hst : Du c n s ((j : Int), q) = ⟨s.out.set j (max (s.out.getD j 0) (s.out.getD n 0 + 1)), s.left.set j (s.left.getD j 0 - 1), if s.left.getD j 0 - 1 = 0 then s.rdy ++ [(j : Int)] else s.rdy⟩ := by
   unfold Du; simp [hcb2]
  have hw : E5 1 [[tI (j : Int)]] := by intro e he; simp at he; subst he; rfl
  have hmax : max (s.out.getD j 0) (s.out.getD n 0 + 1) = if s.out.getD j 0 < s.out.getD n 0 + 1 then s.out.getD n 0 + 1 else s.out.getD j 0 := by
   split <;> omega
  have ih := fun S2 (e : S2 = Du c n s ((j : Int), q)) => q39 c hc hn n hnn d r nl hr hin Td S h0 kk (k + 1) S2 (M + 1) (by omega) (e ▸ hstep) (by omega) (e ▸ hS)
  have ljo : j < s.out.length := by omega
  have lno : n < s.out.length := by omega
  have ljl : j < s.left.length := by omega
  simp only [List.getD, List.getElem?_eq_getElem ljo, List.getElem?_eq_getElem lno, List.getElem?_eq_getElem ljl, Option.getD_some] at b1 b2 b3 hst hmax
  have b1a := b1.1
  have b1b := b1.2
  have b2a := b2.1
  have b2b := b2.2
  have b3a := b3.1
  have b3b := b3.2
  simp (disch := omega) [A4, A1, Bt (0 : Int), A5, Gj, ljo, lno, ljl, hj, hnn]
  rw [show (if s.out[j] < s.out[n] + 1 then s.out[n] + 1 else s.out[j]) = max s.out[j] (s.out[n] + 1) from hmax.symm]
  by_cases hz : s.left[j] - 1 = 0
  ·rw [if_pos hz] at hst
   have ih' := ih _ hst.symm
   simp (disch := omega) [hz, A4, A1, A5, hw, q3q]
   refine ⟨by omega, ?_⟩
   rw [hK]
   rw [C6 (f := tI) (x := (j : Int))]
   simpa [lsH, tC, A7, Bo, hz] using ih'
  ·rw [if_neg hz] at hst
   have ih' := ih _ hst.symm
   simp (disch := omega) [hz, A4, q3q, A5]
   rw [hK]
   simpa [lsH, tC, A7, Bo] using ih'
theorem q88 {Q : AX → St → Prop} (c : B1) (hc : CirOk c) (hn : c.nodes.l.length ≤ 16384) (hi : ∀ x ∈ c.nodes.l, x.inn.l.length ≤ 16) (R : Nat × LS)
  (h0 : Q (.exit 2) ⟨[(1, .t (.ip (tC c) 0)), (5, .ls 23 0 c.nodes.l.length none), (6, .ls 27 0 c.nodes.l.length none), (7, .ls 53 0 R.2.rdy.length none), (10, .t (q9k (Em c))), (11, .t (tI R.1)), (60, .t (tB false))], lsH R.2⟩) :
  ∀ (f d : Nat) (s : LS) (M : Nat), f + d = c.nodes.l.length + 1 → LI c.nodes.l.length M s → M = d * 262144 → Kv c f d s = R →
  run Tryz.prog Γ Ib Q ⟨[(1, .t (.ip (tC c) 0)), (5, .ls 23 0 c.nodes.l.length none), (6, .ls 27 0 c.nodes.l.length none), (7, .ls 53 0 s.rdy.length none), (10, .t (q9k (Em c))), (11, .t (tI d))], lsH s⟩
 | 0, d, s, M, h, hI, hM, hR => by
  refine Oh fun K hK => ?_
  have hlen := hI.len
  have h2 : ¬ d < s.rdy.length := by omega
  simp [h2, lsH]
  simp only [Kv] at hR
  subst hR
  exact h0
 | f + 1, d, s, M, h, hI, hM, hR => by
  refine Oh fun K hK => ?_
  have hlen := hI.len
  by_cases h2 : d < s.rdy.length
  case neg =>
   simp [h2, lsH]
   simp only [Kv, h2, ↓reduceIte] at hR
   subst hR
   exact h0
  simp only [Kv, h2, ↓reduceIte] at hR
  obtain ⟨j, hj, he, hz⟩ := hI.rd _ (List.getElem_mem h2)
  have hgd : s.rdy.getD d 0 = (j : Int) := by simp [h2, he]
  rw [hgd] at hR
  simp only [Int.toNat_natCast] at hR
  have hfr := Xb c
  have hrl : G2 c j ∈ Em c := by
   have e : G2 c j = (Em c)[j]'(by omega) := by simp [G2, hfr, hj]
   rw [e]; exact List.getElem_mem _
  have hin := q37 c _ hrl
  have hrb := qBC c hn hi _ hrl
  have hfold := hI.fold (c := c) (n := j) hin
  have hel : (Em c)[j]? = some (G2 c j) := by
   have hlt : j < (Em c).length := by omega
   simp [G2, hlt]
  have hrt : Vw (G2 c j) = .sl (B8 tLn (G2 c j)) (some (G2 c j).length) (if G2 c j = [] then some true else none) := rfl
  have hg1 : (A9 Vw (Em c))[j]?.getD [] = [Vw (G2 c j)] := by simp [A9, hel]
  have hM2 : LI c.nodes.l.length ((d + 1) * 262144) ((G2 c j).foldl (Du c j) s) := ⟨hfold.lo, hfold.ll, hfold.rd, hfold.nd, fun i => ⟨(hfold.bo i).1, by have := (hfold.bo i).2; omega⟩, fun i => ⟨by have := (hfold.bl i).1; omega, (hfold.bl i).2⟩⟩
  have ih := q88 c hc hn hi R h0 f (d + 1) _ _ (by omega) hM2 rfl hR
  have hrdy : (s.rdy)[d]?.getD 0 = (j : Int) := by simpa using hgd
  simp (disch := omega) [h2, lsH, A1, Bt (0 : Int), A5, A4, he, q9k, hfr, hj, hg1, hrt, Aa]
  by_cases hr0 : (G2 c j).length = 0
  ·have hr0' : G2 c j = [] := List.eq_nil_of_length_eq_zero hr0
   simp [hr0', Ba]
   rw [hK]
   rw [hr0'] at ih
   simp only [List.foldl_nil, q9k, hfr, lsH] at ih
   exact_mod_cast ih
  ·have hr0' : ¬ G2 c j = [] := fun e => hr0 (by simp [e])
   simp (disch := omega) [Ba, hr0', lsH, A1, Bt (0 : Int), A5, A4, he, q9k, hfr, hj, hg1, hrt, Aa]
   refine q39 c hc hn j hj ((d : Int) + 1) (G2 c j) _ (by omega) hin _ _ ?_ (G2 c j).length 0 s M (by omega) hI (by omega) rfl
   simp [lsH]
   rw [hK]
   simp only [q9k, hfr, lsH] at ih
   exact_mod_cast ih
theorem q3r (x : Nd) : ∀ (l : List Nd) (i : Nat), Dj (l ++ [x]) i = if Df x = 0 then Dj l i ++ [((i + l.length : Nat) : Int)] else Dj l i
 | [], i => by simp [Dj]
 | y :: l, i => by
  have := q3r x l (i + 1)
  simp only [List.cons_append, Dj, this, List.length_cons]
  rw [show i + 1 + l.length = i + (l.length + 1) by omega]
  split <;> split <;> rfl
theorem q5M : ∀ (l : List Nd) (i : Nat), (Dj l i).length ≤ l.length
 | [], _ => by simp [Dj]
 | x :: l, i => by
  have := q5M l (i + 1)
  simp only [Dj]
  split <;> simp <;> omega
def K1 (c : B1) (i : Nat) : List Int := (c.nodes.l.take i).map Df ++ List.replicate (c.nodes.l.length - i) 0
theorem q6q {c : B1} {i : Nat} (h : i ≤ c.nodes.l.length) : (K1 c i).length = c.nodes.l.length := by simp [K1]; omega
theorem q3A {c : B1} {i : Nat} (h : i < c.nodes.l.length) : (K1 c i).set i (Df c.nodes.l[i]) = K1 c (i + 1) := by
 unfold K1
 have e1 : ((c.nodes.l.take i).map Df).length = i := by simp; omega
 rw [List.set_append_right _ _ (by rw [e1]; exact Nat.le_refl i), e1, Nat.sub_self]
 rw [show c.nodes.l.length - i = (c.nodes.l.length - (i + 1)) + 1 by omega, List.replicate_succ, List.set_cons_zero]
 have e3 : (c.nodes.l.map Df).take (i + 1) = (c.nodes.l.map Df).take i ++ [Df c.nodes.l[i]] := by rw [List.take_add_one]; simp [h]
 simp [e3]
theorem q9n {c : B1} {i : Nat} (h : i < c.nodes.l.length) (h0 : Df c.nodes.l[i] = 0) : K1 c i = K1 c (i + 1) := by
 unfold K1
 rw [show c.nodes.l.length - i = (c.nodes.l.length - (i + 1)) + 1 by omega, List.replicate_succ]
 have e3 : (c.nodes.l.map Df).take (i + 1) = (c.nodes.l.map Df).take i ++ [Df c.nodes.l[i]] := by rw [List.take_add_one]; simp [h]
 simp [e3, h0]
theorem q89 {Q : AX → St → Prop} (c : B1) (hn : c.nodes.l.length ≤ 16384) (hi : ∀ x ∈ c.nodes.l, x.inn.l.length ≤ 16) (out : List Int)
  (h0 : Q (.exit 0) ⟨[(1, .t (.ip (tC c) 0)), (5, .ls 23 0 c.nodes.l.length none), (6, .ls 27 0 c.nodes.l.length none), (7, .ls 53 0 (Dj c.nodes.l 0).length none), (29, .t (A7 c.nodes)), (30, .t (tI c.nodes.l.length)), (31, .t (tI c.nodes.l.length)), (32, .t (tB false))], [(23, .sl 3 1 (Bw out)), (27, .sl 3 1 (Bw (c.nodes.l.map Df))), (53, .sl 3 1 (Bw (Dj c.nodes.l 0)))]⟩) :
  ∀ (kk i : Nat), kk + i = c.nodes.l.length →
  run Tryz.prog Γ I9 Q ⟨[(1, .t (.ip (tC c) 0)), (5, .ls 23 0 c.nodes.l.length none), (6, .ls 27 0 c.nodes.l.length none), (7, .ls 53 0 (Dj (c.nodes.l.take i) 0).length none), (29, .t (A7 c.nodes)), (30, .t (tI c.nodes.l.length)), (31, .t (tI i))], [(23, .sl 3 1 (Bw out)), (27, .sl 3 1 (Bw (K1 c i))), (53, .sl 3 1 (Bw (Dj (c.nodes.l.take i) 0)))]⟩
 | 0, i, h => by
  refine Oe fun K hK => ?_
  have h2 : ¬ i < c.nodes.l.length := by omega
  have h3 : i = c.nodes.l.length := by omega
  simp [h2]
  subst h3
  simpa [K1] using h0
 | kk + 1, i, h => by
  refine Oe fun K hK => ?_
  have h2 : i < c.nodes.l.length := by omega
  have hx := hi _ (List.getElem_mem h2)
  have ht : c.nodes.l.take (i + 1) = c.nodes.l.take i ++ [c.nodes.l[i]] := by rw [List.take_add_one]; simp [h2]
  have htl : (c.nodes.l.take i).length = i := by simp; omega
  have hrl := q5M (c.nodes.l.take i) 0
  have hll := q6q (c := c) (i := i) (by omega)
  have hll1 := q6q (c := c) (i := i + 1) (by omega)
  have hsn := q3r c.nodes.l[i] (c.nodes.l.take i) 0
  rw [← ht, htl, Nat.zero_add] at hsn
  have e := q4g (Γ := Γ) c.nodes.l[i].k
  have ih := q89 c hn hi out h0 kk (i + 1) (by omega)
  have hw : E5 1 [[tI (i : Int)]] := by intro e he; simp at he; subst he; rfl
  simp (disch := omega) [h2, Aa, E4 Nd.d, Bl, A7, Gq, Bo, -Es]
  refine A0 e rfl ?_
  have tail : ∀ (lf : List Int), lf = K1 c (i + 1) → run Tryz.prog Γ (.seq (.reg Es [.keep [1, 5, 6, 7, 8, 29, 30, 31, 49] [23, 27, 53]]) (.cond (.tmp 49) (.reg L9 [.keep [1, 5, 6, 7, 29, 30, 31] [23, 27, 53]]) .skip))
    (L8 1 (Ao (run Tryz.prog Γ (.reg La [.keep [1, 5, 6, 7, 29, 30, 31] [23, 27, 53]]) (Ao (fun s => Ao K Q .normal (ghs [.keep [1, 5, 6, 7, 29, 30, 31] [23, 27, 53]] s)) (Ao K Q))) (Ao (fun s => Ao K Q .normal (ghs [.keep [1, 5, 6, 7, 29, 30, 31] [23, 27, 53]] s)) (Ao K Q))))
    ⟨[(1, .t (.ip (tC c) 0)), (5, .ls 23 0 c.nodes.l.length none), (6, .ls 27 0 c.nodes.l.length none), (7, .ls 53 0 (Dj (c.nodes.l.take i) 0).length none), (8, .t (tI i)), (29, .t (A7 c.nodes)), (30, .t (tI c.nodes.l.length)), (31, .t (tI i))], [(23, .sl 3 1 (Bw out)), (27, .sl 3 1 (Bw lf)), (53, .sl 3 1 (Bw (Dj (c.nodes.l.take i) 0)))]⟩ := by
   rintro lf rfl
   have hget : (K1 c (i + 1))[i]?.getD 0 = Df c.nodes.l[i] := by
    rw [← q3A h2]
    simp [hll, h2]
   have hge := hget
   rw [List.getElem?_eq_getElem (by rw [hll1]; exact h2), Option.getD_some] at hge
   by_cases hz : Df c.nodes.l[i] = 0
   ·rw [if_pos hz] at hsn
    simp (disch := omega) [h2, A1, Bt (0 : Int), A5, hll1, hge, hz, hw, A4]
    refine ⟨by omega, ?_⟩
    rw [hK]
    rw [hsn] at ih
    rw [C6 (f := tI) (x := (i : Int))]
    simpa using ih
   ·rw [if_neg hz] at hsn
    simp (disch := omega) [h2, A1, Bt (0 : Int), A5, hll1, hge, hz, A4]
    rw [hK]
    rw [hsn] at ih
    exact_mod_cast ih
  by_cases hcb : Dt c.nodes.l[i].k = true
  ·have hcb' : decide (1 ≤ c.nodes.l[i].k ∧ c.nodes.l[i].k ≤ 13) = true := by simpa [Dt] using hcb
   have hlo : Df c.nodes.l[i] = c.nodes.l[i].inn.l.length := by simp [Df, hcb]
   rw [hcb']
   have := tail ((K1 c i).set i c.nodes.l[i].inn.l.length) (by rw [← hlo]; exact q3A h2)
   simp (disch := omega) [h2, A1, A5, hll, Gj, -Es]
   exact this
  ·have hcb' : decide (1 ≤ c.nodes.l[i].k ∧ c.nodes.l[i].k ≤ 13) = false := by simpa [Dt] using hcb
   have hlo : Df c.nodes.l[i] = 0 := by simp [Df, hcb]
   rw [hcb', q9n h2 hlo]
   rw [if_pos hlo] at hsn
   have hge : (K1 c (i + 1))[i]'(by rw [hll1]; exact h2) = 0 := by
    have hget : (K1 c (i + 1))[i]?.getD 0 = Df c.nodes.l[i] := by
     rw [← q3A h2]
     simp [hll, h2]
    rw [List.getElem?_eq_getElem (by rw [hll1]; exact h2), Option.getD_some] at hget
    rw [hget, hlo]
   simp (disch := omega) [h2, A1, Bt (0 : Int), A5, hll1, hge, hw, A4]
   refine ⟨by omega, ?_⟩
   rw [hK]
   rw [hsn] at ih
   rw [C6 (f := tI) (x := (i : Int))]
   simpa [A7] using ih
def Ew (c : B1) : Int := if Dp c ≠ 0 then Dp c else if (Me c).1 < c.nodes.l.length then 6 else 0
theorem qH5 (k : Int) : (Td k).2 ≤ 16 := by
 unfold Td
 split
 ·decide
 ·have : ∀ n : Nat, (q6h.getD n (0, 0)).2 ≤ 16 := by
   intro n
   by_cases h : n < 16
   ·have : n = 0 ∨ n = 1 ∨ n = 2 ∨ n = 3 ∨ n = 4 ∨ n = 5 ∨ n = 6 ∨ n = 7 ∨ n = 8 ∨ n = 9 ∨ n = 10 ∨ n = 11 ∨ n = 12 ∨ n = 13 ∨ n = 14 ∨ n = 15 := by omega
    rcases this with rfl | rfl | rfl | rfl | rfl | rfl | rfl | rfl | rfl | rfl | rfl | rfl | rfl | rfl | rfl | rfl <;> decide
   ·rw [List.getD, List.getElem?_eq_none (by simp [q6h]; omega)]; decide
  exact this _
theorem Yl {α : Type} {f : α → Int} : ∀ {l : List α}, Dc (l.map f) = 0 → ∀ x ∈ l, f x = 0
 | [], _, x, h => by cases h
 | y :: l, h, x, hx => by
  simp only [List.map_cons, Dc] at h
  split at h
  ·rename_i hy; exact absurd h hy
  ·rename_i hy
   rcases List.mem_cons.1 hx with rfl | hx
   ·simpa using hy
   ·exact Yl h x hx
theorem Hw {c : B1} (h : Dp c = 0) : c.nodes.l.length ≤ 16384 ∧ (∀ x ∈ c.nodes.l, x.inn.l.length ≤ 16) ∧ (∀ x ∈ c.nodes.l, Di c x = 0) ∧ c.mems.l.length ≤ 16 := by
 unfold Dp at h
 split at h
 ·cases h
 rename_i h1
 split at h
 ·cases h
 split at h
 ·rename_i h2; exact absurd h h2
 rename_i h2
 have h3 := Yl (by simpa using h2)
 refine ⟨by omega, fun x hx => ?_, h3, by omega⟩
 have h4 := h3 x hx
 have h5 := qH5 x.k
 unfold Di at h4
 split at h4
 ·cases h4
 split at h4
 ·cases h4
 rename_i h6
 omega
theorem q5N (hΓ : GOk Γ) (c : B1) (hc : CirOk c) (ha : ∀ s ∈ c.names.l, ∀ b ∈ s, b < 128) :
  A3 Tryz.prog Γ 91 [.agg (tC c)] (.tup [if Ew c = 0 then .sl (Bw (Me c).2.out) none none else .sl [] (some 0) (some true), tI (Ew c)]) := by
 refine A6 q2A rfl ?_
 have e1 := qBB hΓ c hc ha
 simp [Vj, tC, A7, Ac, Af, Bo]
 refine A0 e1 rfl ?_
 by_cases h1 : Dp c = 0
 case neg =>
  have : Ew c = Dp c := by unfold Ew; rw [if_pos h1]
  simp [h1, Ic, this]
 obtain ⟨hn, hi, _⟩ := Hw h1
 have e2 := q9l (Γ := Γ) c hn hi
 have hl0 : Ew c = if (Me c).1 < c.nodes.l.length then 6 else 0 := by unfold Ew; rw [if_neg (show ¬ (Dp c ≠ 0) by simp [h1])]
 simp (disch := omega) [h1, Aa, A4]
 refine ⟨by omega, ?_⟩
 have e0 : List.replicate c.nodes.l.length [T.v (Value.int .i64 0)] = Bw (List.replicate c.nodes.l.length 0) := by simp [A9]
 rw [e0]
 have hl := fun Q h0 => q89 (Γ := Γ) (Q := Q) c hn hi (List.replicate c.nodes.l.length 0) h0 c.nodes.l.length 0 (by omega)
 have el0 : K1 c 0 = List.replicate c.nodes.l.length 0 := by simp [K1]
 simp only [el0, Dj, List.take_zero, List.length_nil] at hl
 refine hl _ ?_
 simp [tC, A7, Ac, Af, Bo]
 refine A8 e2 rfl ?_
 have hI := q9m c hi
 have hm := fun Q h0 => q88 (Γ := Γ) (Q := Q) c hc hn hi (Me c) h0 (c.nodes.l.length + 1) 0 (Hj c) 0 (by omega) hI (by omega) rfl
 simp
 refine hm _ ?_
 have hend : (Me c).1 < c.nodes.l.length ↔ ((Me c).1 : Int) < c.nodes.l.length := by omega
 have hol : (Me c).2.out.length = c.nodes.l.length := by
  have : ∀ (f d : Nat) (s : LS), s.out.length = c.nodes.l.length → (Kv c f d s).2.out.length = c.nodes.l.length := by
   intro f
   induction f with
   | zero => intro d s h; exact h
   | succ f ih =>
    intro d s h
    simp only [Kv]
    split
    ·refine ih _ _ ?_
     have : ∀ (r : Lj) (n : Nat) (s : LS), s.out.length = c.nodes.l.length → (r.foldl (Du c n) s).out.length = c.nodes.l.length := by
      intro r n
      induction r with
      | nil => intro s h; exact h
      | cons p r ih2 =>
       intro s h
       rw [List.foldl_cons]
       refine ih2 _ ?_
       unfold Du
       split
       ·simp [h]
       ·exact h
     exact this _ _ _ h
    ·exact h
  exact this _ _ _ hI.lo
 by_cases h2 : (Me c).1 < c.nodes.l.length
 ·rw [if_pos h2] at hl0
  have h2' := hend.1 h2
  simp [lsH, tC, A7, Aa, h2', Ic, hl0]
 ·rw [if_neg h2] at hl0
  have h2' : ¬ ((Me c).1 : Int) < c.nodes.l.length := fun h => h2 (hend.2 h)
  have ht : (Bw (Me c).2.out).take c.nodes.l.length = Bw (Me c).2.out := by rw [← hol]; simp
  simp [lsH, tC, A7, Aa, h2, h2', Ic, hl0, ht]
structure COk (c : B1) : Prop extends CirOk c where
 asc : ∀ s ∈ c.names.l, ∀ b ∈ s, b < 128
theorem q6r (hΓ : GOk Γ) (c : B1) (hc : COk c) : A3 Tryz.prog Γ 32 [.agg (tC c)] (tI (Ew c)) := by
 refine A6 q31 rfl ?_
 have e := q5N hΓ c hc.toCirOk hc.asc
 simp [X4, tC, A7, Ac, Af, Bo]
 refine A0 e rfl ?_
 simp
 simp [X5]
def Av (c : B1) : List Int := K9 [14] c.nodes.l 0
def mems (c : B1) : List Int := K9 [15] c.nodes.l 0
theorem qBD (c : B1) (hc : COk c) (k : Int) : A3 Tryz.prog Γ 90 [.agg (tC c), .sl [[tK k]] (some 1) (some false)] (.sl (Bw (K9 [k] c.nodes.l 0)) (some (K9 [k] c.nodes.l 0).length) none) := by
 have := qFA (Γ := Γ) c hc.toCirOk [k] (some 1) (some false) (by simp)
 simpa [A9] using this
theorem Xd (c : B1) (hc : COk c) : Ab Tryz.prog Γ 31 [.agg (tC c)] (.sl (Bw (Av c)) (some (Av c).length) none) := by
 refine Ax q28 rfl ?_
 simp [Vb, tC, A7, Ac, Af, Bo]
 refine A0 (qBD c hc 14) rfl ?_
 simp [Vd, Av]
end Go.Lg
namespace Go.Lg
open Go Go.Proofs
def Sl.d : Sl Int := ⟨[], none, none⟩
def Xe (l : List Int) (a b : Nat) : List Int := (l.set a (l.getD b 0)).set b (l.getD a 0)
theorem q4k {l : List Int} {a b : Nat} : (Xe l a b).length = l.length := by simp [Xe]
theorem Bg {l : List Int} {i : Nat} (h : i < l.length) : l.getD i 0 = l[i] := by simp [List.getD_eq_getElem?_getD, h]
theorem qCu {l : List Int} {a b q : Nat} (ha : a < l.length) (hb : b < l.length) (hq : q < l.length) : (Xe l a b).getD q 0 = if q = b then l.getD a 0 else if q = a then l.getD b 0 else l.getD q 0 := by
 unfold Xe
 rw [Hk (by simp; exact hb)]
 split
 ·rfl
 ·rw [Hk ha]
theorem q6s {l : List Int} {a b : Nat} (ha : a < l.length) (hb : b < l.length) : (Xe l a b).Perm l := by
 unfold Xe
 rw [Bg ha, Bg hb]
 exact List.set_set_perm ha hb
theorem q22 (ks : List Int) : ∀ (l : List Nd) (i : Nat), (∀ j ∈ K9 ks l i, (i : Int) ≤ j) ∧ (K9 ks l i).Nodup
 | [], _ => ⟨fun j h => (by cases h), List.nodup_nil⟩
 | x :: l, i => by
  obtain ⟨h1, h2⟩ := q22 ks l (i + 1)
  simp only [K9]
  split
  ·refine ⟨fun j hj => ?_, List.nodup_cons.2 ⟨fun hm => ?_, h2⟩⟩
   ·rcases List.mem_cons.1 hj with rfl | hj
    ·omega
    ·have := h1 j hj; omega
   ·have := h1 _ hm; omega
  ·exact ⟨fun j hj => by have := h1 j hj; omega, h2⟩
theorem q3s (ks : List Int) : ∀ (l : List Nd) (i : Nat), ∀ n ∈ K9 ks l i, (i : Int) ≤ n ∧ n < i + l.length ∧ ks.contains (l.getD (n.toNat - i) Nd.d).k = true
 | [], _, n, h => by cases h
 | x :: l, i, n, h => by
  have tail : n ∈ K9 ks l (i + 1) → (i : Int) ≤ n ∧ n < i + (x :: l).length ∧ ks.contains ((x :: l).getD (n.toNat - i) Nd.d).k = true := fun h => by
   obtain ⟨h1, h2, h3⟩ := q3s ks l (i + 1) n h
   refine ⟨by omega, by simp only [List.length_cons]; omega, ?_⟩
   have e : n.toNat - i = (n.toNat - (i + 1)) + 1 := by omega
   rw [e, List.getD_cons_succ]
   exact h3
  simp only [K9] at h
  split at h
  ·rename_i hk
   rcases List.mem_cons.1 h with rfl | h
   ·refine ⟨by omega, by simp only [List.length_cons]; omega, ?_⟩
    have e : ((i : Int).toNat - i) = 0 := by omega
    rw [e, List.getD_cons_zero]
    exact hk
   ·exact tail h
  ·exact tail h
end Go.Lg
namespace Go.Lg
open Go
section
variable {P : Program} {Γ : Tables} {Q : AX → St → Prop} {s : St}
/- (probecard/probecardlaw03.C).Of (function 11) -/
abbrev q2P : IC := .gh (.seq (.seq (.reg [om 13 4, od 14 (fa 0 1), od 15 (ld 1 14), od 16 (.bin .rem (tm 15) (ku 4)), od 17 (.conv .i64 (tm 16)), od 18 (.bin .leq (tm 13) (tm 17))] [kp [1, 2, 3, 4, 18] [2, 3, 25, 144, 168]]) (.cond (tm 18) .skip
 (.exit 0))) (.seq (.block 1 (.reg [od 21 (fa 0 3), od 22 (ld 1 21), od 23 (.build [(1, (ku 0)), (1, kN), (1, (ki 0)), (1, (ki 0))]), od 24 (.bsl true 82 4 [(tm 23)]), od 25 (.app false 82 4 (tm 22) (tm 24)), od 26 (fa 0 3), on
 (.store 1 (tm 26) (tm 25))] [kp [1, 2, 3, 4] [2, 3, 25, 144, 168]])) (.reg [om 19 4, od 20 (.bin .add (tm 19) (ki 1)), om 4 20] [kp [1, 2, 3, 4] [2, 3, 25, 144, 168]]))) [kp [1, 2, 3, 4] [2, 3, 25, 144, 168]]
def Re : IC := .loop q2P
abbrev q2Q : IC := .gh (.seq (.seq (.reg [om 34 7, om 35 6, od 36 (.bin .lss (tm 34) (tm 35))] [kp [1, 2, 3, 5, 6, 7, 36] [2, 3, 25, 144, 168]]) (.cond (tm 36) .skip (.exit 2))) (.seq (.block 3 (.reg [od 39 (fa 0 3), od 40 (ld 1 39), od 41 (.bsl true
 3 1 [(ki 0)]), od 42 (.build [(1, (ku 14)), (1, (tm 41)), (1, (ki 0)), (1, (ki 0))]), od 43 (.bsl true 82 4 [(tm 42)]), oz 44 (.app false 82 4 (tm 40) (tm 43)) 25, od 45 (fa 0 3), on (.store 1 (tm 45) (tm 44))] [kp [1, 2, 3, 5, 6,
 7] [2, 3, 25, 144, 168]])) (.reg [om 37 7, od 38 (.bin .add (tm 37) (ki 1)), om 7 38] [kp [1, 2, 3, 5, 6, 7] [2, 3, 25, 144, 168]]))) [kp [1, 2, 3, 5, 6, 7] [2, 3, 25, 144, 168]]
def Rf : IC := .loop q2Q
abbrev q2R : IC := .gh (.seq (.seq (.reg [om 55 8, od 56 (fa 10 1), od 57 (ld 1 56), od 58 (le 0 57), od 59 (.bin .lss (tm 55) (tm 58)), om 60 59, oT 61 (.mv (tm 8)) 60, oT 62 (.bin .lss (tm 61) (ki 8)) 60, od 63 (.pick (tm 60) (tm 62) kF)] [kp [1,
 2, 3, 5, 6, 8, 63] [2, 3, 25, 144, 168]]) (.cond (tm 63) .skip (.exit 4))) (.seq (.block 5 (.reg [od 66 (fa 0 3), od 67 (.ldR 3 1 false (tm 66)), od 68 (.ldT 12 true (tm 1)), od 69 (fa 10 1), od 70 (.ldT 1 false (tm 69)), om 71 8,
 od 72 (ia 4 70 71), od 73 (.ldT 4 true (tm 72)), od 74 (fa 0 3), od 75 (.ldR 3 1 false (tm 74)), od 76 (.call 42 [(tm 68), (tm 73), (tm 75)]), od 77 (.bsl true 82 4 [(tm 76)]), oz 78 (.app false 82 4 (tm 67) (tm 77)) 25, od 79 (fa
 0 3), on (.stR 3 1 (tm 79) (tm 78))] [kp [1, 2, 3, 5, 6, 8] [2, 3, 25, 144, 168]])) (.reg [om 64 8, od 65 (.bin .add (tm 64) (ki 1)), om 8 65] [kp [1, 2, 3, 5, 6, 8] [2, 3, 25, 144, 168]]))) [kp [1, 2, 3, 5, 6, 8] [2, 3, 25, 144,
 168]]
def Rh : IC := .loop q2R
abbrev q2S : IC := .gh (.seq (.seq (.reg [om 83 10, om 84 6, od 85 (.bin .lss (tm 83) (tm 84))] [kp [1, 2, 3, 5, 6, 9, 10, 85] [2, 3, 25, 144, 168]]) (.cond (tm 85) .skip (.exit 6))) (.seq (.block 7 (.reg [od 88 (fa 0 3), od 89 (.ldR 3 1 false (tm
 88)), om 90 5, om 91 10, od 92 (.bin .add (tm 90) (tm 91)), om 93 10, od 94 (fa 2 1), od 95 (.iadrA 2 1 (tm 94) (tm 93)), od 96 (.ldT 1 false (tm 95)), od 97 (.conv .i64 (tm 96)), om 98 9, od 99 (.bin .rem (tm 97) (tm 98)), od 100
 (.bsl true 3 1 [(tm 99)]), od 101 (ia 4 89 92), od 102 (fa 1 101), on (.store 1 (tm 102) (tm 100))] [kp [1, 2, 3, 5, 6, 9, 10] [2, 3, 25, 144, 168]])) (.reg [om 86 10, od 87 (.bin .add (tm 86) (ki 1)), om 10 87] [kp [1, 2, 3, 5, 6,
 9, 10] [2, 3, 25, 144, 168]]))) [kp [1, 2, 3, 5, 6, 9, 10] [2, 3, 25, 144, 168]]
def Ri : IC := .loop q2S
abbrev q2T : IC := .gh (.seq (.seq (.reg [om 134 11, om 135 9, od 136 (.bin .lss (tm 134) (tm 135))] [kp [1, 2, 3, 9, 11, 136] [2, 3, 25, 144, 168]]) (.cond (tm 136) .skip (.exit 8))) (.seq (.block 9 (.reg [od 139 (fa 1 3), od 140 (.ldR 3 1 false (tm
 139)), om 141 11, od 142 (.call 43 [(tm 141)]), od 143 (.bsl true 9 1 [(tm 142)]), od 144 (.app false 9 1 (tm 140) (tm 143)), od 145 (fa 1 3), on (.stR 3 1 (tm 145) (tm 144))] [kp [1, 2, 3, 9, 11] [2, 3, 25, 144, 168]])) (.reg [om
 137 11, od 138 (.bin .add (tm 137) (ki 1)), om 11 138] [kp [1, 2, 3, 9, 11] [2, 3, 25, 144, 168]]))) [kp [1, 2, 3, 9, 11] [2, 3, 25, 144, 168]]
def Rj : IC := .loop q2T
abbrev q11 : IC := .gh (.seq (.seq (.reg [om 146 12, od 147 (fa 11 1), od 148 (ld 1 147), od 149 (le 0 148), od 150 (.bin .lss (tm 146) (tm 149)), om 151 150, oT 152 (.mv (tm 12)) 151, oT 153 (.bin .lss (tm 152) (ki 3)) 151, od 154 (.pick (tm 151)
 (tm 153) kF)] [kp [1, 2, 3, 9, 12, 154] [2, 3, 25, 144, 168]]) (.cond (tm 154) .skip (.exit 10))) (.seq (.block 11 (.reg [od 157 (fa 3 3), od 158 (.ldR 3 1 false (tm 157)), od 159 (fa 11 1), od 160 (.ldT 1 false (tm 159)), om 161
 12, od 162 (ia 1 160 161), od 163 (.ldT 1 false (tm 162)), od 164 (.conv .i64 (tm 163)), om 165 9, od 166 (.bin .rem (tm 164) (tm 165)), od 167 (.bsl true 3 1 [(tm 166)]), od 168 (.app false 3 1 (tm 158) (tm 167)), od 169 (fa 3 3),
 on (.stR 3 1 (tm 169) (tm 168))] [kp [1, 2, 3, 9, 12] [2, 3, 25, 144, 168]])) (.reg [om 155 12, od 156 (.bin .add (tm 155) (ki 1)), om 12 156] [kp [1, 2, 3, 9, 12] [2, 3, 25, 144, 168]]))) [kp [1, 2, 3, 9, 12] [2, 3, 25, 144, 168]]
def Oq : IC := .loop q11
abbrev q2U : IC := (.seq (.reg [od 1 (.box true (tm 0)), od 2 (.alloc false [(.slice none 0 0), (.slice none 0 0), (.slice none 0 0), (.slice none 0 0)])] [kp [1, 2] [2, 25, 144, 168]]) (.seq (.reg [od 3 (.alloc false [(.slice none 0 0), (.slice none
 0 0), (.slice none 0 0), (.slice none 0 0)])] [.nlb 3 0 25 82 4, .nlb 3 1 144 9 1, .nlb 3 3 168 3 1, kp [1, 2, 3] [2, 3, 25, 144, 168]]) (.seq (.seq (.reg [od 4 (.mv (ki 0))] [kp [1, 2, 3, 4] [2, 3, 25, 144, 168]]) (.block 0
 Re)) (.seq (.reg [od 27 (fa 0 3), od 28 (ld 1 27), od 29 (le 0 28), om 5 29] [kp [1, 2, 3, 5] [2, 3, 25, 144, 168]]) (.seq (.reg [od 30 (fa 1 1), od 31 (ld 1 30), od 32 (.bin .rem (tm 31) (ku 3)), od 33 (.conv .i64 (tm
 32)), om 6 33] [kp [1, 2, 3, 5, 6] [2, 3, 25, 144, 168]]) (.seq (.seq (.reg [od 7 (.mv (ki 0))] [kp [1, 2, 3, 5, 6, 7] [2, 3, 25, 144, 168]]) (.block 2 Rf)) (.seq (.seq (.reg [od 46 (fa 5 1), od 47 (ld 1 46)] [kp [1, 2,
 3, 5, 6, 47] [2, 3, 25, 144, 168]]) (.cond (tm 47) (.reg [od 48 (fa 0 3), od 49 (ld 1 48), od 50 (.build [(1, (ku 15)), (1, kN), (1, (ki 0)), (1, (ki 0))]), od 51 (.build [(1, (ku 15)), (1, kN), (1, (ki 0)), (1, (ki 1))]), od 52
 (.bsl true 82 4 [(tm 50), (tm 51)]), oz 53 (.app false 82 4 (tm 49) (tm 52)) 25, od 54 (fa 0 3), on (.store 1 (tm 54) (tm 53))] [kp [1, 2, 3, 5, 6] [2, 3, 25, 144, 168]]) .skip)) (.seq (.seq (.reg [od 8 (.mv (ki 0))] [kp [1, 2, 3,
 5, 6, 8] [2, 3, 25, 144, 168]]) (.block 4 Rh)) (.seq (.reg [od 80 (fa 0 3), od 81 (ld 1 80), od 82 (le 0 81), om 9 82] [kp [1, 2, 3, 5, 6, 9] [2, 3, 25, 144, 168]]) (.seq (.seq (.reg [od 10 (.mv (ki 0))] [kp [1, 2, 3, 5,
 6, 9, 10] [2, 3, 25, 144, 168]]) (.block 6 Ri)) (.seq (.seq (.reg [od 103 (fa 5 1), od 104 (ld 1 103)] [kp [1, 2, 3, 9, 104] [2, 3, 25, 144, 168]]) (.cond (tm 104) (.reg [od 105 (fa 6 1), od 106 (.iadrA 4 1 (tm 105) (ki
 0)), od 107 (.ldT 1 false (tm 106)), od 108 (.conv .i64 (tm 107)), om 109 9, od 110 (.bin .rem (tm 108) (tm 109)), od 111 (.bsl true 3 1 [(tm 110)]), od 112 (fa 6 1), od 113 (.iadrA 4 1 (tm 112) (ki 1)), od 114 (.ldT 1 false (tm
 113)), od 115 (.conv .i64 (tm 114)), om 116 9, od 117 (.bin .rem (tm 115) (tm 116)), od 118 (fa 6 1), od 119 (.iadrA 4 1 (tm 118) (ki 2)), od 120 (.ldT 1 false (tm 119)), od 121 (.conv .i64 (tm 120)), om 122 9, od 123 (.bin .rem
 (tm 121) (tm 122)), od 124 (.bsl true 3 1 [(tm 117), (tm 123)]), od 125 (fa 6 1), od 126 (.iadrA 4 1 (tm 125) (ki 3)), od 127 (.ldT 1 false (tm 126)), od 128 (.conv .i64 (tm 127)), om 129 9, od 130 (.bin .rem (tm 128) (tm 129)), od
 131 (.build [(1, (tm 111)), (1, (tm 124)), (1, (tm 130))]), od 132 (.bsl true 108 3 [(tm 131)]), od 133 (fa 2 3), on (.stR 3 1 (tm 133) (tm 132))] [kp [1, 2, 3, 9] [2, 3, 25, 144, 168]]) .skip)) (.seq (.seq (.reg [od 11 (.mv (ki
 0))] [kp [1, 2, 3, 9, 11] [2, 3, 25, 144, 168]]) (.block 8 Rj)) (.seq (.seq (.reg [od 12 (.mv (ki 0))] [kp [1, 2, 3, 9, 12] [2, 3, 25, 144, 168]]) (.block 10 Oq)) (.seq (.reg [od 170 (fa 3 3), od 171 (ld 1
 170), om 172 9, od 173 (.bin .sub (tm 172) (ki 1)), od 174 (.bsl true 3 1 [(tm 173)]), oz 175 (.app false 3 1 (tm 171) (tm 174)) 168, od 176 (fa 3 3), on (.store 1 (tm 176) (tm 175))] [kp [2, 3] [2, 3, 25, 144, 168]]) (.seq (.reg
 [od 177 (lG 4 3), on (.store 4 (tm 2) (tm 177))] [kp [2] [2, 25, 144, 168]]) .ret)))))))))))))))
theorem Xf (h : ∀ K : St → Prop, K = run P Γ Re Q → run P Γ q2P (Ao K Q) s) : run P Γ Re Q s := Ad h
theorem Xg (h : ∀ K : St → Prop, K = run P Γ Rf Q → run P Γ q2Q (Ao K Q) s) : run P Γ Rf Q s := Ad h
theorem Xh (h : ∀ K : St → Prop, K = run P Γ Rh Q → run P Γ q2R (Ao K Q) s) : run P Γ Rh Q s := Ad h
theorem Xi (h : ∀ K : St → Prop, K = run P Γ Ri Q → run P Γ q2S (Ao K Q) s) : run P Γ Ri Q s := Ad h
theorem Xj (h : ∀ K : St → Prop, K = run P Γ Rj Q → run P Γ q2T (Ao K Q) s) : run P Γ Rj Q s := Ad h
theorem Vx (h : ∀ K : St → Prop, K = run P Γ Oq Q → run P Γ q11 (Ao K Q) s) : run P Γ Oq Q s := Ad h
def Gx : List RV := [.cell 2 4 true]
/- (probecard/probecardlaw03.C).gate (function 42) -/
abbrev q0M : IC := .gh (.seq (.seq (.reg [om 37 12, om 38 7, od 39 (.bin .lss (tm 37) (tm 38))] [kp [2, 3, 4, 6, 7, 8, 9, 10, 11, 12, 39] [6, 51, 70, 79, 86, 94, 105, 126, 142, 156]]) (.cond (tm 39) .skip (.exit 0))) (.seq (.block 1 (.seq (.reg [om
 42 2, om 43 12, od 44 (ia 4 42 43), od 45 (fa 0 44), od 46 (ld 1 45), od 47 (.bin .eql (tm 46) (ku 12))] [kp [2, 3, 4, 6, 7, 8, 9, 10, 11, 12, 47] [6, 51, 70, 79, 86, 94, 105, 126, 142, 156]]) (.cond (tm 47) (.reg [om 48 11, om 49
 12, od 50 (.bsl true 3 1 [(tm 49)]), od 51 (.app false 3 1 (tm 48) (tm 50)), om 11 51] [kp [2, 3, 4, 6, 7, 8, 9, 10, 11, 12] [6, 51, 70, 79, 86, 94, 105, 126, 142, 156]]) .skip))) (.reg [om 40 12, od 41 (.bin .add (tm 40) (ki 1)),
 om 12 41] [kp [2, 3, 4, 6, 7, 8, 9, 10, 11, 12] [6, 51, 70, 79, 86, 94, 105, 126, 142, 156]]))) [kp [2, 3, 4, 6, 7, 8, 9, 10, 11, 12] [6, 51, 70, 79, 86, 94, 105, 126, 142, 156]]
def M5 : IC := .loop q0M
abbrev q0N : IC := (.seq (.reg [od 3 (.box true (tm 0)), od 4 (.box true (tm 1)), od 6 (.alloc false [(.int .u8 0), (.slice none 0 0), (.int .i64 0), (.int .i64 0)])] [kp [2, 3, 4, 6] [6, 70, 79, 86, 94, 105, 126, 142, 156]]) (.seq (.reg [om 17 2, od
 18 (le 0 17), om 7 18] [kp [2, 3, 4, 6, 7] [6, 70, 79, 86, 94, 105, 126, 142, 156]]) (.seq (.reg [od 19 (fa 1 4), od 20 (.iadrA 3 1 (tm 19) (ki 0)), od 21 (ld 1 20), od 22 (.conv .i64 (tm 21)), om 23 7, od 24 (.bin .rem (tm 22) (tm
 23)), od 25 (fa 1 4), od 26 (.iadrA 3 1 (tm 25) (ki 1)), od 27 (ld 1 26), od 28 (.conv .i64 (tm 27)), om 29 7, od 30 (.bin .rem (tm 28) (tm 29)), od 31 (fa 1 4), od 32 (.iadrA 3 1 (tm 31) (ki 2)), od 33 (ld 1 32), od 34 (.conv .i64
 (tm 33)), om 35 7, od 36 (.bin .rem (tm 34) (tm 35)), om 8 24, om 9 30, om 10 36] [kp [2, 3, 4, 6, 7, 8, 9, 10] [6, 70, 79, 86, 94, 105, 126, 142, 156]]) (.seq (.reg [od 11 (.mv kN)] [.nl 11 51 3 1, kp [2, 3, 4, 6, 7, 8, 9, 10, 11]
 [6, 51, 70, 79, 86, 94, 105, 126, 142, 156]]) (.seq (.seq (.reg [od 12 (.mv (ki 0))] [kp [2, 3, 4, 6, 7, 8, 9, 10, 11, 12] [6, 51, 70, 79, 86, 94, 105, 126, 142, 156]]) (.block 0 M5)) (.seq (.reg [od 52 (fa 0 4), od 53
 (ld 1 52), od 54 (.bin .rem (tm 53) (ku 9)), od 55 (.conv .i64 (tm 54)), om 13 55] [kp [3, 4, 6, 8, 9, 10, 11, 13] [6, 51, 70, 79, 86, 94, 105, 126, 142, 156]]) (.seq (.seq (.reg [od 56 (fa 4 3), od 57 (ld 1 56)] [kp [4, 6, 8, 9,
 10, 11, 13, 57] [6, 51, 70, 79, 86, 94, 105, 126, 142, 156]]) (.cond (tm 57) (.reg [od 58 (fa 0 4), od 59 (ld 1 58), od 60 (.bin .rem (tm 59) (ku 13)), od 61 (.conv .i64 (tm 60)), om 13 61] [kp [4, 6, 8, 9, 10, 11, 13] [6, 51, 70,
 79, 86, 94, 105, 126, 142, 156]]) .skip)) (.seq (.block 2 (.seq (.reg [om 63 13, od 64 (.bin .lss (tm 63) (ki 6)), om 62 64] [kp [4, 6, 8, 9, 10, 11, 13, 62] [6, 51, 70, 79, 86, 94, 105, 126, 142, 156]]) (.cond (tm 62) (.seq (.reg
 [om 65 13, od 66 (.conv .u8 (tm 65)), od 67 (.bin .add (ku 5) (tm 66)), om 68 8, om 69 9, od 70 (.bsl false 3 1 [(tm 68), (tm 69)]), od 71 (.build [(1, (tm 67)), (1, (tm 70)), (1, (ki 0)), (1, (ki 0))]), od 14 (.alloc false [(.int
 .u8 0), (.slice none 0 0), (.int .i64 0), (.int .i64 0)]), on (.store 4 (tm 14) (tm 71))] [kp [4, 6, 10, 14] [6, 14, 70, 79, 86, 94, 105, 126, 142, 156]]) (.seq (.seq (.reg [od 72 (fa 0 4), od 73 (ld 1 72), od 74 (.bin .geq (tm 73)
 (ku 128))] [kp [6, 10, 14, 74] [6, 14, 70, 79, 86, 94, 105, 126, 142, 156]]) (.cond (tm 74) (.reg [od 75 (fa 1 14), od 76 (ld 1 75), om 77 10, od 78 (.bsl true 3 1 [(tm 77)]), od 79 (.app false 3 1 (tm 76) (tm 78)), od 80 (fa 1
 14), on (.store 1 (tm 80) (tm 79))] [kp [6, 14] [6, 14, 70, 79, 86, 94, 105, 126, 142, 156]]) .skip)) (.seq (.reg [od 81 (lG 4 14), on (.store 4 (tm 6) (tm 81))] [kp [6] [6, 70, 79, 86, 94, 105, 126, 142, 156]]) .ret))) (.seq (.reg
 [om 83 13, od 84 (.bin .eql (tm 83) (ki 6)), om 82 84] [kp [4, 6, 8, 9, 10, 11, 13, 82] [6, 51, 70, 79, 86, 94, 105, 126, 142, 156]]) (.cond (tm 82) (.seq (.reg [om 85 8, od 86 (.bsl false 3 1 [(tm 85)]), od 87 (.build [(1, (ku
 4)), (1, (tm 86)), (1, (ki 0)), (1, (ki 0))]), on (.store 4 (tm 6) (tm 87))] [kp [6] [6, 70, 79, 86, 94, 105, 126, 142, 156]]) .ret) (.seq (.reg [om 89 13, od 90 (.bin .eql (tm 89) (ki 7)), om 88 90] [kp [4, 6, 8, 9, 10, 11, 13,
 88] [6, 51, 70, 79, 86, 94, 105, 126, 142, 156]]) (.cond (tm 88) (.seq (.reg [om 91 8, om 92 9, om 93 10, od 94 (.bsl false 3 1 [(tm 91), (tm 92), (tm 93)]), od 95 (.build [(1, (ku 11)), (1, (tm 94)), (1, (ki 0)), (1, (ki 0))]), on
 (.store 4 (tm 6) (tm 95))] [kp [6] [6, 70, 79, 86, 94, 105, 126, 142, 156]]) .ret) (.seq (.reg [om 97 13, od 98 (.bin .eql (tm 97) (ki 9)), om 99 98, oF 100 (.mv (tm 13)) 99, oF 101 (.bin .eql (tm 100) (ki 10)) 99, od 102 (.pick
 (tm 99) kT (tm 101)), om 96 102] [kp [4, 6, 8, 9, 11, 13, 96] [6, 51, 70, 79, 86, 94, 105, 126, 142, 156]]) (.cond (tm 96) (.seq (.reg [om 103 8, om 104 9, od 105 (.bsl false 3 1 [(tm 103), (tm 104)]), od 106 (.build [(1, (ku 12)),
 (1, (tm 105)), (1, (ki 0)), (1, (ki 0))]), on (.store 4 (tm 6) (tm 106))] [kp [6] [6, 70, 79, 86, 94, 105, 126, 142, 156]]) .ret) (.seq (.reg [om 108 13, od 109 (.bin .gtr (tm 108) (ki 10)), om 110 109, oT 111 (.mv (tm 11)) 110, oT
 112 (le 0 111) 110, oT 113 (.bin .gtr (tm 112) (ki 0)) 110, od 114 (.pick (tm 110) (tm 113) kF), om 107 114] [kp [4, 6, 8, 11, 107] [6, 51, 70, 79, 86, 94, 105, 126, 142, 156]]) (.cond (tm 107) (.seq (.reg [od 115 (fa 1 4), od 116
 (.iadrA 3 1 (tm 115) (ki 0)), od 117 (ld 1 116), od 118 (.conv .i64 (tm 117)), om 119 11, od 120 (le 0 119), od 121 (.bin .rem (tm 118) (tm 120)), om 15 121] [kp [6, 11, 15] [6, 51, 70, 79, 86, 94, 105, 126, 142, 156]]) (.seq (.reg
 [om 122 11, om 123 15, od 124 (ia 1 122 123), od 125 (ld 1 124), od 126 (.bsl false 3 1 [(tm 125)]), od 127 (.build [(1, (ku 13)), (1, (tm 126)), (1, (ki 0)), (1, (ki 0))]), od 16 (.alloc false [(.int .u8 0), (.slice none 0 0),
 (.int .i64 0), (.int .i64 0)]), on (.store 4 (tm 16) (tm 127))] [kp [6, 11, 15, 16] [6, 16, 51, 70, 79, 86, 94, 105, 126, 142, 156]]) (.seq (.seq (.reg [om 128 11, od 129 (le 0 128), od 130 (.bin .gtr (tm 129) (ki 1))] [kp [6, 11,
 15, 16, 130] [6, 16, 51, 70, 79, 86, 94, 105, 126, 142, 156]]) (.cond (tm 130) (.reg [od 131 (fa 1 16), od 132 (.ldR 16 1 false (tm 131)), om 133 11, om 134 15, od 135 (.bin .add (tm 134) (ki 1)), om 136 11, od 137 (le 0 136), od
 138 (.bin .rem (tm 135) (tm 137)), od 139 (ia 1 133 138), od 140 (.ldR 51 1 false (tm 139)), od 141 (.bsl true 3 1 [(tm 140)]), od 142 (.app false 3 1 (tm 132) (tm 141)), od 143 (fa 1 16), on (.stR 16 1 (tm 143) (tm 142))] [kp [6,
 16] [6, 16, 70, 79, 86, 94, 105, 126, 142, 156]]) .skip)) (.seq (.reg [od 144 (lG 4 16), on (.store 4 (tm 6) (tm 144))] [kp [6] [6, 70, 79, 86, 94, 105, 126, 142, 156]]) .ret)))) (.seq (.reg [od 146 (fa 0 4), od 147 (ld 1 146), od
 148 (.bin .gtr (tm 147) (ku 240)), om 145 148] [kp [4, 6, 8, 145] [6, 70, 79, 86, 94, 105, 126, 142, 156]]) (.cond (tm 145) (.seq (.reg [od 149 (fa 1 4), od 150 (.iadrA 3 1 (tm 149) (ki 0)), od 151 (ld 1 150), od 152 (.bin .rem (tm
 151) (ku 2)), od 153 (.bin .add (ku 1) (tm 152)), od 154 (.build [(1, (tm 153)), (1, kN), (1, (ki 0)), (1, (ki 0))]), on (.store 4 (tm 6) (tm 154))] [kp [6] [6, 70, 79, 86, 94, 105, 126, 142, 156]]) .ret) .skip))))))))))))) (.seq
 (.reg [om 155 8, od 156 (.bsl false 3 1 [(tm 155)]), od 157 (.build [(1, (ku 3)), (1, (tm 156)), (1, (ki 0)), (1, (ki 0))]), on (.store 4 (tm 6) (tm 157))] [kp [6] [6, 70, 79, 86, 94, 105, 126, 142, 156]]) .ret)))))))))
theorem Tu (h : ∀ K : St → Prop, K = run P Γ M5 Q → run P Γ q0M (Ao K Q) s) : run P Γ M5 Q s := Ad h
def As : List RV := [.cell 6 4 true]
/- probecard/probecardlaw03.name (function 43) -/
abbrev q2V : IC := (.seq (.reg [od 2 (.mv (.const (sV [])))] [kp [0] []]) (.seq (.reg [om 3 0, od 4 (.bin .quo (tm 3) (ki 10)), od 5 (.bin .add (ki 48) (tm 4)), od 6 (.conv .u8 (tm 5)), om 7 0, od 8 (.bin .rem (tm 7) (ki 10)), od 9 (.bin .add (ki 48)
 (tm 8)), od 10 (.conv .u8 (tm 9)), od 11 (.bsl true 5 1 [(ku 110), (tm 6), (tm 10)]), od 12 (.bytesStr (tm 11)), om 2 12] [kp [2] []]) .ret))
def q2W : List RV := [.tmp 2]
end
end Go.Lg
namespace Go.Lg
open Go Go.Proofs
theorem q6t : Aq Tryz.prog 11 q2U 178 1 Gx = true := by kernel_rfl
theorem q4l : Aq Tryz.prog 42 q0N 158 3 As = true := by kernel_rfl
theorem q6u : Aq Tryz.prog 43 q2V 13 1 q2W = true := by kernel_rfl
end Go.Lg
namespace Go.Lg
open Go Go.Proofs
variable {Γ : Tables}
structure Gd where
 k : Int
 a : Int
 b : Int
 d : Int
def tGd (g : Gd) : List T := [tK g.k, tK g.a, tK g.b, tK g.d]
structure CD where
 i : Int
 f : Int
 d0 : Int
 d1 : Int
 bus : Bool
 mem : Bool
 p0 : Int
 p1 : Int
 p2 : Int
 p3 : Int
 gates : Sl Gd
 outs : Sl Int
def M6 (x : CD) : List T := [tK x.i, tK x.f, tK x.d0, tK x.d1, tB x.bus, tB x.mem, tK x.p0, tK x.p1, tK x.p2, tK x.p3, .sl (B8 tGd x.gates.l) x.gates.cap x.gates.nl, .sl (A9 tK x.outs.l) x.outs.cap x.outs.nl]
def Byt (n : Int) : Prop := 0 ≤ n ∧ n ≤ 255
def q8l (g : Gd) : Prop := Byt g.k ∧ Byt g.a ∧ Byt g.b ∧ Byt g.d
def Z4 (i : Nat) : List UInt8 := [110, UInt8.ofNat (48 + i / 10), UInt8.ofNat (48 + i % 10)]
theorem qCv (i : Nat) (hi : i < 100) : A3 Tryz.prog Γ 43 [tI i] (tS (Z4 i)) := by
 refine A6 q6u rfl ?_
 have h1 : (i : Int).tdiv 10 = ((i / 10 : Nat) : Int) := by rw [Int.tdiv_eq_ediv_of_nonneg (by omega)]; omega
 have h2 : (i : Int).tmod 10 = ((i % 10 : Nat) : Int) := by rw [Int.tmod_eq_emod_of_nonneg (by omega)]; omega
 have h3 : i / 10 < 10 := by omega
 have h4 : i % 10 < 10 := by omega
 generalize hq : i / 10 = q at *
 generalize hr : i % 10 = r at *
 have e1 : (48 + (q : Int)).toNat = 48 + q := by omega
 have e2 : (48 + (r : Int)).toNat = 48 + r := by omega
 simp (disch := omega) [q2V, sV, h1, h2, A4, B7, Ly]
 simp [q2W, Z4, hq, hr, tS, sV, e1, e2]
def q3t (nodes : List Nd) : List Int := K9 [12] nodes 0
def q9o (bus : Bool) (g : Gd) (a b d : Int) (t : List Int) : Nd :=
 let kind := if bus then g.k.tmod 13 else g.k.tmod 9
 if kind < 6 then ⟨5 + kind, if 128 ≤ g.k then ⟨[a, b, d], none, none⟩ else ⟨[a, b], none, none⟩, 0, 0⟩
 else if kind = 6 then ⟨4, ⟨[a], none, none⟩, 0, 0⟩
 else if kind = 7 then ⟨11, ⟨[a, b, d], none, none⟩, 0, 0⟩
 else if kind = 9 ∨ kind = 10 then ⟨12, ⟨[a, b], none, none⟩, 0, 0⟩
 else if 10 < kind ∧ 0 < t.length then
  let k := g.a.tmod t.length
  ⟨13, if 1 < t.length then ⟨[t.getD k.toNat 0, t.getD ((k + 1).tmod t.length).toNat 0], none, none⟩ else ⟨[t.getD k.toNat 0], none, none⟩, 0, 0⟩
 else if 240 < g.k then ⟨1 + g.a.tmod 2, ⟨[], some 0, some true⟩, 0, 0⟩
 else ⟨3, ⟨[a], none, none⟩, 0, 0⟩
def q3u (bus : Bool) (g : Gd) (nodes : List Nd) : Nd := q9o bus g (g.a.tmod nodes.length) (g.b.tmod nodes.length) (g.d.tmod nodes.length) (q3t nodes)
theorem q8A {Q : AX → St → Prop} (nodes : List Nd) (cap : Option Nat) (nl : Option Bool) (hl : nodes.length ≤ 100) (a3 a4 a8 a9 a10 : T) (r6 : List T)
  (h0 : Q (.exit 0) ⟨[(2, .t (.sl (B8 Gq nodes) cap nl)), (3, .t a3), (4, .t a4), (6, .lp 6 0 0), (7, .t (tI nodes.length)), (8, .t a8), (9, .t a9), (10, .t a10), (11, .ls 51 0 (q3t nodes).length none), (12, .t (tI nodes.length)), (39, .t (tB false))], [(6, .bx (r6.map AV.t)), (51, .sl 3 1 (Bw (q3t nodes)))]⟩) : ∀ (k i : Nat), k + i = nodes.length →
  run Tryz.prog Γ M5 Q ⟨[(2, .t (.sl (B8 Gq nodes) cap nl)), (3, .t a3), (4, .t a4), (6, .lp 6 0 0), (7, .t (tI nodes.length)), (8, .t a8), (9, .t a9), (10, .t a10), (11, .ls 51 0 (q3t (nodes.take i)).length none), (12, .t (tI i))], [(6, .bx (r6.map AV.t)), (51, .sl 3 1 (Bw (q3t (nodes.take i))))]⟩
 | 0, i, h => by
  refine Tu fun K hK => ?_
  have h2 : ¬ i < nodes.length := by omega
  have h3 : i = nodes.length := by omega
  simp [h2]
  subst h3
  simpa using h0
 | k + 1, i, h => by
  refine Tu fun K hK => ?_
  have h2 : i < nodes.length := by omega
  have ht : nodes.take (i + 1) = nodes.take i ++ [nodes[i]] := by rw [List.take_add_one]; simp [h2]
  have hlen := Up [12] (nodes.take i) 0
  have htl : (nodes.take i).length = i := by simp; omega
  have hal : q3t (nodes.take (i + 1)) = if nodes[i].k = 12 then q3t (nodes.take i) ++ [(i : Int)] else q3t (nodes.take i) := by
   simp only [q3t]
   rw [ht, q3n, htl]
   simp only [K9, Nat.zero_add, List.contains_cons, List.contains_nil, Bool.or_false, qF8, decide_eq_true_eq]
   split <;> simp
  have ih := q8A nodes cap nl hl a3 a4 a8 a9 a10 r6 h0 k (i + 1) (by omega)
  rw [hal] at ih
  simp only [q3t] at ih ⊢
  by_cases h5 : nodes[i].k = 12
  ·rw [if_pos h5] at ih
   have hw : E5 1 [[tI (i : Int)]] := by intro e he; simp at he; subst he; rfl
   simp (disch := omega) [h2, Aa, E4 Nd.d, Bl, Gq, Bo, h5, A4, A1, A5, hw]
   rw [hK]
   simp at ih
   rw [C6 (f := tI) (x := (i : Int))]
   exact ⟨by omega, ih⟩
  ·rw [if_neg h5] at ih
   simp (disch := omega) [h2, Aa, E4 Nd.d, Bl, Gq, Bo, h5, A4]
   rw [hK]
   simpa using ih
theorem Cb {a : Int} {n : Nat} (h0 : 0 ≤ a) (h1 : 0 < n) : 0 ≤ a.tmod n ∧ a.tmod n < n := by
 rw [Int.tmod_eq_emod_of_nonneg h0]
 exact ⟨Int.emod_nonneg _ (by omega), Int.emod_lt_of_pos _ (by omega)⟩
theorem By {ty s : Nat} {es : List (List T)} : Rb (.sl ty s es) = ∀ e ∈ es, ∀ t ∈ e, Ap t = true := rfl
set_option maxHeartbeats 4000000 in
theorem qCw (x : CD) (g : Gd) (hg : q8l g) (nodes : List Nd) (cap : Option Nat) (nl : Option Bool) (h0 : 1 ≤ nodes.length) (h1 : nodes.length ≤ 100) :
  A3 Tryz.prog Γ 42 [.agg (M6 x), .agg (tGd g), .sl (B8 Gq nodes) cap nl] (.agg (Gq (q3u x.bus g nodes))) := by
 refine A6 q4l rfl ?_
 obtain ⟨⟨hk0, hk1⟩, ⟨ha0, ha1⟩, ⟨hb0, hb1⟩, ⟨hd0, hd1⟩⟩ := hg
 have hn0 : ¬ (nodes.length : Int) = 0 := by omega
 have hn1 : (nodes.length : Int) ≠ 0 := by omega
 have hne : ¬ nodes = [] := fun e => by subst e; simp at h0
 have hlp := fun Q a3 a4 a8 a9 a10 r6 h0 => q8A (Γ := Γ) (Q := Q) nodes cap nl h1 a3 a4 a8 a9 a10 r6 h0 nodes.length 0 (by omega)
 have ht := Up [12] nodes 0
 simp only [q3t, List.take_zero, K9, List.length_nil, Gk] at hlp
 simp (disch := omega) [q0N, M6, tGd, Aa, A4, hn0]
 refine ⟨hne, hlp _ _ _ _ _ _ [_, _, _, _] ?_⟩
 clear hlp
 unfold q3u
 simp only [q3t]
 generalize K9 [12] nodes 0 = t at *
 have m13 : 0 ≤ g.k.tmod 13 ∧ g.k.tmod 13 < 13 := Cb (n := 13) hk0 (by omega)
 have m9 : 0 ≤ g.k.tmod 9 ∧ g.k.tmod 9 < 9 := Cb (n := 9) hk0 (by omega)
 have ma : 0 ≤ g.a.tmod 2 ∧ g.a.tmod 2 < 2 := Cb (n := 2) ha0 (by omega)
 generalize g.a.tmod nodes.length = a
 generalize g.b.tmod nodes.length = b
 generalize g.d.tmod nodes.length = d
 unfold q9o
 cases x.bus
 ·generalize hkk : g.k.tmod 9 = kk at *
  by_cases k1 : kk < 6
  ·by_cases k2 : 128 ≤ g.k
   ·simp (disch := omega) [hkk, k1, k2, A4, B7, Ba, As, Gq, Bo, A9, E5, Ae, By]
   ·simp (disch := omega) [hkk, k1, k2, A4, B7, Ba, As, Gq, Bo, A9, E5, Ae, By]
  by_cases k3 : kk = 6
  ·simp (disch := omega) [hkk, k1, k3, A4, B7, Ba, As, Gq, Bo, A9, E5, Ae, By]
  by_cases k4 : kk = 7
  ·simp (disch := omega) [hkk, k1, k4, A4, B7, Ba, As, Gq, Bo, A9, E5, Ae, By]
  have k5 : kk = 8 := by omega
  by_cases k6 : 240 < g.k
  ·simp (disch := omega) [hkk, k5, k6, A4, B7, Ba, As, Gq, Bo, A9, E5, Ae, By]
  ·simp (disch := omega) [hkk, k5, k6, A4, B7, Ba, As, Gq, Bo, A9, E5, Ae, By]
 ·generalize hkk : g.k.tmod 13 = kk at *
  by_cases k1 : kk < 6
  ·by_cases k2 : 128 ≤ g.k
   ·simp (disch := omega) [hkk, k1, k2, A4, B7, Ba, As, Gq, Bo, A9, E5, Ae, By]
   ·simp (disch := omega) [hkk, k1, k2, A4, B7, Ba, As, Gq, Bo, A9, E5, Ae, By]
  by_cases k3 : kk = 6
  ·simp (disch := omega) [hkk, k1, k3, A4, B7, Ba, As, Gq, Bo, A9, E5, Ae, By]
  by_cases k4 : kk = 7
  ·simp (disch := omega) [hkk, k1, k4, A4, B7, Ba, As, Gq, Bo, A9, E5, Ae, By]
  by_cases k8 : kk = 9
  ·simp (disch := omega) [hkk, k8, A4, B7, Ba, As, Gq, Bo, A9, E5, Ae, By]
  by_cases k9 : kk = 10
  ·simp (disch := omega) [hkk, k9, A4, B7, Ba, As, Gq, Bo, A9, E5, Ae, By]
  by_cases k10 : 10 < kk ∧ 0 < t.length
  ·obtain ⟨k11, k10⟩ := k10
   have htn : ¬ (t.length : Int) = 0 := by omega
   have htne : ¬ t = [] := fun e => by subst e; simp at k10
   have htp : (0 : Int) < t.length := by omega
   have mt := Cb (n := t.length) ha0 k10
   generalize hq : g.a.tmod t.length = q at *
   have mt2 := Cb (a := q + 1) (n := t.length) (by omega) k10
   have hq0 : q.toNat < t.length := by omega
   generalize hq2 : (q + 1).tmod t.length = q2 at *
   have hq20 : q2.toNat < t.length := by omega
   have e1 := Bt (f := tI) 0 hq0
   have e2 := Bt (f := tI) 0 hq20
   by_cases k12 : 1 < t.length
   ·have k12' : (1 : Int) < t.length := by omega
    simp (disch := omega) [hkk, k1, k3, k4, k8, k9, k11, k10, htp, htn, k12, k12', hq, hq2, e1, e2, hq0, hq20, mt.1, mt.2, mt2.1, mt2.2, htne, A1, A5, A4, B7, Ba, Gq, Bo, Ae, By, As]
    simp [E5, A9]
   ·have k12' : ¬ (1 : Int) < t.length := by omega
    simp (disch := omega) [hkk, k1, k3, k4, k8, k9, k11, k10, htp, htn, k12, k12', hq, hq2, e1, e2, hq0, hq20, mt.1, mt.2, mt2.1, mt2.2, htne, A1, A5, A4, B7, Ba, Gq, Bo, Ae, By, As]
    simp [E5, A9]
  ·by_cases k11 : 10 < kk
   ·have k10' : t = [] := List.eq_nil_of_length_eq_zero (by omega)
    subst k10'
    by_cases k6 : 240 < g.k
    ·simp (disch := omega) [hkk, k1, k3, k4, k8, k9, k11, k6, A4, B7, Ba, As, Gq, Bo, A9, E5, Ae, By]
    ·simp (disch := omega) [hkk, k1, k3, k4, k8, k9, k11, k6, A4, B7, Ba, As, Gq, Bo, A9, E5, Ae, By]
   ·have k5 : kk = 8 := by omega
    by_cases k6 : 240 < g.k
    ·simp (disch := omega) [hkk, k5, k6, A4, B7, Ba, As, Gq, Bo, A9, E5, Ae, By]
    ·simp (disch := omega) [hkk, k5, k6, A4, B7, Ba, As, Gq, Bo, A9, E5, Ae, By]
def q0c : T := .sl [] (some 0) (some true)
def Qi (nodes : List Nd) (names : List (List UInt8)) (m : T) (outs : List Int) : List (Nat × B0) :=
 [(2, .bx [.t q0c, .t q0c, .t q0c, .t q0c]), (3, .bx [.ls 25 0 nodes.length none, .ls 144 0 names.length none, .t m, .ls 168 0 outs.length none]), (25, .sl 82 4 (B8 Gq nodes)), (144, .sl 9 1 (A9 tS names)), (168, .sl 3 1 (Bw outs))]
def q5l : Nd := ⟨0, ⟨[], some 0, some true⟩, 0, 0⟩
def q4m (l : Int) : Nd := ⟨14, ⟨[l], some 1, some false⟩, 0, 0⟩
def q3B (b : Int) : Nd := ⟨15, ⟨[], some 0, some true⟩, 0, b⟩
theorem q8B {Q : AX → St → Prop} (x : CD) (hx : Byt x.i) (R : List Nd)
  (h0 : Q (.exit 0) ⟨[(1, .t (.ip (M6 x) 0)), (2, .lp 2 0 0), (3, .lp 3 0 0), (4, .t (tI (x.i.tmod 4 + 1))), (18, .t (tB false))], Qi R [] q0c []⟩) : ∀ (k : Nat) (i : Int) (ns : List Nd), k + i = x.i.tmod 4 + 1 → ns ++ List.replicate k q5l = R → ns.length + k ≤ 100 →
  run Tryz.prog Γ Re Q ⟨[(1, .t (.ip (M6 x) 0)), (2, .lp 2 0 0), (3, .lp 3 0 0), (4, .t (tI i))], Qi ns [] q0c []⟩
 | 0, i, ns, h, hR, hl => by
  refine Xf fun K hK => ?_
  have m4 : 0 ≤ x.i.tmod 4 ∧ x.i.tmod 4 < 4 := Cb (n := 4) hx.1 (by omega)
  have h2 : ¬ i ≤ x.i.tmod 4 := by omega
  have h3 : i = x.i.tmod 4 + 1 := by omega
  simp only [List.replicate_zero, List.append_nil] at hR
  subst hR
  simp (disch := omega) [h2, M6, Qi, A4, B7]
  subst h3
  simpa [M6, Qi] using h0
 | k + 1, i, ns, h, hR, hl => by
  refine Xf fun K hK => ?_
  have m4 : 0 ≤ x.i.tmod 4 ∧ x.i.tmod 4 < 4 := Cb (n := 4) hx.1 (by omega)
  have h2 : i ≤ x.i.tmod 4 := by omega
  have ih := q8B x hx R h0 k (i + 1) (ns ++ [q5l]) (by omega) (by rw [← hR]; simp [List.replicate_succ]) (by simp; omega)
  have q : B8 Gq ns ++ [[tK 0, .sl [] (some 0) (some true), tI 0, tI 0]] = B8 Gq (ns ++ [q5l]) := q1z (f := Gq) (x := q5l)
  have hw4 : E5 4 [[tK 0, .sl [] (some 0) (some true), tI 0, tI 0]] := by intro e he; simp at he; subst he; rfl
  have ht : (B8 Gq ns).take ns.length = B8 Gq ns := List.take_of_length_le (by simp [B8])
  simp (disch := omega) [h2, M6, Qi, A4, B7, Aa, hw4, Bl, ht, q]
  rw [hK]
  simp [M6, Qi] at ih
  exact ⟨by omega, ih⟩
theorem qC0 {Q : AX → St → Prop} (x : CD) (hx : Byt x.f) (first : Int) (R : List Nd)
  (h0 : Q (.exit 2) ⟨[(1, .t (.ip (M6 x) 0)), (2, .lp 2 0 0), (3, .lp 3 0 0), (5, .t (tI first)), (6, .t (tI (x.f.tmod 3))), (7, .t (tI (x.f.tmod 3))), (36, .t (tB false))], Qi R [] q0c []⟩) : ∀ (k : Nat) (i : Int) (ns : List Nd), k + i = x.f.tmod 3 → ns ++ List.replicate k (q4m 0) = R → ns.length + k ≤ 100 →
  run Tryz.prog Γ Rf Q ⟨[(1, .t (.ip (M6 x) 0)), (2, .lp 2 0 0), (3, .lp 3 0 0), (5, .t (tI first)), (6, .t (tI (x.f.tmod 3))), (7, .t (tI i))], Qi ns [] q0c []⟩
 | 0, i, ns, h, hR, hl => by
  refine Xg fun K hK => ?_
  have m3 : 0 ≤ x.f.tmod 3 ∧ x.f.tmod 3 < 3 := Cb (n := 3) hx.1 (by omega)
  have h2 : ¬ i < x.f.tmod 3 := by omega
  have h3 : i = x.f.tmod 3 := by omega
  simp only [List.replicate_zero, List.append_nil] at hR
  subst hR
  simp (disch := omega) [h2, M6, Qi, A4, B7]
  subst h3
  simpa [M6, Qi] using h0
 | k + 1, i, ns, h, hR, hl => by
  refine Xg fun K hK => ?_
  have m3 : 0 ≤ x.f.tmod 3 ∧ x.f.tmod 3 < 3 := Cb (n := 3) hx.1 (by omega)
  have h2 : i < x.f.tmod 3 := by omega
  have ih := qC0 x hx first R h0 k (i + 1) (ns ++ [q4m 0]) (by omega) (by rw [← hR]; simp [List.replicate_succ]) (by simp; omega)
  have q : B8 Gq ns ++ [[tK 14, .sl [[tI 0]] (some 1) (some false), tI 0, tI 0]] = B8 Gq (ns ++ [q4m 0]) := q1z (f := Gq) (x := q4m 0)
  have hw4 : E5 4 [[tK 14, .sl [[tI 0]] (some 1) (some false), tI 0, tI 0]] := by intro e he; simp at he; subst he; rfl
  have ht : (B8 Gq ns).take ns.length = B8 Gq ns := List.take_of_length_le (by simp [B8])
  simp (disch := omega) [h2, M6, Qi, A4, B7, Aa, hw4, Bl, ht, q]
  rw [hK]
  simp [M6, Qi] at ih
  exact ⟨by omega, ih⟩
def Qj (bus : Bool) : List Gd → List Nd → List Nd
 | [], ns => ns
 | g :: l, ns => Qj bus l (ns ++ [q3u bus g ns])
theorem qFG {l : List Gd} : E5 4 (B8 tGd l) := q3i fun _ => rfl
def Gd.z : Gd := ⟨0, 0, 0, 0⟩
theorem q9p {Q : AX → St → Prop} (x : CD) (hx : ∀ g ∈ x.gates.l, q8l g) (first dffs : Int) (R : List Nd)
  (h0 : Q (.exit 4) ⟨[(1, .t (.ip (M6 x) 0)), (2, .lp 2 0 0), (3, .lp 3 0 0), (5, .t (tI first)), (6, .t (tI dffs)), (8, .t (tI (min x.gates.l.length 8 : Nat))), (63, .t (tB false))], Qi R [] q0c []⟩) : ∀ (k i : Nat) (ns : List Nd), k + i = min x.gates.l.length 8 → Qj x.bus ((x.gates.l.take 8).drop i) ns = R → 1 ≤ ns.length → ns.length + k ≤ 100 →
  run Tryz.prog Γ Rh Q ⟨[(1, .t (.ip (M6 x) 0)), (2, .lp 2 0 0), (3, .lp 3 0 0), (5, .t (tI first)), (6, .t (tI dffs)), (8, .t (tI i))], Qi ns [] q0c []⟩
 | 0, i, ns, h, hR, hl1, hl => by
  refine Xh fun K hK => ?_
  rw [List.drop_of_length_le (by simp; omega)] at hR
  simp only [Qj] at hR
  subst hR
  have hi : i = min x.gates.l.length 8 := by omega
  by_cases h2 : i < x.gates.l.length
  ·have h3 : ¬ (i : Int) < 8 := by omega
   have h3' : ¬ i < 8 := by omega
   simp (disch := omega) [h2, h3, h3', M6, Qi, Aa]
   subst hi
   simpa [M6, Qi] using h0
  ·simp (disch := omega) [h2, M6, Qi, Aa]
   subst hi
   simpa [M6, Qi] using h0
 | k + 1, i, ns, h, hR, hl1, hl => by
  refine Xh fun K hK => ?_
  have h2 : i < x.gates.l.length := by omega
  have h3 : i < 8 := by omega
  have h3' : (i : Int) < 8 := by omega
  rw [List.drop_eq_getElem_cons (by simp; omega)] at hR
  simp only [Qj, List.getElem_take] at hR
  have ih := q9p x hx first dffs R h0 k (i + 1) (ns ++ [q3u x.bus x.gates.l[i] ns]) (by omega) hR (by simp) (by simp; omega)
  have hg := qCw (Γ := Γ) x x.gates.l[i] (hx _ (List.getElem_mem h2)) ns none none hl1 (by omega)
  generalize q3u x.bus x.gates.l[i] ns = gn at *
  have q : B8 Gq ns ++ [Gq gn] = B8 Gq (ns ++ [gn]) := q1z (f := Gq) (x := gn)
  have hw4 : E5 4 [Gq gn] := by intro e he; simp at he; subst he; rfl
  have ht : (B8 Gq ns).take ns.length = B8 Gq ns := List.take_of_length_le (by simp [B8])
  have hget := E4 (f := tGd) Gd.z h2
  simp (disch := omega) [h2, h3, h3', M6, Qi, A4, Aa, hget, qFG, tGd]
  refine A0 hg (by simp [Ae, M6, ht, tGd]) ?_
  simp [Gq] at q hw4
  simp (disch := omega) [Gq, A4, Aa, hw4, Bl, ht, q]
  rw [hK]
  simp [M6, Qi] at ih
  exact ⟨rfl, by omega, ih⟩
def ddN (x : CD) (i : Nat) : Int := if i = 0 then x.d0 else x.d1
def Tv (ns : List Nd) (j : Nat) (v : Int) : List Nd := ns.set j ⟨(ns.getD j Nd.d).k, ⟨[v], some 1, some false⟩, (ns.getD j Nd.d).mem, (ns.getD j Nd.d).bit⟩
def q12 (x : CD) (first : Nat) : Nat → Nat → List Nd → List Nd
 | 0, _, ns => ns
 | k + 1, i, ns => q12 x first k (i + 1) (Tv ns (first + i) ((ddN x i).tmod ns.length))
theorem Nx {ns : List Nd} {j : Nat} {v : Int} : (Tv ns j v).length = ns.length := by simp [Tv]
theorem q4n {x : CD} {f : Nat} : ∀ {k i : Nat} {ns : List Nd}, (q12 x f k i ns).length = ns.length
 | 0, _, _ => rfl
 | k + 1, i, ns => by simp only [q12]; rw [q4n, Nx]
theorem qH6 {ns : List Nd} {j : Nat} {v : Int} (hj : j < ns.length) : (B8 Gq ns).set j (((B8 Gq ns)[j]?.getD []).take 1 ++ T.sl [[tI v]] (some 1) (some false) :: ((B8 Gq ns)[j]?.getD []).drop 2) = B8 Gq (Tv ns j v) := by
 rw [E4 (f := Gq) Nd.d hj]
 unfold Tv B8
 rw [List.map_set]
 rfl
theorem qC1 {Q : AX → St → Prop} (x : CD) (h0' : Byt x.d0) (h1' : Byt x.d1) (first dn n : Nat) (hdn : dn ≤ 2) (hn : 1 ≤ n ∧ n ≤ 100) (hf : first + dn ≤ n) (R : List Nd)
  (h0 : Q (.exit 6) ⟨[(1, .t (.ip (M6 x) 0)), (2, .lp 2 0 0), (3, .lp 3 0 0), (5, .t (tI first)), (6, .t (tI dn)), (9, .t (tI n)), (10, .t (tI dn)), (85, .t (tB false))], Qi R [] q0c []⟩) : ∀ (k i : Nat) (ns : List Nd), k + i = dn → q12 x first k i ns = R → ns.length = n →
  run Tryz.prog Γ Ri Q ⟨[(1, .t (.ip (M6 x) 0)), (2, .lp 2 0 0), (3, .lp 3 0 0), (5, .t (tI first)), (6, .t (tI dn)), (9, .t (tI n)), (10, .t (tI i))], Qi ns [] q0c []⟩
 | 0, i, ns, h, hR, hl => by
  refine Xi fun K hK => ?_
  simp only [q12] at hR
  subst hR
  have h2 : ¬ i < dn := by omega
  have h3 : i = dn := by omega
  simp (disch := omega) [h2, M6, Qi]
  subst h3
  simpa [M6, Qi] using h0
 | k + 1, i, ns, h, hR, hl => by
  refine Xi fun K hK => ?_
  have h2 : i < dn := by omega
  simp only [q12] at hR
  have ih := qC1 x h0' h1' first dn n hdn hn hf R h0 k (i + 1) _ (by omega) hR (by rw [Nx]; exact hl)
  have hi : i = 0 ∨ i = 1 := by omega
  have hj : first + i < ns.length := by omega
  have hn0 : ¬ (n : Int) = 0 := by omega
  have hget := E4 (f := Gq) Nd.d hj
  obtain ⟨h01, h02⟩ := h0'
  obtain ⟨h11, h12⟩ := h1'
  have hs := fun v => qH6 (v := v) hj
  have hn' : ¬ n = 0 := by omega
  have hfi : first + i < n := by omega
  rcases hi with rfl | rfl
  ·have hdd : ddN x 0 = x.d0 := rfl
   have h2' : (0 : Int) < dn := by omega
   rw [hdd, hl] at ih
   simp only [Nat.add_zero] at hs hfi ih
   simp (disch := omega) [h2, h2', M6, Qi, A4, Aa, Bl, hn0, hl, hs, hn', hfi]
   rw [hK]
   simp [M6, Qi, Nx, hl] at ih
   exact ih
  ·have hdd : ddN x 1 = x.d1 := rfl
   have h2' : (1 : Int) < dn := by omega
   rw [hdd, hl] at ih
   have hfn : ((first : Int) + 1).toNat = first + 1 := by omega
   have hfi' : (first : Int) + 1 < n := by omega
   simp (disch := omega) [h2, h2', M6, Qi, A4, Aa, Bl, hn0, hl, hs, hn', hfi, hfn, hfi']
   rw [hK]
   simp [M6, Qi, Nx, hl] at ih
   exact ⟨by omega, ih⟩
theorem q9q {Q : AX → St → Prop} (x : CD) (n : Nat) (hn : n ≤ 100) (ns : List Nd) (m : T) (R : List (List UInt8))
  (h0 : Q (.exit 8) ⟨[(1, .t (.ip (M6 x) 0)), (2, .lp 2 0 0), (3, .lp 3 0 0), (9, .t (tI n)), (11, .t (tI n)), (136, .t (tB false))], Qi ns R m []⟩) : ∀ (k i : Nat) (nms : List (List UInt8)), k + i = n → nms ++ (List.range' i k).map Z4 = R → nms.length = i →
  run Tryz.prog Γ Rj Q ⟨[(1, .t (.ip (M6 x) 0)), (2, .lp 2 0 0), (3, .lp 3 0 0), (9, .t (tI n)), (11, .t (tI i))], Qi ns nms m []⟩
 | 0, i, nms, h, hR, hl => by
  refine Xj fun K hK => ?_
  simp only [List.range'_zero, List.map_nil, List.append_nil] at hR
  subst hR
  have h2 : ¬ i < n := by omega
  have h3 : i = n := by omega
  simp (disch := omega) [h2, M6, Qi]
  subst h3
  simpa [M6, Qi] using h0
 | k + 1, i, nms, h, hR, hl => by
  refine Xj fun K hK => ?_
  have h2 : i < n := by omega
  rw [List.range'_succ, List.map_cons] at hR
  have ih := q9q x n hn ns m R h0 k (i + 1) (nms ++ [Z4 i]) (by omega) (by rw [← hR]; simp) (by simp; omega)
  have e := qCv (Γ := Γ) i (by omega)
  have q : A9 tS nms ++ [[tS (Z4 i)]] = A9 tS (nms ++ [Z4 i]) := C6
  have ht : (A9 tS nms).take i = A9 tS nms := List.take_of_length_le (by simp [A9]; omega)
  generalize Z4 i = nm at *
  have hw : E5 1 [[tS nm]] := by intro e he; simp at he; subst he; rfl
  simp (disch := omega) [h2, M6, Qi, A4, hl]
  refine A0 e rfl ?_
  simp only [tS, sV] at q hw
  simp (disch := omega) [tS, sV, A4, A1, hw, A5, ht, q, hl]
  rw [hK]
  simp [M6, Qi, hl] at ih
  exact ⟨by omega, ih⟩
theorem qC2 {Q : AX → St → Prop} (x : CD) (hx : ∀ b ∈ x.outs.l, Byt b) (n : Nat) (hn : 1 ≤ n ∧ n ≤ 100) (ns : List Nd) (nms : List (List UInt8)) (m : T) (R : List Int)
  (h0 : Q (.exit 10) ⟨[(1, .t (.ip (M6 x) 0)), (2, .lp 2 0 0), (3, .lp 3 0 0), (9, .t (tI n)), (12, .t (tI (min x.outs.l.length 3 : Nat))), (154, .t (tB false))], Qi ns nms m R⟩) : ∀ (k i : Nat) (os : List Int), k + i = min x.outs.l.length 3 → os ++ ((x.outs.l.take 3).drop i).map (fun b => b.tmod n) = R → os.length = i →
  run Tryz.prog Γ Oq Q ⟨[(1, .t (.ip (M6 x) 0)), (2, .lp 2 0 0), (3, .lp 3 0 0), (9, .t (tI n)), (12, .t (tI i))], Qi ns nms m os⟩
 | 0, i, os, h, hR, hl => by
  refine Vx fun K hK => ?_
  rw [List.drop_of_length_le (by simp; omega)] at hR
  simp only [List.map_nil, List.append_nil] at hR
  subst hR
  have hi : i = min x.outs.l.length 3 := by omega
  by_cases h2 : i < x.outs.l.length
  ·have h3 : ¬ (i : Int) < 3 := by omega
   have h3' : ¬ i < 3 := by omega
   simp (disch := omega) [h2, h3, h3', M6, Qi, A1]
   subst hi
   simpa [M6, Qi] using h0
  ·simp (disch := omega) [h2, M6, Qi, A1]
   subst hi
   simpa [M6, Qi] using h0
 | k + 1, i, os, h, hR, hl => by
  refine Vx fun K hK => ?_
  have h2 : i < x.outs.l.length := by omega
  have h3 : i < 3 := by omega
  have h3' : (i : Int) < 3 := by omega
  rw [List.drop_eq_getElem_cons (by simp; omega)] at hR
  simp only [List.map_cons, List.getElem_take] at hR
  have hb := hx _ (List.getElem_mem h2)
  obtain ⟨hb0, hb1⟩ := hb
  have hget := Bt (f := tK) 0 h2
  have hg2 : x.outs.l[i]?.getD 0 = x.outs.l[i] := by simp [h2]
  rw [hg2] at hget
  generalize x.outs.l[i] = b at *
  have hn0 : ¬ (n : Int) = 0 := by omega
  have hn0' : ¬ n = 0 := by omega
  have ih := qC2 x hx n hn ns nms m R h0 k (i + 1) (os ++ [b.tmod n]) (by omega) (by rw [← hR]; simp) (by simp; omega)
  have q : A9 tI os ++ [[tI (b.tmod n)]] = A9 tI (os ++ [b.tmod n]) := C6
  have ht : (A9 tI os).take i = A9 tI os := List.take_of_length_le (by simp [A9]; omega)
  have hw : E5 1 [[tI (b.tmod n)]] := by intro e he; simp at he; subst he; rfl
  simp (disch := omega) [h2, h3, h3', M6, Qi, A4, A1, A5, hget, hn0, hn0', hw, ht, q, hl]
  rw [hK]
  simp [M6, Qi, hl] at ih
  exact ⟨by omega, ih⟩
def Ik (x : CD) : List Nd := List.replicate (x.i.tmod 4 + 1).toNat q5l
def Fh (x : CD) : List Nd := Ik x ++ List.replicate (x.f.tmod 3).toNat (q4m 0)
def Ep (x : CD) : List Nd := if x.mem then Fh x ++ [q3B 0, q3B 1] else Fh x
def Bv (x : CD) : List Nd := Qj x.bus (x.gates.l.take 8) (Ep x)
def Gy (x : CD) : List Nd := q12 x (Ik x).length (x.f.tmod 3).toNat 0 (Bv x)
def q7Z (x : CD) (n : Int) : List Mm := if x.mem then [⟨⟨[x.p0.tmod n], some 1, some false⟩, ⟨[x.p1.tmod n, x.p2.tmod n], some 2, some false⟩, x.p3.tmod n⟩] else []
def V6 (x : CD) : B1 :=
 ⟨⟨Gy x, none, none⟩, ⟨(List.range' 0 (Bv x).length).map Z4, none, none⟩, ⟨q7Z x (Bv x).length, some (if x.mem then 1 else 0), some (!x.mem)⟩, ⟨(x.outs.l.take 3).map (fun b => b.tmod (Bv x).length) ++ [((Bv x).length : Int) - 1], none, none⟩⟩
structure q4o (x : CD) : Prop where
 i : Byt x.i
 f : Byt x.f
 d0 : Byt x.d0
 d1 : Byt x.d1
 p0 : Byt x.p0
 p1 : Byt x.p1
 p2 : Byt x.p2
 p3 : Byt x.p3
 gates : ∀ g ∈ x.gates.l, q8l g
 outs : ∀ b ∈ x.outs.l, Byt b
theorem q00 {bus : Bool} : ∀ {l : List Gd} {ns : List Nd}, (Qj bus l ns).length = ns.length + l.length
 | [], ns => rfl
 | g :: l, ns => by simp only [Qj]; rw [q00]; simp; omega
set_option maxHeartbeats 4000000 in
theorem qFH (x : CD) (hx : q4o x) : Ab Tryz.prog Γ 11 [.agg (M6 x)] (.agg (tC (V6 x))) := by
 refine Ax q6t rfl ?_
 have m4 : 0 ≤ x.i.tmod 4 ∧ x.i.tmod 4 < 4 := Cb (n := 4) hx.i.1 (by omega)
 have m3 : 0 ≤ x.f.tmod 3 ∧ x.f.tmod 3 < 3 := Cb (n := 3) hx.f.1 (by omega)
 have l1 : (Ik x).length = (x.i.tmod 4 + 1).toNat := by simp [Ik]
 have l2 : (Fh x).length = (x.i.tmod 4 + 1).toNat + (x.f.tmod 3).toNat := by simp [Fh, Ik]
 have l3 : (Fh x).length ≤ (Ep x).length ∧ (Ep x).length ≤ 8 := by unfold Ep; split <;> simp <;> omega
 have l4 : (Bv x).length = (Ep x).length + min 8 x.gates.l.length := by unfold Bv; rw [q00]; simp
 have l5 : (Gy x).length = (Bv x).length := q4n
 have e1 := fun Q h0 => q8B (Γ := Γ) (Q := Q) x hx.i (Ik x) h0 (x.i.tmod 4 + 1).toNat 0 [] (by omega) rfl (by simp; omega)
 have e2 := fun Q h0 => qC0 (Γ := Γ) (Q := Q) x hx.f (Ik x).length (Fh x) h0 (x.f.tmod 3).toNat 0 (Ik x) (by omega) rfl (by omega)
 have e3 := fun Q h0 => q9p (Γ := Γ) (Q := Q) x hx.gates (Ik x).length (x.f.tmod 3) (Bv x) h0 (min x.gates.l.length 8) 0 (Ep x) (by omega) rfl (by omega) (by omega)
 have e4 := fun Q h0 => qC1 (Γ := Γ) (Q := Q) x hx.d0 hx.d1 (Ik x).length (x.f.tmod 3).toNat (Bv x).length (by omega) (by omega) (by omega) (Gy x) h0 (x.f.tmod 3).toNat 0 (Bv x) (by omega) rfl rfl
 have e5 := fun Q m h0 => q9q (Γ := Γ) (Q := Q) x (Bv x).length (by omega) (Gy x) m _ h0 (Bv x).length 0 [] (by omega) rfl rfl
 have e6 := fun Q nms m h0 => qC2 (Γ := Γ) (Q := Q) x hx.outs (Bv x).length (by omega) (Gy x) nms m _ h0 (min x.outs.l.length 3) 0 [] (by omega) rfl rfl
 have hc : ((x.f.tmod 3).toNat : Int) = x.f.tmod 3 := by omega
 rw [hc] at e4
 have hk1 := fun {s : Nat} {e : List (List T)} {n : Nat} (h : e.length ≤ n) => List.take_of_length_le h
 have a33 : ∀ {os : List Int}, A9 tI os ++ [[tI (((Bv x).length : Int) - 1)]] = A9 tI (os ++ [((Bv x).length : Int) - 1]) := C6
 have hw1 : E5 1 [[tI (((Bv x).length : Int) - 1)]] := by intro e he; simp at he; subst he; rfl
 have hol : ((x.outs.l.take 3).map (fun b => b.tmod ((Bv x).length : Int))).length = min 3 x.outs.l.length := by simp
 have hnl : ((List.range' 0 (Bv x).length).map Z4).length = (Bv x).length := by simp
 simp only [List.nil_append, List.drop_zero] at e5 e6
 generalize hN : Bv x = N4 at *
 generalize hO : (x.outs.l.take 3).map (fun b => b.tmod (N4.length : Int)) = O at *
 generalize hNm : (List.range' 0 N4.length).map Z4 = Nm at *
 simp (config := { maxSteps := 2000000 }) [q2U, M6]
 refine e1 _ ?_
 simp (config := { maxSteps := 2000000 }) (disch := omega) [M6, Qi, A4, B7, Aa]
 refine e2 _ ?_
 cases hm : x.mem
 ·have h3 : Ep x = Fh x := by simp [Ep, hm]
  rw [h3] at e3 l3 l4
  simp only [M6, Qi, hm] at e3 e4 e5 e6
  simp (config := { maxSteps := 2000000 }) (disch := omega) [M6, Qi, A4, B7, Aa, A1, q0q, Bl, A5, hm]
  refine e3 _ ?_
  simp (config := { maxSteps := 2000000 }) (disch := omega) [M6, Qi, A4, B7, Aa, A1, q0q, Bl, A5, hm]
  refine e4 _ ?_
  simp (config := { maxSteps := 2000000 }) (disch := omega) [M6, Qi, A4, B7, Aa, A1, q0q, Bl, A5, hm]
  refine e5 _ _ ?_
  simp (config := { maxSteps := 2000000 }) (disch := omega) [M6, Qi, A4, B7, Aa, A1, q0q, Bl, A5, hm]
  refine e6 _ _ _ ?_
  have ht : (A9 tI O).take O.length = A9 tI O := List.take_of_length_le (by simp [A9])
  simp (config := { maxSteps := 2000000 }) (disch := omega) [M6, Qi, A4, B7, Aa, A1, q0q, Bl, A5, hm, ht, hw1, a33, Gx, Ae, q0c]
  have ht2 : (A9 tI (O ++ [(N4.length : Int) - 1])).take (O.length + 1) = A9 tI (O ++ [(N4.length : Int) - 1]) := List.take_of_length_le (by simp [A9])
  refine ⟨by omega, ?_⟩
  rw [ht2]
  simp [tC, V6, q7Z, hm, A7, Ac, Af, Bo, hN, hO, hNm, B8]
 ·have h3 : Ep x = Fh x ++ [q3B 0, q3B 1] := by simp [Ep, hm]
  have l3' : (Ep x).length = (Fh x).length + 2 := by rw [h3]; simp
  have q : B8 Gq (Fh x) ++ [[tK 15, .sl [] (some 0) (some true), tI 0, tI 0], [tK 15, .sl [] (some 0) (some true), tI 0, tI 1]] = B8 Gq (Ep x) := by rw [h3]; simp [B8, q3B, Gq, Bo, A9]
  have hw4 : E5 4 [[tK 15, .sl [] (some 0) (some true), tI 0, tI 0], [tK 15, .sl [] (some 0) (some true), tI 0, tI 1]] := by intro e he; simp at he; rcases he with rfl | rfl <;> rfl
  have ht0 : (B8 Gq (Fh x)).take (Fh x).length = B8 Gq (Fh x) := List.take_of_length_le (by simp [B8])
  have ht : (A9 tI O).take O.length = A9 tI O := List.take_of_length_le (by simp [A9])
  have hn0 : ¬ (N4.length : Int) = 0 := by omega
  have hn0' : ¬ N4 = [] := fun e => by rw [e] at l4; simp at l4; omega
  obtain ⟨b00, b01⟩ := hx.p0
  obtain ⟨b10, b11⟩ := hx.p1
  obtain ⟨b20, b21⟩ := hx.p2
  obtain ⟨b30, b31⟩ := hx.p3
  simp only [M6, Qi, hm] at e3 e4 e5 e6
  simp (config := { maxSteps := 2000000 }) (disch := omega) [M6, Qi, A4, B7, Aa, A1, Bl, A5, hm, ht, ht0, hw1, hw4, q, hn0, hn0', a33, Gx, Ae, q0c]
  refine ⟨by omega, ?_⟩
  rw [← l3']
  refine e3 _ ?_
  simp (config := { maxSteps := 2000000 }) (disch := omega) [M6, Qi, A4, B7, Aa, A1, Bl, A5, hm, ht, ht0, hw1, hw4, q, hn0, hn0', a33, Gx, Ae, q0c]
  refine e4 _ ?_
  simp (config := { maxSteps := 2000000 }) (disch := omega) [M6, Qi, A4, B7, Aa, A1, Bl, A5, hm, ht, ht0, hw1, hw4, q, hn0, hn0', a33, Gx, Ae, q0c]
  refine e5 _ _ ?_
  simp (config := { maxSteps := 2000000 }) (disch := omega) [M6, Qi, A4, B7, Aa, A1, Bl, A5, hm, ht, ht0, hw1, hw4, q, hn0, hn0', a33, Gx, Ae, q0c]
  refine e6 _ _ _ ?_
  simp (config := { maxSteps := 2000000 }) (disch := omega) [M6, Qi, A4, B7, Aa, A1, Bl, A5, hm, ht, ht0, hw1, hw4, q, hn0, hn0', a33, Gx, Ae, q0c]
  have ht2 : (A9 tI (O ++ [(N4.length : Int) - 1])).take (O.length + 1) = A9 tI (O ++ [(N4.length : Int) - 1]) := List.take_of_length_le (by simp [A9])
  refine ⟨by omega, ?_⟩
  rw [ht2]
  simp [tC, V6, q7Z, hm, A7, Ac, Af, Bo, hN, hO, hNm, B8, tMm, A9]
def q3C (x : Nd) : Prop := (0 ≤ x.k ∧ x.k ≤ 255) ∧ x.inn.l.length ≤ 1000000000
theorem qDq {bus : Bool} {g : Gd} {a b d : Int} {t : List Int} (hg : q8l g) : q3C (q9o bus g a b d t) := by
 have m13 : 0 ≤ g.k.tmod 13 ∧ g.k.tmod 13 < 13 := Cb (n := 13) hg.1.1 (by omega)
 have m9 : 0 ≤ g.k.tmod 9 ∧ g.k.tmod 9 < 9 := Cb (n := 9) hg.1.1 (by omega)
 have ma : 0 ≤ g.a.tmod 2 ∧ g.a.tmod 2 < 2 := Cb (n := 2) hg.2.1.1 (by omega)
 have hk : 0 ≤ (if bus then g.k.tmod 13 else g.k.tmod 9) ∧ (if bus then g.k.tmod 13 else g.k.tmod 9) < 13 := by cases bus <;> simp <;> omega
 unfold q9o
 simp only
 generalize (if bus = true then g.k.tmod 13 else g.k.tmod 9) = kk at *
 unfold q3C
 split
 ·refine ⟨⟨by simp; omega, by simp; omega⟩, ?_⟩
  simp only; split <;> simp
 split
 ·simp
 split
 ·simp
 split
 ·simp
 split
 ·simp only; split <;> simp
 split
 ·simp; omega
 ·simp
theorem q8C {bus : Bool} : ∀ {l : List Gd} {ns : List Nd}, (∀ g ∈ l, q8l g) → (∀ x ∈ ns, q3C x) → ∀ x ∈ Qj bus l ns, q3C x
 | [], ns, _, h => h
 | g :: l, ns, hg, h => by
  simp only [Qj]
  refine q8C (fun y hy => hg y (List.mem_cons_of_mem _ hy)) fun y hy => ?_
  rcases List.mem_append.1 hy with hy | hy
  ·exact h y hy
  ·simp at hy; subst hy; exact qDq (hg g List.mem_cons_self)
theorem qDr {ns : List Nd} {j : Nat} {v : Int} (h : ∀ x ∈ ns, q3C x) : ∀ x ∈ Tv ns j v, q3C x := by
 intro x hx
 unfold Tv at hx
 rcases List.mem_or_eq_of_mem_set hx with hx | rfl
 ·exact h x hx
 ·refine ⟨?_, by simp⟩
  simp only [List.getD_eq_getElem?_getD]
  by_cases hj : j < ns.length
  ·simp only [List.getElem?_eq_getElem hj, Option.getD_some]
   exact (h _ (List.getElem_mem hj)).1
  ·simp [List.getElem?_eq_none (Nat.le_of_not_lt hj), Nd.d]
theorem q9r {c : CD} {f : Nat} : ∀ {k i : Nat} {ns : List Nd}, (∀ x ∈ ns, q3C x) → ∀ x ∈ q12 c f k i ns, q3C x
 | 0, _, _, h => h
 | k + 1, i, ns, h => by simp only [q12]; exact q9r (qDr h)
theorem qCx {x : CD} (hx : q4o x) : ∀ n ∈ Gy x, q3C n := by
 have h1 : ∀ n ∈ Ik x, q3C n := fun n hn => by rw [(List.mem_replicate.1 hn).2]; simp [q3C, q5l]
 have h2 : ∀ n ∈ Fh x, q3C n := fun n hn => by
  rcases List.mem_append.1 hn with hn | hn
  ·exact h1 n hn
  ·rw [(List.mem_replicate.1 hn).2]; simp [q3C, q4m]
 have h3 : ∀ n ∈ Ep x, q3C n := by
  unfold Ep
  split
  ·intro n hn
   rcases List.mem_append.1 hn with hn | hn
   ·exact h2 n hn
   ·simp at hn; rcases hn with rfl | rfl <;> simp [q3C, q3B]
  ·exact h2
 exact q9r (q8C (fun g hg => hx.gates g (List.mem_of_mem_take hg)) h3)
theorem q3D {x : CD} (hx : q4o x) : 1 ≤ (Bv x).length ∧ (Bv x).length ≤ 16 := by
 have m4 : 0 ≤ x.i.tmod 4 ∧ x.i.tmod 4 < 4 := Cb (n := 4) hx.i.1 (by omega)
 have m3 : 0 ≤ x.f.tmod 3 ∧ x.f.tmod 3 < 3 := Cb (n := 3) hx.f.1 (by omega)
 have l2 : (Fh x).length = (x.i.tmod 4 + 1).toNat + (x.f.tmod 3).toNat := by simp [Fh, Ik]
 have l3 : (Fh x).length ≤ (Ep x).length ∧ (Ep x).length ≤ 8 := by unfold Ep; split <;> simp <;> omega
 have l4 : (Bv x).length = (Ep x).length + min 8 x.gates.l.length := by unfold Bv; rw [q00]; simp
 omega
theorem q3E {x : CD} (hx : q4o x) : (Gy x).length = (Bv x).length := q4n
theorem qDs {x : CD} (hx : q4o x) : COk (V6 x) := by
 have l := q3D hx
 have l5 := q3E hx
 have hn := qCx hx
 refine ⟨⟨?_, ?_, ?_, ?_, fun n h => (hn n h).1, fun n h => (hn n h).2, ?_⟩, ?_⟩
 ·simp only [V6]; omega
 ·simp [V6]; omega
 ·simp only [V6, q7Z]; split <;> simp
 ·simp [V6]; omega
 ·intro m hm
  simp only [V6, q7Z] at hm
  split at hm
  ·simp at hm; subst hm; simp
  ·cases hm
 ·intro s hs b hb
  simp only [V6] at hs
  obtain ⟨i, hi, rfl⟩ := List.mem_map.1 hs
  have := (List.mem_range'_1.1 hi).2
  have h1 : i / 10 < 10 := by omega
  have h2 : i % 10 < 10 := by omega
  have key : ∀ q : Nat, q < 10 → UInt8.ofNat (48 + q) < 128 := by decide
  simp only [Z4, List.mem_cons, List.not_mem_nil, or_false] at hb
  rcases hb with rfl | rfl | rfl
  ·decide
  ·exact key _ h1
  ·exact key _ h2
end Go.Lg
namespace Go.Lg
open Go Go.Proofs Go.Proofs.YthgiocdefejbiaaGreatDoor
def G0 (g : Nat) : Option (List T) := if g = 0 then some qCm else none
theorem qJi : GOk G0 := rfl
theorem qIl : Tryz.prog.globalNamed "probecard/logic.fanins" = some 0 := by kernel_rfl
theorem qH7 : (Tryz.prog.globals[0]?).map (·.type) = some 200 := by kernel_rfl
theorem qH8 : Tryz.prog.cellsOf 3 = 1 := by kernel_rfl
theorem qDt : Tryz.prog.cellsOf 4 = 1 := by kernel_rfl
theorem q13 : Tryz.prog.cellsOf 5 = 1 := by kernel_rfl
theorem qC3 : Tryz.prog.cellsOf 22 = 2 := by kernel_rfl
theorem qC4 : Tryz.prog.cellsOf 23 = 4 := by kernel_rfl
theorem qFI : Tryz.prog.cellsOf 24 = 1 := by kernel_rfl
theorem q68 : Tryz.prog.cellsOf 25 = 1 := by kernel_rfl
theorem qFJ : Tryz.prog.cellsOf 27 = 12 := by kernel_rfl
theorem q9s : Tryz.prog.cellsOf 104 = 3 := by kernel_rfl
theorem q9t : Tryz.prog.cellsOf 106 = 4 := by kernel_rfl
theorem qDu : Tryz.prog.cellsOf 199 = 2 := by kernel_rfl
theorem qDv : Tryz.prog.cellsOf 200 = 32 := by kernel_rfl
theorem qCy {W : World} (h : laidMet Tryz.prog [("probecard/logic.fanins", Rows.laid_probecard_logic_fanins)] W) : ∀ j, j < 32 → W.cell? ⟨0, j, none⟩ = (q6h.flatMap fun x => [Value.int .i64 x.1, Value.int .i64 x.2])[j]? := by
 obtain ⟨ps, ⟨g', t', cs, fuel, p, q, hg', ht', hvar, hd, _, _⟩, _⟩ := h
 obtain rfl := Option.some.inj (qIl.symm.trans hg')
 obtain rfl := Option.some.inj (qH7.symm.trans ht')
 have hc := qB4 (l := q6h) Tryz.underlying200 Tryz.underlying199 Tryz.underlying3 qH8 qDu qDv hd
 intro j hj
 have := World.var?_cell qIl hvar j
 rw [this, ← hc]
 simp
theorem qH9 {W : World} (h : laidMet Tryz.prog [("probecard/logic.fanins", Rows.laid_probecard_logic_fanins)] W) : Gl G0 W (Old W) := by
 have hc := qCy h
 intro g cs hg
 unfold G0 at hg
 split at hg
 case isFalse => cases hg
 rename_i h0; subst h0
 simp only [Option.some.injEq] at hg
 subst hg
 have hlen : (q6h.flatMap fun x => [Value.int .i64 x.1, Value.int .i64 x.2]).length = 32 := rfl
 have hfc : qCm = (q6h.flatMap fun x => [Value.int .i64 x.1, Value.int .i64 x.2]).map T.v := rfl
 have hfl : qCm.length = 32 := rfl
 refine .ip qCm 0 0 0 (fun j => (q6h.flatMap fun x => [Value.int .i64 x.1, Value.int .i64 x.2])[j]?.getD .nilFunc) ?_ ?_ ?_ ?_
 ·intro j hj
  rw [Nat.zero_add, hc j (by omega)]
  rw [List.getElem?_eq_getElem (by omega)]; rfl
 ·intro j t ht
  rw [hfc, List.getElem?_map, Option.map_eq_some_iff] at ht
  obtain ⟨v, hv, rfl⟩ := ht
  simp only [hv, Option.getD_some]
  exact .v v
 ·intro j t ht
  rw [hfc, List.getElem?_map, Option.map_eq_some_iff] at ht
  obtain ⟨v, hv, rfl⟩ := ht
  have hm := List.mem_of_getElem? hv
  obtain ⟨x, _, hx⟩ := List.mem_flatMap.1 hm
  simp at hx
  rcases hx with rfl | rfl <;> rfl
 ·have := hc 0 (by omega)
  rw [List.getElem?_eq_getElem (by omega)] at this
  exact qBw this
theorem qHA {n : Int} (h : (Lit.int .u8 n).wf = true) : Byt n := by
 simp [Lit.wf, IntKind.min, IntKind.max, IntKind.signed, IntKind.bits] at h
 exact ⟨h.1, by omega⟩
theorem q9u : Rd Tryz.prog 5 fun ts => ∃ n, ts = [tK n] ∧ Byt n := (qH1 Tryz.underlying5).mono fun ts ⟨n, h, hw⟩ => ⟨n, h, qHA hw⟩
theorem q69 {α : Type} {f : α → List T} {Q : α → Prop} : ∀ {es : List (List T)}, (∀ x ∈ es, ∃ a, x = f a ∧ Q a) → ∃ l : List α, es = l.map f ∧ ∀ a ∈ l, Q a
 | [], _ => ⟨[], rfl, by simp⟩
 | e :: es, h => by
  obtain ⟨a, ha, hq⟩ := h e List.mem_cons_self
  obtain ⟨l, hl, hql⟩ := q69 fun x hx => h x (List.mem_cons_of_mem _ hx)
  exact ⟨a :: l, by rw [ha, hl]; rfl, fun b hb => by rcases List.mem_cons.1 hb with rfl | hb; exact hq; exact hql b hb⟩
theorem qJa : Rd Tryz.prog 106 fun ts => ∃ g, ts = tGd g ∧ q8l g := by
 refine (Yx (l := [(1, fun ts => ∃ n, ts = [tK n] ∧ Byt n), (3, q5H (List.replicate 3 (1, fun ts => ∃ n, ts = [tK n] ∧ Byt n)))]) Tryz.underlying106 q9t (.cons rfl q13 q9u (.cons rfl q9s (q6g Tryz.underlying104 q13 q9s q9u) (.nil _)))).mono fun ts h => ?_
 obtain ⟨_, _, rfl, ⟨k, rfl, hk⟩, _, _, rfl, ⟨_, _, rfl, ⟨a, rfl, ha⟩, _, _, rfl, ⟨b, rfl, hb⟩, _, _, rfl, ⟨d, rfl, hd⟩, rfl⟩, rfl⟩ := h
 exact ⟨⟨k, a, b, d⟩, rfl, hk, ha, hb, hd⟩
theorem qJb : Rd Tryz.prog 27 fun ts => ∃ x, ts = M6 x ∧ q4o x := by
 refine (Yx (l := [(1, fun ts => ∃ n, ts = [tK n] ∧ Byt n), (1, fun ts => ∃ n, ts = [tK n] ∧ Byt n), (2, q5H (List.replicate 2 (1, fun ts => ∃ n, ts = [tK n] ∧ Byt n))), (1, fun ts => ∃ b, ts = [tB b]), (1, fun ts => ∃ b, ts = [tB b]), (4, q5H (List.replicate 4 (1, fun ts => ∃ n, ts = [tK n] ∧ Byt n))), (1, _), (1, _)]) Tryz.underlying27 qFJ
  (.cons rfl q13 q9u (.cons rfl q13 q9u (.cons rfl qC3 (q6g Tryz.underlying22 q13 qC3 q9u) (.cons rfl qDt (qBx Tryz.underlying4) (.cons rfl qDt (qBx Tryz.underlying4) (.cons rfl qC4 (q6g Tryz.underlying23 q13 qC4 q9u)
   (.cons rfl qFI (q6f Tryz.underlying24 q9t (by decide) qJa) (.cons rfl q68 (q6f Tryz.underlying25 q13 (by decide) q9u) (.nil _)))))))))).mono fun ts h => ?_
 obtain ⟨_, _, rfl, ⟨i, rfl, hi⟩, _, _, rfl, ⟨f, rfl, hf⟩, _, _, rfl, ⟨_, _, rfl, ⟨d0, rfl, hd0⟩, _, _, rfl, ⟨d1, rfl, hd1⟩, rfl⟩, _, _, rfl, ⟨bus, rfl⟩, _, _, rfl, ⟨mem, rfl⟩, _, _, rfl,
  ⟨_, _, rfl, ⟨p0, rfl, h0⟩, _, _, rfl, ⟨p1, rfl, h1⟩, _, _, rfl, ⟨p2, rfl, h2⟩, _, _, rfl, ⟨p3, rfl, h3⟩, rfl⟩, _, _, rfl, ⟨es, cap, nl, rfl, _, hes⟩, _, _, rfl, ⟨os, cap2, nl2, rfl, _, hos⟩, rfl⟩ := h
 obtain ⟨gs, rfl, hgs⟩ := q69 (f := tGd) (Q := q8l) fun x hx => (hes x hx).1
 obtain ⟨ol, rfl, hol⟩ := q69 (f := fun n => [tK n]) (Q := Byt) fun x hx => (hos x hx).1
 exact ⟨⟨i, f, d0, d1, bus, mem, p0, p1, p2, p3, ⟨gs, cap, nl⟩, ⟨ol, cap2, nl2⟩⟩, rfl, ⟨hi, hf, hd0, hd1, h0, h1, h2, h3, hgs, hol⟩⟩
end Go.Lg
namespace Go.Proofs.YthgiocdefejbiaaGreatDoor
open Go Go.Lg Go.ChangeShapes Go.WideShapes Go.ChangeAt Go.RowKit
theorem own : ownKnob Tryz.prog.godebug = none := by kernel_rfl
theorem qJP : laidOutB Tryz.prog = true := by kernel_rfl
theorem qJj {W : World} (h : laidMetH Tryz.prog [("probecard/logic.fanins", Rows.laid_probecard_logic_fanins)] W) : Gl G0 W (Old W) := by
 rw [MakeChecks.laidMetH_plain _ _ _ (by kernel_rfl)] at h
 exact qH9 h
theorem qJQ {H : Type} {enc : TypeId × Value → H} {W : World} {base : Nat} {v : Value} {d : DataW H} {p : List MemPlace} (hval : Value.okWide Tryz.prog W .any base 27 v) (h : DataW.Trod enc Tryz.prog W 0 (fun _ => true) true 27 v d p) : ∃ x, q4o x ∧ TR W (Old W) (.agg (M6 x)) v := by
 simp only [Value.okWide, Tryz.underlying27] at hval
 obtain ⟨cs, rfl, _, _⟩ := hval
 obtain ⟨fuel, hf⟩ := h
 obtain ⟨ts, ⟨x, rfl, hx⟩, htr, ho⟩ := qJb H enc W true fuel _ _ hf
 exact ⟨x, hx, qDi htr ho⟩
noncomputable def qI2 (os : Os) : World :=
 { World.holding Tryz.prog os ⟨#[], #[], []⟩ with heap := (World.holding Tryz.prog os ⟨#[], #[], []⟩).heap.modify 0 fun
   | .cells _ t frozen => .cells (q6h.flatMap fun x => [Value.int .i64 x.1, Value.int .i64 x.2]).toArray t frozen
   | o => o }
def c0 : Value := .agg #[.int .u8 0, .int .u8 0, .int .u8 0, .int .u8 0, .bool false, .bool false, .int .u8 0, .int .u8 0, .int .u8 0, .int .u8 0, .slice none 0 0, .slice none 0 0]
def d0 {H : Type} : DataW H := .agg [.lit (.int .u8 0), .lit (.int .u8 0), .agg [.lit (.int .u8 0), .lit (.int .u8 0)], .lit (.bool false), .lit (.bool false), .agg [.lit (.int .u8 0), .lit (.int .u8 0), .lit (.int .u8 0), .lit (.int .u8 0)], .nil, .nil]
end Go.Proofs.YthgiocdefejbiaaGreatDoor
namespace Go.Lg
open Go Go.Proofs
def Dv (v : Int) : Int := if v < 2 then v else 2
def Dl (v : Int) : Int := if 3 < v then 2 else v
def Ot (v : Int) : Bool := decide (v ≤ 1)
def q01 (a b : Int) : Bool := decide (Dl a = Dl b ∨ Dl a = 2)
def Us (v : Int) : Int := if v ≤ 1 then 1 - v else 2
def Il (low high : Int) : Int → List Int → Int
 | out, [] => out
 | out, v :: l => if v = low then low else if v ≠ high then Il low high 2 l else Il low high out l
def qDw (a b : Int) : Int := if a = b then 0 else 1
def Z5 : Int → List Int → Int
 | out, [] => out
 | out, v :: l => if v ≤ 1 then Z5 (qDw out v) l else 2
def q6v (s a b : Int) : Int := if s = 0 then Dv a else if s = 1 then Dv b else if a = b then Dv a else 2
def q7a (e d : Int) : Int := if e = 0 then 3 else if e = 1 then Dv d else 2
def q4p (l : List Int) : Bool := l.contains 0 && l.contains 1
def q9v (v : Int) : Bool := decide (Dl v = 2)
def qCz (v : Int) : Bool := decide (v ≠ 3)
def q3v (l : List Int) : Int := match l.findIdx? qCz with
 | none => 3
 | some i => if q4p l = true ∨ l.any q9v = true then 2 else l.getD i 0
def F6 (k : Int) (l : List Int) : Int :=
 if k = 1 then 0 else if k = 2 then 1 else if k = 3 then Dv (l.getD 0 0) else if k = 4 then Us (l.getD 0 0) else
 if k = 5 then Il 0 1 1 l else if k = 6 then Us (Il 0 1 1 l) else if k = 7 then Il 1 0 0 l else if k = 8 then Us (Il 1 0 0 l) else
 if k = 9 then Z5 0 l else if k = 10 then Us (Z5 0 l) else if k = 11 then q6v (l.getD 0 0) (l.getD 1 0) (l.getD 2 0) else
 if k = 12 then q7a (l.getD 0 0) (l.getD 1 0) else if k = 13 then q3v l else 2
def q4q (k : Int) (n : Nat) : Bool := decide ((n : Int) < (Td k).1 ∨ (Td k).2 < (n : Int))
def Vy (k : Int) (l : List Int) : Int := if q4q k l.length = true then 2 else F6 k l
theorem q8D (R : Int → Int → Prop) {k : Int} {l m : List Int} (h1 : k = 1 → R (0) (0)) (h2 : k = 2 → R (1) (1)) (h3 : k = 3 → R (Dv (l.getD 0 0)) (Dv (m.getD 0 0))) (h4 : k = 4 → R (Us (l.getD 0 0)) (Us (m.getD 0 0))) (h5 : k = 5 → R (Il 0 1 1 l) (Il 0 1 1 m)) (h6 : k = 6 → R (Us (Il 0 1 1 l)) (Us (Il 0 1 1 m))) (h7 : k = 7 → R (Il 1 0 0 l) (Il 1 0 0 m)) (h8 : k = 8 → R (Us (Il 1 0 0 l)) (Us (Il 1 0 0 m))) (h9 : k = 9 → R (Z5 0 l) (Z5 0 m)) (h10 : k = 10 → R (Us (Z5 0 l)) (Us (Z5 0 m))) (h11 : k = 11 → R (q6v (l.getD 0 0) (l.getD 1 0) (l.getD 2 0)) (q6v (m.getD 0 0) (m.getD 1 0) (m.getD 2 0))) (h12 : k = 12 → R (q7a (l.getD 0 0) (l.getD 1 0)) (q7a (m.getD 0 0) (m.getD 1 0))) (h13 : k = 13 → R (q3v l) (q3v m)) (h0 : k < 1 ∨ 13 < k → R 2 2) : R (F6 k l) (F6 k m) := by
 by_cases e1 : k = 1
 ·subst e1; exact h1 rfl
 by_cases e2 : k = 2
 ·subst e2; exact h2 rfl
 by_cases e3 : k = 3
 ·subst e3; exact h3 rfl
 by_cases e4 : k = 4
 ·subst e4; exact h4 rfl
 by_cases e5 : k = 5
 ·subst e5; exact h5 rfl
 by_cases e6 : k = 6
 ·subst e6; exact h6 rfl
 by_cases e7 : k = 7
 ·subst e7; exact h7 rfl
 by_cases e8 : k = 8
 ·subst e8; exact h8 rfl
 by_cases e9 : k = 9
 ·subst e9; exact h9 rfl
 by_cases e10 : k = 10
 ·subst e10; exact h10 rfl
 by_cases e11 : k = 11
 ·subst e11; exact h11 rfl
 by_cases e12 : k = 12
 ·subst e12; exact h12 rfl
 by_cases e13 : k = 13
 ·subst e13; exact h13 rfl
 unfold F6
 rw [if_neg e1, if_neg e2, if_neg e3, if_neg e4, if_neg e5, if_neg e6, if_neg e7, if_neg e8, if_neg e9, if_neg e10, if_neg e11, if_neg e12, if_neg e13]
 rw [if_neg e1, if_neg e2, if_neg e3, if_neg e4, if_neg e5, if_neg e6, if_neg e7, if_neg e8, if_neg e9, if_neg e10, if_neg e11, if_neg e12, if_neg e13]
 exact h0 (by omega)
def V4 (v : Int) : Prop := 0 ≤ v ∧ v ≤ 3
theorem q3w {v : Int} (h : V4 v) : V4 (Dv v) := by unfold Dv V4 at *; split <;> omega
theorem q8m {v : Int} (h : V4 v) : V4 (Us v) := by unfold Us V4 at *; split <;> omega
theorem Vz {low high : Int} : ∀ {l : List Int} {out : Int}, out = 2 ∨ out = high → Il low high out l = if low ∈ l then low else if out = high ∧ ∀ v ∈ l, v = high then high else 2
 | [], out, h => by
  simp only [Il, List.not_mem_nil, if_false]
  by_cases ho : out = high
  ·simp [ho]
  ·simp [ho]; omega
 | v :: l, out, h => by
  simp only [Il]
  by_cases h1 : v = low
  ·subst h1; simp
  have h1' : ¬ low = v := fun e => h1 e.symm
  by_cases h2 : v = high
  ·subst h2
   rw [if_neg h1, if_neg (by simp), Vz h]
   simp [h1']
  ·rw [if_neg h1, if_pos h2, Vz (.inl rfl)]
   by_cases hl : low ∈ l
   ·simp [hl]
   ·have : ¬ (out = high ∧ ∀ u ∈ v :: l, u = high) := fun ⟨_, h⟩ => h2 (h v List.mem_cons_self)
    have hlv : ¬ low ∈ v :: l := by simp [h1', hl]
    rw [if_neg hl, if_neg hlv, if_neg this]
    split
    ·rename_i h3; exact h3.1.symm
    ·rfl
theorem qBE : ∀ {l : List Int} {out : Int}, V4 out → (∀ v ∈ l, V4 v) → V4 (Z5 out l)
 | [], out, h, _ => h
 | v :: l, out, h, hl => by
  simp only [Z5]
  split
  ·exact qBE (by unfold qDw; split <;> simp [V4]) fun u hu => hl u (List.mem_cons_of_mem _ hu)
  ·simp [V4]
theorem N1 {l : List Int} (h : ∀ v ∈ l, V4 v) (i : Nat) : V4 (l.getD i 0) := by
 rw [List.getD_eq_getElem?_getD]
 by_cases hi : i < l.length
 ·rw [List.getElem?_eq_getElem hi]; exact h _ (List.getElem_mem hi)
 ·rw [List.getElem?_eq_none (Nat.le_of_not_lt hi)]; simp [V4]
theorem qFK {k : Int} {l : List Int} (h : ∀ v ∈ l, V4 v) : V4 (Vy k l) := by
 have g := N1 h
 have d1 : V4 (Il 0 1 1 l) := by rw [Vz (.inr rfl)]; split; simp [V4]; split <;> simp [V4]
 have d2 : V4 (Il 1 0 0 l) := by rw [Vz (.inr rfl)]; split; simp [V4]; split <;> simp [V4]
 have x := qBE (out := 0) (by simp [V4]) h
 unfold Vy
 by_cases hw : q4q k l.length = true
 ·rw [if_pos hw]; simp [V4]
 rw [if_neg hw]
 refine q8D (fun a _ => V4 a) (l := l) (m := l) (fun _ => by simp [V4]) (fun _ => by simp [V4]) (fun _ => q3w (g 0)) (fun _ => q8m (g 0)) (fun _ => d1) (fun _ => q8m d1) (fun _ => d2) (fun _ => q8m d2) (fun _ => x) (fun _ => q8m x) (fun _ => ?_) (fun _ => ?_) (fun _ => ?_) (fun _ => by simp [V4])
 ·unfold q6v; split
  ·exact q3w (g 1)
  split
  ·exact q3w (g 2)
  split
  ·exact q3w (g 1)
  ·simp [V4]
 ·unfold q7a; split
  ·simp [V4]
  split
  ·exact q3w (g 1)
  ·simp [V4]
 ·unfold q3v; split
  ·simp [V4]
  split
  ·simp [V4]
  ·exact g _
def N2 (a b : Int) : Prop := a = b ∨ a = 2
def Qk (l m : List Int) : Prop := l.length = m.length ∧ ∀ i, N2 (l.getD i 0) (m.getD i 0)
theorem N2.refl (a : Int) : N2 a a := .inl rfl
theorem Fj {a b : Int} (h : N2 a b) : N2 (Dv a) (Dv b) := by
 rcases h with rfl | rfl
 ·exact .inl rfl
 ·exact .inr (by simp [Dv])
theorem q23 {a b : Int} (h : N2 a b) : N2 (Us a) (Us b) := by
 rcases h with rfl | rfl
 ·exact .inl rfl
 ·exact .inr (by simp [Us])
theorem Qk.cons {a b : Int} {l m : List Int} (h : Qk (a :: l) (b :: m)) : N2 a b ∧ Qk l m :=
 ⟨by simpa using h.2 0, by simpa using h.1, fun i => by simpa using h.2 (i + 1)⟩
theorem V7 {low high : Int} : ∀ {l m : List Int} {o p : Int}, Qk l m → N2 o p → o = 2 ∨ o = high → p = 2 ∨ p = high → low ≠ 2 → high ≠ 2 → N2 (Il low high o l) (Il low high p m)
 | [], [], o, p, _, h, _, _, _, _ => h
 | [], _ :: _, _, _, h, _, _, _, _, _ => by have := h.1; simp at this
 | _ :: _, [], _, _, h, _, _, _, _, _ => by have := h.1; simp at this
 | a :: l, b :: m, o, p, h, hop, h1, h2, hl, hh => by
  obtain ⟨hab, hlm⟩ := h.cons
  simp only [Il]
  rcases hab with rfl | rfl
  ·split
   ·exact .inl rfl
   split
   ·exact V7 hlm (.inl rfl) (.inl rfl) (.inl rfl) hl hh
   ·exact V7 hlm hop h1 h2 hl hh
  ·have e1 : ¬ (2 : Int) = low := fun e => hl e.symm
   have e2 : ¬ (2 : Int) = high := fun e => hh e.symm
   rw [if_neg e1, if_pos e2]
   split
   ·rename_i hb
    rw [Vz (.inl rfl)]
    split
    ·exact .inl rfl
    ·rename_i hm
     rw [if_neg (by rintro ⟨he, _⟩; exact e2 he)]
     exact .inr rfl
   split
   ·exact V7 hlm (.inl rfl) (.inl rfl) (.inl rfl) hl hh
   ·exact V7 hlm (.inr rfl) (.inl rfl) h2 hl hh
theorem q8E : ∀ {l m : List Int} {o : Int}, Qk l m → N2 (Z5 o l) (Z5 o m)
 | [], [], o, _ => .inl rfl
 | [], _ :: _, _, h => by have := h.1; simp at this
 | _ :: _, [], _, h => by have := h.1; simp at this
 | a :: l, b :: m, o, h => by
  obtain ⟨hab, hlm⟩ := h.cons
  simp only [Z5]
  rcases hab with rfl | rfl
  ·split
   ·exact q8E hlm
   ·exact .inl rfl
  ·exact .inr (by simp)
theorem Qk.eq : ∀ {l m : List Int}, Qk l m → (2 : Int) ∉ l → l = m
 | [], [], _, _ => rfl
 | [], _ :: _, h, _ => by have := h.1; simp at this
 | _ :: _, [], h, _ => by have := h.1; simp at this
 | a :: l, b :: m, h, h2 => by
  obtain ⟨hab, hlm⟩ := h.cons
  rcases hab with rfl | rfl
  ·rw [Qk.eq hlm fun hm => h2 (List.mem_cons_of_mem _ hm)]
  ·exact absurd List.mem_cons_self h2
theorem qD0 {l m : List Int} (h : Qk l m) : N2 (q3v l) (q3v m) := by
 by_cases h2 : (2 : Int) ∈ l
 ·right
  unfold q3v
  split
  ·rename_i hn
   rw [List.findIdx?_eq_none_iff] at hn
   have := hn 2 h2
   simp [qCz] at this
  ·have : l.any q9v = true := List.any_eq_true.2 ⟨2, h2, by simp [q9v, Dl]⟩
   rw [if_pos (.inr this)]
 ·rw [h.eq h2]; exact .inl rfl
theorem qBF {k : Int} {l m : List Int} (h : Qk l m) : N2 (Vy k l) (Vy k m) := by
 have d1 : N2 (Il 0 1 1 l) (Il 0 1 1 m) := V7 h (.inl rfl) (.inr rfl) (.inr rfl) (by omega) (by omega)
 have d2 : N2 (Il 1 0 0 l) (Il 1 0 0 m) := V7 h (.inl rfl) (.inr rfl) (.inr rfl) (by omega) (by omega)
 have x := q8E (o := 0) h
 have g := h.2
 unfold Vy
 rw [h.1]
 by_cases hw : q4q k m.length = true
 ·rw [if_pos hw, if_pos hw]; exact .inl rfl
 rw [if_neg hw, if_neg hw]
 refine q8D N2 (fun _ => .inl rfl) (fun _ => .inl rfl) (fun _ => Fj (g 0)) (fun _ => q23 (g 0)) (fun _ => d1) (fun _ => q23 d1) (fun _ => d2) (fun _ => q23 d2) (fun _ => x) (fun _ => q23 x) (fun _ => ?_) (fun _ => ?_) (fun _ => qD0 h) (fun _ => .inl rfl)
 ·have g0 := g 0; have g1 := g 1; have g2 := g 2
  generalize l.getD 0 0 = a at *; generalize l.getD 1 0 = b at *; generalize l.getD 2 0 = c at *
  generalize m.getD 0 0 = a' at *; generalize m.getD 1 0 = b' at *; generalize m.getD 2 0 = c' at *
  unfold q6v
  rcases g0 with rfl | rfl
  ·split
   ·exact Fj g1
   split
   ·exact Fj g2
   split
   ·rename_i hbc; subst hbc
    rcases g1 with rfl | rfl
    ·rcases g2 with rfl | rfl
     ·simp [N2.refl]
     ·exact .inr (by simp [Dv])
    ·exact .inr (by simp [Dv])
   ·exact .inr rfl
  ·rw [if_neg (by omega), if_neg (by omega)]
   split
   ·rename_i hbc; subst hbc
    rcases g1 with rfl | rfl
    ·rcases g2 with rfl | rfl
     ·left; simp
     ·exact .inr (by simp [Dv])
    ·exact .inr (by simp [Dv])
   ·exact .inr rfl
 ·have g0 := g 0; have g1 := g 1
  generalize l.getD 0 0 = a at *; generalize l.getD 1 0 = b at *
  generalize m.getD 0 0 = a' at *; generalize m.getD 1 0 = b' at *
  unfold q7a
  rcases g0 with rfl | rfl
  ·split
   ·exact .inl rfl
   split
   ·exact Fj g1
   ·exact .inl rfl
  ·exact .inr (by simp)
def Ql (i : Nat) (r : Lj) : Nat := r.countP fun p => decide (p.1 = (i : Int))
theorem qDx {i : Nat} {r q : Lj} : Ql i (r ++ q) = Ql i r + Ql i q := by simp [Ql]
theorem qBG {rows : List Lj} {n m i : Nat} {p : Int × Int} (hn : n < rows.length) : Ql i ((Hi rows n p).getD m []) = Ql i (rows.getD m []) + if m = n ∧ p.1 = (i : Int) then 1 else 0 := by
 unfold Hi
 simp only [List.getD_eq_getElem?_getD, List.getElem?_set]
 by_cases h : n = m
 ·subst h
  simp only [hn, if_true, Option.getD_some, qDx, true_and]
  congr 1
  by_cases h2 : p.1 = (i : Int) <;> simp [Ql, h2]
 ·have h' : ¬ m = n := fun e => h e.symm
  simp [h, h']
theorem q5O (c : B1) (j i m : Nat) : ∀ (l : List Int) (k : Nat) (rows : List Lj), rows.length = c.nodes.l.length → (∀ p ∈ l, 0 ≤ p ∧ p < c.nodes.l.length) → (J9 c j l k rows).length = c.nodes.l.length ∧ Ql i ((J9 c j l k rows).getD m []) = Ql i (rows.getD m []) + if j = i then l.count (m : Int) else 0
 | [], k, rows, hl, _ => ⟨hl, by simp [J9]⟩
 | n :: l, k, rows, hl, hp => by
  have hn := hp n List.mem_cons_self
  have ho : Oo c n = false := by simp [Oo]; omega
  simp only [J9, ho, Bool.false_eq_true, if_false]
  obtain ⟨h1, h2⟩ := q5O c j i m l (k + 1) (Hi rows n.toNat (j, k)) (by rw [q35]; exact hl) (fun p h => hp p (List.mem_cons_of_mem _ h))
  refine ⟨h1, ?_⟩
  rw [h2, qBG (by omega)]
  by_cases hji : j = i
  ·subst hji
   simp only [and_true, if_true, List.count_cons]
   by_cases hm : (m : Int) = n
   ·have h5 : m = n.toNat := by omega
    have h6 : (n == (m : Int)) = true := by rw [hm]; simp
    rw [if_pos h5, h6]
    simp only [if_true]; omega
   ·have h5 : ¬ m = n.toNat := by omega
    have h6 : (n == (m : Int)) = false := by simp; omega
    rw [if_neg h5, h6]
    simp only [Bool.false_eq_true, if_false]; omega
  ·have : ¬ ((j : Int) = i) := by omega
   simp [hji, this]
theorem q3x (c : B1) (i m : Nat) : ∀ (l : List Nd) (s : Nat) (rows : List Lj), rows.length = c.nodes.l.length → (∀ x ∈ l, ∀ p ∈ x.inn.l, 0 ≤ p ∧ p < c.nodes.l.length) →
  Ql i ((Gs c l s rows).getD m []) = Ql i (rows.getD m []) + if s ≤ i then ((l.map fun x => x.inn.l.count (m : Int)).getD (i - s) 0) else 0
 | [], s, rows, hl, _ => by simp [Gs]
 | x :: l, s, rows, hl, hp => by
  obtain ⟨h1, h2⟩ := q5O c s i m x.inn.l 0 rows hl (hp x List.mem_cons_self)
  simp only [Gs]
  rw [q3x c i m l (s + 1) _ h1 (fun y hy => hp y (List.mem_cons_of_mem _ hy)), h2]
  by_cases hsi : s = i
  ·subst hsi
   have : ¬ s + 1 ≤ s := by omega
   simp [this]
  ·by_cases hlt : s ≤ i
   ·have e : i - s = (i - (s + 1)) + 1 := by omega
    have h3 : s + 1 ≤ i := by omega
    simp [hsi, hlt, h3, e]
   ·have h3 : ¬ s + 1 ≤ i := by omega
    simp [hsi, hlt, h3]
def Hl (c : B1) (i : Nat) : List Int := (c.nodes.l.getD i Nd.d).inn.l
theorem q4r (c : B1) (hp : ∀ x ∈ c.nodes.l, ∀ p ∈ x.inn.l, 0 ≤ p ∧ p < c.nodes.l.length) (i m : Nat) (hi : i < c.nodes.l.length) : Ql i (G2 c m) = (Hl c i).count (m : Int) := by
 unfold G2 Em
 rw [q3x c i m c.nodes.l 0 _ (by simp) hp]
 have h0 : Ql i ((List.replicate c.nodes.l.length ([] : Lj)).getD m []) = 0 := by
  simp only [List.getD_eq_getElem?_getD, List.getElem?_replicate]
  split <;> rfl
 rw [h0]
 simp [Hl, hi]
theorem qC5 (c : B1) {i : Nat} (hi : i < c.nodes.l.length) : (c.nodes.l.map Df).getD i 0 = if Dt (Ar c i) then ((Hl c i).length : Int) else 0 := by
 simp [Ar, Hl, Df, hi]
theorem q4s {N M : Nat} {c : B1} {n : Nat} : ∀ {r : Lj} {s : LS}, s.left.length = N → (∀ p ∈ r, ∃ i : Nat, i < N ∧ p.1 = i) → (∀ i : Nat, i < N → s.left.getD i 0 ≤ 0 → (i : Int) ∈ s.rdy) →
  (∃ e, (r.foldl (Du c n) s).rdy = s.rdy ++ e) ∧ (r.foldl (Du c n) s).left.length = N ∧ (∀ i : Nat, i < N → (r.foldl (Du c n) s).left.getD i 0 = s.left.getD i 0 - if Dt (Ar c i) then (Ql i r : Int) else 0) ∧ (∀ i : Nat, i < N → (r.foldl (Du c n) s).left.getD i 0 ≤ 0 → (i : Int) ∈ (r.foldl (Du c n) s).rdy)
 | [], s, hl, _, hb => ⟨⟨[], by simp⟩, hl, fun i hi => by simp [Ql], hb⟩
 | (p1, p2) :: r, s, hl, hr, hb => by
  obtain ⟨j, hj, he⟩ := hr (p1, p2) List.mem_cons_self
  simp only at he; subst he
  have key : (∃ e, (Du c n s (j, p2)).rdy = s.rdy ++ e) ∧ (Du c n s (j, p2)).left.length = N ∧ (∀ i : Nat, i < N → (Du c n s (j, p2)).left.getD i 0 = s.left.getD i 0 - if Dt (Ar c i) then (if j = i then 1 else 0 : Int) else 0) ∧ (∀ i : Nat, i < N → (Du c n s (j, p2)).left.getD i 0 ≤ 0 → (i : Int) ∈ (Du c n s (j, p2)).rdy) := by
   unfold Du
   simp only [Int.toNat_natCast]
   by_cases hc : Dt (Ar c j) = true
   ·simp only [hc, if_true]
    refine ⟨?_, by simp [hl], fun i hi => ?_, fun i hi h0 => ?_⟩
    ·split
     ·exact ⟨_, rfl⟩
     ·exact ⟨[], by simp⟩
    ·rw [Hk (by omega)]
     by_cases hij : i = j
     ·subst hij; simp [hc]
     ·have : ¬ j = i := fun e => hij e.symm
      simp [hij, this]
    ·rw [Hk (by omega)] at h0
     by_cases hij : i = j
     ·subst hij
      simp only [if_true] at h0
      by_cases h1 : s.left.getD i 0 - 1 = 0
      ·rw [if_pos h1]; simp
      ·rw [if_neg h1]
       exact hb i hi (by omega)
     ·simp only [hij, if_false] at h0
      have := hb i hi h0
      split
      ·exact List.mem_append_left _ this
      ·exact this
   ·simp only [hc]
    refine ⟨⟨[], by simp⟩, hl, fun i hi => ?_, hb⟩
    by_cases hij : j = i
    ·subst hij; simp [hc]
    ·simp [hij]
  obtain ⟨⟨e1, h1⟩, h2, h3, h4⟩ := key
  obtain ⟨⟨e2, g1⟩, g2, g3, g4⟩ := q4s (M := M) (n := n) (r := r) h2 (fun q hq => hr q (List.mem_cons_of_mem _ hq)) h4
  simp only [List.foldl_cons]
  refine ⟨⟨e1 ++ e2, by rw [g1, h1, List.append_assoc]⟩, g2, fun i hi => ?_, g4⟩
  rw [g3 i hi, h3 i hi]
  by_cases hc : Dt (Ar c i) = true
  ·simp only [hc, if_true]
   have : Ql i ((↑j, p2) :: r) = Ql i r + if j = i then 1 else 0 := by
    by_cases hij : j = i
    ·subst hij; simp [Ql]
    ·have : ¬ ((j : Int) = i) := by omega
     simp [Ql, hij, this]
   rw [this]
   split <;> omega
  ·simp [hc]
structure JI (c : B1) (d : Nat) (s : LS) : Prop where
 li : ∃ M, LI c.nodes.l.length M s
 le : d ≤ s.rdy.length
 a : ∀ i : Nat, i < c.nodes.l.length → s.left.getD i 0 = (c.nodes.l.map Df).getD i 0 - if Dt (Ar c i) then (((s.rdy.take d).map fun x => (Hl c i).count x).sum : Int) else 0
 b : ∀ i : Nat, i < c.nodes.l.length → s.left.getD i 0 ≤ 0 → (i : Int) ∈ s.rdy
theorem JI.next {c : B1} (hp : ∀ x ∈ c.nodes.l, ∀ p ∈ x.inn.l, 0 ≤ p ∧ p < c.nodes.l.length) {d : Nat} {s : LS} (h : JI c d s) (hd : d < s.rdy.length) : JI c (d + 1) ((G2 c (s.rdy.getD d 0).toNat).foldl (Du c (s.rdy.getD d 0).toNat) s) := by
 obtain ⟨M, hli⟩ := h.li
 have hg : s.rdy.getD d 0 = s.rdy[d] := by simp [hd]
 rw [hg]
 obtain ⟨n, hn, he, _⟩ := hli.rd _ (List.getElem_mem hd)
 rw [he]
 simp only [Int.toNat_natCast]
 have hr : ∀ p ∈ G2 c n, ∃ i : Nat, i < c.nodes.l.length ∧ p.1 = i := by
  intro p hpp
  have hl := Xb c
  have e : G2 c n = (Em c)[n]'(by omega) := by simp [G2, List.getD, List.getElem?_eq_getElem (show n < (Em c).length by omega)]
  rw [e] at hpp
  exact q37 c _ (List.getElem_mem _) p hpp
 obtain ⟨⟨e, h1⟩, h2, h3, h4⟩ := q4s (M := M) (c := c) (n := n) (r := G2 c n) hli.ll hr h.b
 refine ⟨⟨_, hli.fold hr⟩, by rw [h1]; simp; omega, fun i hi => ?_, h4⟩
 rw [h3 i hi, h.a i hi, h1]
 by_cases hc : Dt (Ar c i) = true
 ·simp only [hc, if_true]
  have ht : (s.rdy ++ e).take (d + 1) = s.rdy.take d ++ [(n : Int)] := by
   rw [List.take_append_of_le_length (by omega), List.take_add_one, List.getElem?_eq_getElem hd, he]
   rfl
  rw [ht, q4r c hp i n hi]
  simp
  omega
 ·simp [hc]
theorem q6w {c : B1} (hp : ∀ x ∈ c.nodes.l, ∀ p ∈ x.inn.l, 0 ≤ p ∧ p < c.nodes.l.length) : ∀ (f d : Nat) (s : LS), JI c d s → c.nodes.l.length < f + d → JI c (Kv c f d s).1 (Kv c f d s).2 ∧ (Kv c f d s).2.rdy.length ≤ (Kv c f d s).1
 | 0, d, s, h, hf => by
  obtain ⟨M, hli⟩ := h.li
  have := hli.len
  exact ⟨h, by simp only [Kv]; omega⟩
 | f + 1, d, s, h, hf => by
  simp only [Kv]
  split
  ·rename_i hd
   exact q6w hp f (d + 1) _ (h.next hp hd) (by omega)
  ·exact ⟨h, by simp only; omega⟩
theorem q8F : ∀ (L R : List Int), (∀ p ∈ L, p ∈ R) → L.length ≤ (R.map fun x => L.count x).sum
 | [], R, _ => by simp
 | p :: L, R, h => by
  have ih := q8F L R fun q hq => h q (List.mem_cons_of_mem _ hq)
  have hpR := h p List.mem_cons_self
  have key : ∀ R : List Int, (R.map fun x => (p :: L).count x).sum = (R.map fun x => L.count x).sum + R.count p := by
   intro R
   induction R with
   | nil => rfl
   | cons a R ihR =>
    simp only [List.map_cons, List.sum_cons]
    rw [ihR, List.count_cons, List.count_cons]
    by_cases hpa : p = a
    ·subst hpa; simp only [BEq.rfl, if_true]; omega
    ·have h1 : (p == a) = false := by simpa using hpa
     have h2 : (a == p) = false := by simpa using fun e => hpa e.symm
     rw [h1, h2]; simp only [Bool.false_eq_true, if_false]; omega
  rw [key]
  have := List.count_pos_iff.2 hpR
  simp only [List.length_cons]; omega
theorem q14 : ∀ (l : List Nd) (s i : Nat), s ≤ i → i < s + l.length → (l.map Df).getD (i - s) 0 ≤ 0 → (i : Int) ∈ Dj l s
 | [], s, i, h1, h2, _ => by simp at h2; omega
 | x :: l, s, i, h1, h2, h3 => by
  simp only [List.length_cons] at h2
  by_cases hsi : i = s
  ·subst hsi
   simp only [Nat.sub_self, List.map_cons, List.getD_cons_zero] at h3
   have h4 : 0 ≤ Df x := by unfold Df; split <;> omega
   have h5 : Df x = 0 := by omega
   simp [Dj, h5]
  ·have e : i - s = (i - (s + 1)) + 1 := by omega
   rw [e, List.map_cons, List.getD_cons_succ] at h3
   have := q14 l (s + 1) i (by omega) (by omega) h3
   simp only [Dj]
   split
   ·exact List.mem_cons_of_mem _ this
   ·exact this
theorem q9w (c : B1) (h16 : ∀ x ∈ c.nodes.l, x.inn.l.length ≤ 16) (hp : ∀ x ∈ c.nodes.l, ∀ p ∈ x.inn.l, 0 ≤ p ∧ p < c.nodes.l.length) (ht : ∀ i : Nat, i < c.nodes.l.length → Dt (Ar c i) = true → ∀ p ∈ Hl c i, p < i) : ¬ (Me c).1 < c.nodes.l.length := by
 have h0 : JI c 0 (Hj c) := by
  refine ⟨⟨0, ?_⟩, by simp, fun i hi => ?_, fun i hi h => ?_⟩
  ·obtain ⟨r1, r2⟩ := q38 c.nodes.l 0
   refine ⟨by simp [Hj], by simp [Hj], ?_, r2, fun i => ?_, fun i => ?_⟩
   ·intro j hj
    obtain ⟨a, _, h2, h3, h4⟩ := r1 j hj
    exact ⟨a, by omega, h3, by simp only [Hj]; simp only [Nat.sub_zero] at h4; omega⟩
   ·simp only [Hj, List.getD_eq_getElem?_getD, List.getElem?_replicate]
    split <;> simp
   ·simp only [Hj]
    by_cases hi : i < c.nodes.l.length
    ·have := h16 _ (List.getElem_mem hi)
     simp [hi, Df]
     split <;> omega
    ·simp [hi]
  ·simp [Hj]
  ·simp only [Hj] at h
   exact q14 c.nodes.l 0 i (by omega) (by omega) (by simpa using h)
 obtain ⟨hJ, hle⟩ := q6w hp (c.nodes.l.length + 1) 0 (Hj c) h0 (by omega)
 show ¬ (Kv c (c.nodes.l.length + 1) 0 (Hj c)).1 < c.nodes.l.length
 generalize (Kv c (c.nodes.l.length + 1) 0 (Hj c)).1 = d at *
 generalize (Kv c (c.nodes.l.length + 1) 0 (Hj c)).2 = s at *
 have all : ∀ i : Nat, i < c.nodes.l.length → (i : Int) ∈ s.rdy := by
  intro i
  induction i using Nat.strongRecOn with
  | ind i ih =>
   intro hi
   refine hJ.b i hi ?_
   rw [hJ.a i hi, qC5 c hi]
   by_cases hc : Dt (Ar c i) = true
   ·simp only [hc, if_true]
    rw [List.take_of_length_le hle]
    have hm : Hl c i ∈ c.nodes.l.map fun x => x.inn.l := by
     simp only [Hl, List.getD_eq_getElem?_getD, List.getElem?_eq_getElem hi, Option.getD_some]
     exact List.mem_map_of_mem (List.getElem_mem hi)
    obtain ⟨y, hy, hye⟩ := List.mem_map.1 hm
    have := q8F (Hl c i) s.rdy fun p hpp => by
     have h1 := ht i hi hc p hpp
     have h2 := (hp y hy p (by rw [hye]; exact hpp)).1
     obtain ⟨j, rfl⟩ : ∃ j : Nat, p = j := ⟨p.toNat, by omega⟩
     exact ih j (by omega) (by omega)
    omega
   ·simp [hc]
 have hnd : ((List.range c.nodes.l.length).map fun i : Nat => (i : Int)).Nodup := by
  rw [List.nodup_iff_pairwise_ne, List.pairwise_map]
  exact (List.nodup_iff_pairwise_ne.1 List.nodup_range).imp fun h e => h (by omega)
 have hsub : ((List.range c.nodes.l.length).map fun i : Nat => (i : Int)) ⊆ s.rdy := by
  intro x hx
  obtain ⟨i, hi, rfl⟩ := List.mem_map.1 hx
  exact all i (List.mem_range.1 hi)
 have := List.Nodup.length_le_of_subset hnd hsub
 simp at this
 omega
theorem q15 (p : Int) (L : List Int) : ∀ R : List Int, (R.map fun x => (p :: L).count x).sum = (R.map fun x => L.count x).sum + R.count p
 | [] => rfl
 | a :: R => by
  simp only [List.map_cons, List.sum_cons]
  rw [q15 p L R, List.count_cons, List.count_cons]
  by_cases hpa : p = a
  ·subst hpa; simp only [BEq.rfl, if_true]; omega
  ·have h1 : (p == a) = false := by simpa using hpa
   have h2 : (a == p) = false := by simpa using fun e => hpa e.symm
   rw [h1, h2]; simp only [Bool.false_eq_true, if_false]; omega
theorem q3y : ∀ (L R : List Int), R.Nodup → (R.map fun x => L.count x).sum ≤ L.length
 | [], R, _ => by
  have : ∀ R : List Int, (R.map fun x => ([] : List Int).count x).sum = 0 := by
   intro R
   induction R with
   | nil => rfl
   | cons a R ih => rw [List.map_cons, List.sum_cons, ih, List.count_nil]
  rw [this]; omega
 | p :: L, R, h => by
  have ih := q3y L R h
  have h1 := List.nodup_iff_count.1 h p
  rw [q15]
  simp only [List.length_cons]; omega
theorem qDy {N n : Nat} {c : B1} : ∀ {r : Lj} {s : LS}, s.out.length = N → s.left.length = N → (∀ p ∈ r, ∃ i : Nat, i < N ∧ p.1 = i) → (∀ i : Nat, i < N → Dt (Ar c i) = true → (Ql i r : Int) ≤ s.left.getD i 0) → s.left.getD n 0 ≤ 0 →
  (∀ i : Nat, i < N → s.left.getD i 0 ≤ 0 → (r.foldl (Du c n) s).out.getD i 0 = s.out.getD i 0) ∧ (∀ i : Nat, i < N → s.out.getD i 0 ≤ (r.foldl (Du c n) s).out.getD i 0) ∧ (∀ i : Nat, i < N → Dt (Ar c i) = true → 0 < Ql i r → s.out.getD n 0 + 1 ≤ (r.foldl (Du c n) s).out.getD i 0)
 | [], s, ho, hl, _, _, _ => ⟨fun _ _ _ => rfl, fun _ _ => Int.le_refl _, fun i _ _ h => by simp [Ql] at h⟩
 | (p1, p2) :: r, s, ho, hl, hr, hc, hn => by
  obtain ⟨j, hj, he⟩ := hr (p1, p2) List.mem_cons_self
  simp only at he; subst he
  have cnt : ∀ i : Nat, Ql i ((↑j, p2) :: r) = Ql i r + if j = i then 1 else 0 := fun i => by
   by_cases hij : j = i
   ·subst hij; simp [Ql]
   ·have : ¬ ((j : Int) = i) := by omega
    simp [Ql, hij, this]
  simp only [List.foldl_cons]
  by_cases hcj : Dt (Ar c j) = true
  case neg =>
   have hs : Du c n s (↑j, p2) = s := by unfold Du; simp [hcj]
   rw [hs]
   obtain ⟨a1, a2, a3⟩ := qDy (n := n) (c := c) (r := r) ho hl (fun p hp => hr p (List.mem_cons_of_mem _ hp)) (fun i hi hci => by have := hc i hi hci; rw [cnt] at this; omega) hn
   refine ⟨a1, a2, fun i hi hci h => a3 i hi hci ?_⟩
   rw [cnt] at h
   have : ¬ j = i := fun e => hcj (e ▸ hci)
   simpa [this] using h
  have hj1 := hc j hj hcj
  rw [cnt, if_pos rfl] at hj1
  have hnj : ¬ n = j := fun e => by subst e; omega
  have so : ∀ i : Nat, (Du c n s (↑j, p2)).out.getD i 0 = if i = j then max (s.out.getD j 0) (s.out.getD n 0 + 1) else s.out.getD i 0 := fun i => by
   unfold Du
   simp only [Int.toNat_natCast, hcj, if_true]
   rw [Hk (by omega)]
  have sl : ∀ i : Nat, (Du c n s (↑j, p2)).left.getD i 0 = if i = j then s.left.getD j 0 - 1 else s.left.getD i 0 := fun i => by
   unfold Du
   simp only [Int.toNat_natCast, hcj, if_true]
   rw [Hk (by omega)]
  have lo : (Du c n s (↑j, p2)).out.length = N := by unfold Du; simp [hcj, ho]
  have ll : (Du c n s (↑j, p2)).left.length = N := by unfold Du; simp [hcj, hl]
  obtain ⟨a1, a2, a3⟩ := qDy (n := n) (c := c) (r := r) lo ll (fun p hp => hr p (List.mem_cons_of_mem _ hp)) (fun i hi hci => by
   have := hc i hi hci
   rw [cnt] at this
   rw [sl]
   by_cases hij : i = j
   ·subst hij; simp only [if_true] at this ⊢; omega
   ·have h' : ¬ j = i := fun e => hij e.symm
    simp only [hij, h', if_false] at this ⊢; omega) (by rw [sl, if_neg hnj]; exact hn)
  refine ⟨fun i hi h0 => ?_, fun i hi => ?_, fun i hi hci h => ?_⟩
  ·have hij : ¬ i = j := fun e => by subst e; omega
   rw [a1 i hi (by rw [sl, if_neg hij]; exact h0), so, if_neg hij]
  ·have := a2 i hi
   rw [so] at this
   split at this
   ·rename_i e; subst e; omega
   ·exact this
  ·by_cases hij : i = j
   ·subst hij
    have := a2 i hi
    rw [so, if_pos rfl] at this
    omega
   ·have h' : ¬ j = i := fun e => hij e.symm
    rw [cnt, if_neg h'] at h
    have := a3 i hi hci (by omega)
    rw [so, if_neg hnj] at this
    exact this
def KI (c : B1) (d : Nat) (s : LS) : Prop := ∀ i : Nat, i < c.nodes.l.length → Dt (Ar c i) = true → ∀ q : Nat, (q : Int) ∈ Hl c i → (q : Int) ∈ s.rdy.take d → s.out.getD q 0 + 1 ≤ s.out.getD i 0
theorem KI.next {c : B1} (hp : ∀ x ∈ c.nodes.l, ∀ p ∈ x.inn.l, 0 ≤ p ∧ p < c.nodes.l.length) {d : Nat} {s : LS} (h : JI c d s) (hk : KI c d s) (hd : d < s.rdy.length) : KI c (d + 1) ((G2 c (s.rdy.getD d 0).toNat).foldl (Du c (s.rdy.getD d 0).toNat) s) := by
 obtain ⟨M, hli⟩ := h.li
 have hg : s.rdy.getD d 0 = s.rdy[d] := by simp [hd]
 rw [hg]
 obtain ⟨n, hn, he, hn0⟩ := hli.rd _ (List.getElem_mem hd)
 rw [he]
 simp only [Int.toNat_natCast]
 have hr : ∀ p ∈ G2 c n, ∃ i : Nat, i < c.nodes.l.length ∧ p.1 = i := by
  intro p hpp
  have hl := Xb c
  have e : G2 c n = (Em c)[n]'(by omega) := by simp [G2, List.getD, List.getElem?_eq_getElem (show n < (Em c).length by omega)]
  rw [e] at hpp
  exact q37 c _ (List.getElem_mem _) p hpp
 have htk : s.rdy.take (d + 1) = s.rdy.take d ++ [(n : Int)] := by
  rw [List.take_add_one, List.getElem?_eq_getElem hd, he]; rfl
 have hnd : (s.rdy.take (d + 1)).Nodup := hli.nd.sublist (List.take_sublist _ _)
 have hcnt : ∀ i : Nat, i < c.nodes.l.length → Dt (Ar c i) = true → (Ql i (G2 c n) : Int) ≤ s.left.getD i 0 := by
  intro i hi hci
  have := q3y (Hl c i) _ hnd
  rw [htk] at this
  simp only [List.map_append, List.sum_append, List.map_cons, List.map_nil, List.sum_cons, List.sum_nil] at this
  rw [h.a i hi, qC5 c hi, q4r c hp i n hi]
  simp only [hci, if_true]
  omega
 obtain ⟨⟨e, h1⟩, _, _, _⟩ := q4s (M := M) (c := c) (n := n) (r := G2 c n) hli.ll hr h.b
 obtain ⟨a1, a2, a3⟩ := qDy (n := n) (c := c) hli.lo hli.ll hr hcnt hn0
 intro i hi hci q hq hqt
 rw [h1, List.take_append_of_le_length (by omega), htk] at hqt
 rcases List.mem_append.1 hqt with hqt | hqt
 ·obtain ⟨q', hq1, hq2, hq3⟩ := hli.rd _ (List.mem_of_mem_take hqt)
  have : q = q' := by omega
  subst this
  rw [a1 q hq1 hq3]
  have h4 := hk i hi hci q hq hqt
  have h5 := a2 i hi
  omega
 ·have : q = n := by simp at hqt; omega
  subst this
  rw [a1 q hn hn0]
  refine a3 i hi hci ?_
  rw [q4r c hp i q hi]
  exact List.count_pos_iff.2 hq
theorem qC6 {c : B1} (hp : ∀ x ∈ c.nodes.l, ∀ p ∈ x.inn.l, 0 ≤ p ∧ p < c.nodes.l.length) : ∀ (f d : Nat) (s : LS), JI c d s → KI c d s → KI c (Kv c f d s).1 (Kv c f d s).2
 | 0, d, s, _, hk => hk
 | f + 1, d, s, h, hk => by
  simp only [Kv]
  split
  ·rename_i hd
   exact qC6 hp f (d + 1) _ (h.next hp hd) (hk.next hp h hd)
  ·exact hk
theorem qFL (c : B1) (h16 : ∀ x ∈ c.nodes.l, x.inn.l.length ≤ 16) : JI c 0 (Hj c) := by
 refine ⟨⟨0, q9m c h16⟩, by simp, fun i hi => ?_, fun i hi h => ?_⟩
 ·simp [Hj]
 ·simp only [Hj] at h
  exact q14 c.nodes.l 0 i (by omega) (by omega) (by simpa using h)
theorem q9x {c : B1} (h : Dp c = 0) : ∀ x ∈ c.nodes.l, ∀ p ∈ x.inn.l, 0 ≤ p ∧ p < c.nodes.l.length := by
 intro x hx
 have h4 := (Hw h).2.2.1 x hx
 unfold Di at h4
 split at h4
 ·cases h4
 split at h4
 ·cases h4
 split at h4
 ·cases h4
 rename_i h6
 exact q20 (by simpa using h6)
def Lp (c : B1) (i : Nat) : Int := (Me c).2.out.getD i 0
theorem Ny {c : B1} (h : Ew c = 0) : Dp c = 0 ∧ ¬ (Me c).1 < c.nodes.l.length := by
 unfold Ew at h
 split at h
 ·rename_i h1; exact absurd h h1
 split at h
 ·cases h
 ·rename_i h1 h2; exact ⟨by simpa using h1, h2⟩
theorem qBH {c : B1} (h : Ew c = 0) : (Me c).2.out.length = c.nodes.l.length ∧ (∀ i, 0 ≤ Lp c i) ∧ ∀ i : Nat, i < c.nodes.l.length → Dt (Ar c i) = true → ∀ p ∈ Hl c i, (0 ≤ p ∧ p < c.nodes.l.length) ∧ Lp c p.toNat < Lp c i := by
 obtain ⟨hs, hd⟩ := Ny h
 have hp := q9x hs
 have h16 := (Hw hs).2.1
 have h0 := qFL c h16
 obtain ⟨hJ, hle⟩ := q6w hp (c.nodes.l.length + 1) 0 (Hj c) h0 (by omega)
 have hK := qC6 hp (c.nodes.l.length + 1) 0 (Hj c) h0 (fun i _ _ q _ hq => by simp at hq)
 obtain ⟨M, hli⟩ := hJ.li
 refine ⟨hli.lo, fun i => (hli.bo i).1, fun i hi hc p hpi => ?_⟩
 have hin : 0 ≤ p ∧ p < c.nodes.l.length := by
  simp only [Hl, List.getD_eq_getElem?_getD, List.getElem?_eq_getElem hi, Option.getD_some] at hpi
  exact hp _ (List.getElem_mem hi) p hpi
 refine ⟨hin, ?_⟩
 have hpe : p = (p.toNat : Int) := by omega
 have hall : p ∈ (Me c).2.rdy.take (Me c).1 := by
  have hle' : (Me c).2.rdy.length ≤ (Me c).1 := hle
  rw [List.take_of_length_le hle']
  by_cases hm : p ∈ (Me c).2.rdy
  ·exact hm
  exfalso
  have := q87 (N := c.nodes.l.length) (List.nodup_cons.2 ⟨hm, hli.nd⟩) fun j hj => by
   rcases List.mem_cons.1 hj with rfl | hj
   ·exact ⟨j.toNat, by omega, by omega⟩
   ·obtain ⟨i, h1, h2, _⟩ := hli.rd j hj; exact ⟨i, h1, h2⟩
  have h3 := hJ.le
  simp only [List.length_cons] at this
  have : (Me c).1 ≤ (Me c).2.rdy.length := h3
  have : (Kv c (c.nodes.l.length + 1) 0 (Hj c)).2 = (Me c).2 := rfl
  simp only [this] at *
  omega
 have := hK i hi hc p.toNat (by rw [← hpe]; exact hpi) (by rw [← hpe]; exact hall)
 show (Me c).2.out.getD p.toNat 0 < (Me c).2.out.getD i 0
 have e : (Kv c (c.nodes.l.length + 1) 0 (Hj c)).2 = (Me c).2 := rfl
 rw [e] at this
 omega
theorem qFM {c : B1} (h : Ew c = 0) {Q : Nat → Prop} (hq : ∀ i : Nat, i < c.nodes.l.length → (Dt (Ar c i) = true → ∀ p ∈ Hl c i, (0 ≤ p ∧ p < c.nodes.l.length) ∧ Q p.toNat) → Q i) : ∀ i : Nat, i < c.nodes.l.length → Q i := by
 obtain ⟨_, h0, h1⟩ := qBH h
 have : ∀ (k : Nat) (i : Nat), i < c.nodes.l.length → (Lp c i).toNat = k → Q i := by
  intro k
  induction k using Nat.strongRecOn with
  | ind k ih =>
   intro i hi hk
   refine hq i hi fun hc p hp => ?_
   obtain ⟨h2, h3⟩ := h1 i hi hc p hp
   have := h0 p.toNat
   exact ⟨h2, ih (Lp c p.toNat).toNat (by omega) p.toNat (by omega) rfl⟩
 exact fun i hi => this _ i hi rfl
def q6x (lt : Int → Int → Bool) : Nat → List Int → List Int
 | 0, l => l
 | j + 1, l => if lt (l.getD (j + 1) 0) (l.getD j 0) then q6x lt j (Xe l (j + 1) j) else l
def q16 (lt : Int → Int → Bool) : Nat → Nat → List Int → List Int
 | 0, _, l => l
 | f + 1, i, l => q16 lt f (i + 1) (q6x lt i l)
theorem q24 {lt : Int → Int → Bool} : ∀ {j : Nat} {l : List Int}, j < l.length → (q6x lt j l).Perm l
 | 0, l, _ => List.Perm.refl l
 | j + 1, l, h => by
  simp only [q6x]
  split
  ·exact (q24 (by rw [q4k]; omega)).trans (q6s h (by omega))
  ·exact List.Perm.refl l
def q17 (key : Int → Int) (l : List Int) (n : Nat) : Prop := ∀ a b, a < b → b < n → key (l.getD a 0) ≤ key (l.getD b 0)
theorem q5P (key : Int → Int) (i : Nat) : ∀ (j : Nat) (l : List Int), j ≤ i → i < l.length → (∀ a b, a < b → b ≤ i → a ≠ j → b ≠ j → key (l.getD a 0) ≤ key (l.getD b 0)) → (∀ b, j < b → b ≤ i → key (l.getD j 0) ≤ key (l.getD b 0)) →
  q17 key (q6x (fun a b => decide (key a < key b)) j l) (i + 1)
 | 0, l, hj, hi, h1, h2 => by
  intro a b hab hb
  simp only [q6x]
  by_cases ha : a = 0
  ·subst ha; exact h2 b hab (by omega)
  ·exact h1 a b hab (by omega) ha (by omega)
 | j + 1, l, hj, hi, h1, h2 => by
  simp only [q6x]
  split
  ·rename_i hlt
   have hlt' : key (l.getD (j + 1) 0) < key (l.getD j 0) := by simpa using hlt
   have g : ∀ q, q < l.length → (Xe l (j + 1) j).getD q 0 = if q = j then l.getD (j + 1) 0 else if q = j + 1 then l.getD j 0 else l.getD q 0 := fun q hq => qCu (by omega) (by omega) hq
   refine q5P key i j _ (by omega) (by rw [q4k]; exact hi) (fun a b hab hb ha hb' => ?_) (fun b hb hbi => ?_)
   ·rw [g a (by omega), g b (by omega), if_neg ha, if_neg hb']
    by_cases ha1 : a = j + 1
    ·rw [if_pos ha1, if_neg (by omega)]
     exact h1 j b (by omega) hb (by omega) (by omega)
    ·rw [if_neg ha1]
     by_cases hb1 : b = j + 1
     ·rw [if_pos hb1]
      exact h1 a j (by omega) (by omega) ha1 (by omega)
     ·rw [if_neg hb1]
      exact h1 a b hab hb ha1 hb1
   ·rw [g j (by omega), g b (by omega), if_pos rfl, if_neg (by omega)]
    by_cases hb1 : b = j + 1
    ·rw [if_pos hb1]; omega
    ·rw [if_neg hb1]
     exact h2 b (by omega) hbi
  ·rename_i hlt
   have hlt' : key (l.getD j 0) ≤ key (l.getD (j + 1) 0) := by simpa using hlt
   intro a b hab hb
   by_cases ha1 : a = j + 1
   ·subst ha1; exact h2 b hab (by omega)
   ·by_cases hb1 : b = j + 1
    ·subst hb1
     by_cases haj : a = j
     ·subst haj; exact hlt'
     ·have := h1 a j (by omega) (by omega) ha1 (by omega)
      omega
    ·exact h1 a b hab (by omega) ha1 hb1
theorem qC7 (key : Int → Int) : ∀ (f i : Nat) (l : List Int), i + f = l.length → q17 key l i → (q16 (fun a b => decide (key a < key b)) f i l).Perm l ∧ q17 key (q16 (fun a b => decide (key a < key b)) f i l) l.length
 | 0, i, l, h, hs => ⟨List.Perm.refl l, by have : i = l.length := (by omega); subst this; exact hs⟩
 | f + 1, i, l, h, hs => by
  simp only [q16]
  have hp := q24 (lt := fun a b => decide (key a < key b)) (show i < l.length by omega)
  have hss := q5P key i i l (Nat.le_refl _) (by omega) (fun a b hab hb ha hb' => hs a b hab (by omega)) (fun b h1 h2 => by omega)
  obtain ⟨a1, a2⟩ := qC7 key f (i + 1) _ (by rw [hp.length_eq]; omega) hss
  rw [hp.length_eq] at a2
  exact ⟨a1.trans hp, a2⟩
def rng (n : Nat) : List Int := (List.range n).map fun i : Nat => (i : Int)
theorem Rk {n : Nat} : (rng n).length = n := by simp [rng]
theorem q6A {n : Nat} {x : Int} : x ∈ rng n ↔ 0 ≤ x ∧ x < n := by
 simp only [rng, List.mem_map, List.mem_range]
 constructor
 ·rintro ⟨i, hi, rfl⟩; omega
 ·intro h; exact ⟨x.toNat, by omega, by omega⟩
theorem qD1 {n : Nat} : (rng n).Nodup := by
 rw [rng, List.nodup_iff_pairwise_ne, List.pairwise_map]
 exact (List.nodup_iff_pairwise_ne.1 List.nodup_range).imp fun h e => h (by omega)
def qC8 (c : B1) (a b : Int) : Bool := decide (Lp c a.toNat < Lp c b.toNat)
def Ti (c : B1) : List Int := q16 (qC8 c) (c.nodes.l.length - 1) 1 (rng c.nodes.l.length)
theorem Z6 (c : B1) : (Ti c).Perm (rng c.nodes.l.length) ∧ q17 (fun a => Lp c a.toNat) (Ti c) c.nodes.l.length := by
 by_cases h : c.nodes.l.length = 0
 ·unfold Ti
  rw [h]
  exact ⟨List.Perm.refl _, fun a b hab hb => by omega⟩
 ·have := qC7 (fun a => Lp c a.toNat) (c.nodes.l.length - 1) 1 (rng c.nodes.l.length) (by rw [Rk]; omega) (fun a b hab hb => by omega)
  rw [Rk] at this
  exact this
def W0 (c : B1) (nets : List Int) (i : Nat) : List Int := (Hl c i).map fun k => nets.getD k.toNat 0
def S5 (c : B1) (nets : List Int) (n : Int) : List Int := if Dt (Ar c n.toNat) then nets.set n.toNat (Vy (Ar c n.toNat) (W0 c nets n.toNat)) else nets
def q5m (c : B1) (order init : List Int) : List Int := order.foldl (S5 c) init
theorem q4t {c : B1} {nets : List Int} {n : Int} : (S5 c nets n).length = nets.length := by unfold S5; split <;> simp
theorem q6y {c : B1} : ∀ {o nets : List Int}, (q5m c o nets).length = nets.length
 | [], nets => rfl
 | n :: o, nets => by
  show (q5m c o (S5 c nets n)).length = _
  rw [q6y, q4t]
def qFN (c : B1) (init f : List Int) : Prop := f.length = c.nodes.l.length ∧ ∀ i : Nat, i < c.nodes.l.length → f.getD i 0 = if Dt (Ar c i) then Vy (Ar c i) (W0 c f i) else init.getD i 0
theorem qC9 {c : B1} : ∀ {o nets : List Int}, nets.length = c.nodes.l.length → o.Nodup → (∀ n ∈ o, 0 ≤ n ∧ n < c.nodes.l.length) → o.Pairwise (fun x y => Dt (Ar c x.toNat) = true → y ∉ Hl c x.toNat) → (∀ x ∈ o, Dt (Ar c x.toNat) = true → x ∉ Hl c x.toNat ∧ ∀ p ∈ Hl c x.toNat, 0 ≤ p) →
  (∀ i : Nat, (i : Int) ∉ o → (q5m c o nets).getD i 0 = nets.getD i 0) ∧ (∀ i : Nat, (i : Int) ∈ o → (q5m c o nets).getD i 0 = if Dt (Ar c i) then Vy (Ar c i) (W0 c (q5m c o nets) i) else nets.getD i 0)
 | [], nets, _, _, _, _, _ => ⟨fun i _ => rfl, fun i h => by cases h⟩
 | n :: o, nets, hl, hnd, hin, hpw, hself => by
  obtain ⟨hn1, hn2⟩ := List.nodup_cons.1 hnd
  obtain ⟨hp1, hp2⟩ := List.pairwise_cons.1 hpw
  have hnr := hin n List.mem_cons_self
  have hne : n = (n.toNat : Int) := by omega
  have key : ∀ i : Nat, i ≠ n.toNat → (S5 c nets n).getD i 0 = nets.getD i 0 := fun i hi => by
   unfold S5
   split
   ·rw [Hk (by omega), if_neg hi]
   ·rfl
  obtain ⟨a1, a2⟩ := qC9 (o := o) (nets := S5 c nets n) (by rw [q4t]; exact hl) hn2 (fun m hm => hin m (List.mem_cons_of_mem _ hm)) hp2 (fun x hx => hself x (List.mem_cons_of_mem _ hx))
  have hrun : q5m c (n :: o) nets = q5m c o (S5 c nets n) := rfl
  rw [hrun]
  refine ⟨fun i hi => ?_, fun i hi => ?_⟩
  ·have h1 : ¬ i = n.toNat := fun e => hi (by rw [e, ← hne]; exact List.mem_cons_self)
   rw [a1 i fun hm => hi (List.mem_cons_of_mem _ hm), key i h1]
  ·by_cases hio : (i : Int) ∈ o
   ·have h1 : ¬ i = n.toNat := fun e => hn1 (by rw [hne, ← e]; exact hio)
    rw [a2 i hio, key i h1]
   ·have h1 : i = n.toNat := by
     rcases List.mem_cons.1 hi with h | h
     ·omega
     ·exact absurd h hio
    subst h1
    rw [a1 _ hio]
    by_cases hc : Dt (Ar c n.toNat) = true
    ·have h2 : (S5 c nets n).getD n.toNat 0 = Vy (Ar c n.toNat) (W0 c nets n.toNat) := by
      unfold S5
      rw [if_pos hc, Hk (by omega), if_pos rfl]
     rw [h2, if_pos hc]
     congr 1
     unfold W0
     refine List.map_congr_left fun p hp => ?_
     obtain ⟨hs1, hs2⟩ := hself n List.mem_cons_self hc
     have hp0 := hs2 p hp
     have hpe : p = (p.toNat : Int) := by omega
     have hpo : ((p.toNat : Nat) : Int) ∉ o := fun hm => hp1 _ hm hc (by rw [← hpe]; exact hp)
     have hpn : ¬ p.toNat = n.toNat := fun e => by
      have h9 : p = n := by omega
      rw [h9] at hp
      exact hs1 hp
     rw [a1 _ hpo, key _ hpn]
    ·rw [if_neg hc]
     unfold S5
     rw [if_neg hc]
theorem qFO {c : B1} (h : Ew c = 0) {o init : List Int} (hp : o.Perm (rng c.nodes.l.length)) (hs : q17 (fun a => Lp c a.toNat) o c.nodes.l.length) (hi : init.length = c.nodes.l.length) : qFN c init (q5m c o init) := by
 obtain ⟨_, h0, h1⟩ := qBH h
 have hlen : o.length = c.nodes.l.length := by rw [hp.length_eq, Rk]
 have hmem : ∀ n, n ∈ o ↔ 0 ≤ n ∧ n < c.nodes.l.length := fun n => by rw [hp.mem_iff, q6A]
 have hpw : o.Pairwise (fun x y => Dt (Ar c x.toNat) = true → y ∉ Hl c x.toNat) := by
  rw [List.pairwise_iff_getElem]
  intro i j hi hj hij hc hm
  have hx := (hmem o[i]).1 (List.getElem_mem hi)
  obtain ⟨_, h3⟩ := h1 o[i].toNat (by omega) hc _ hm
  have h4 := hs i j hij (by omega)
  simp only [Bg hi, Bg hj] at h4
  omega
 obtain ⟨_, a2⟩ := qC9 (c := c) (o := o) (nets := init) hi (hp.nodup_iff.2 qD1) (fun n hn => (hmem n).1 hn) hpw (fun x hx hc => by
  have hx' := (hmem x).1 hx
  refine ⟨fun hm => ?_, fun p hpp => (h1 x.toNat (by omega) hc p hpp).1.1⟩
  have := (h1 x.toNat (by omega) hc x hm).2
  omega)
 exact ⟨by rw [q6y]; exact hi, fun i hi => a2 i ((hmem i).2 (by omega))⟩
def F7 : List Int → List Int → List Int → List Int
 | n :: ns, v :: vs, nets => F7 ns vs (nets.set n.toNat v)
 | _, _, nets => nets
theorem Nz : ∀ {ns vs nets : List Int}, (F7 ns vs nets).length = nets.length
 | [], vs, nets => by cases vs <;> rfl
 | _ :: _, [], nets => rfl
 | n :: ns, v :: vs, nets => by simp only [F7]; rw [Nz]; simp
theorem Z7 : ∀ {ns vs nets : List Int} {i : Nat}, (∀ n ∈ ns, 0 ≤ n) → (i : Int) ∉ ns → (F7 ns vs nets).getD i 0 = nets.getD i 0
 | [], vs, nets, i, _, _ => by cases vs <;> rfl
 | _ :: _, [], nets, i, _, _ => rfl
 | n :: ns, v :: vs, nets, i, h0, h => by
  simp only [F7]
  rw [Z7 (fun m hm => h0 m (List.mem_cons_of_mem _ hm)) fun hm => h (List.mem_cons_of_mem _ hm)]
  have h1 : ¬ n.toNat = i := fun e => h (by have := h0 n List.mem_cons_self; rw [← e, Int.toNat_of_nonneg this]; exact List.mem_cons_self)
  simp [List.getD_eq_getElem?_getD, List.getElem?_set, h1]
theorem q3z : ∀ {ns vs nets : List Int} {j : Nat}, ns.Nodup → (∀ n ∈ ns, 0 ≤ n ∧ n < nets.length) → ns.length = vs.length → (h : j < ns.length) → (F7 ns vs nets).getD (ns[j]).toNat 0 = vs.getD j 0
 | n :: ns, v :: vs, nets, j, hnd, hr, hl, h => by
  obtain ⟨h1, h2⟩ := List.nodup_cons.1 hnd
  have hn := hr n List.mem_cons_self
  simp only [F7]
  cases j with
  | zero =>
   simp only [List.getElem_cons_zero, List.getD_cons_zero]
   rw [Z7 (fun m hm => (hr m (List.mem_cons_of_mem _ hm)).1) (by rw [Int.toNat_of_nonneg hn.1]; exact h1), Hk (by omega), if_pos rfl]
  | succ j =>
   simp only [List.getElem_cons_succ, List.getD_cons_succ]
   exact q3z h2 (fun m hm => by have := hr m (List.mem_cons_of_mem _ hm); simpa using this) (by simpa using hl) (by simpa using h)
 | [], vs, nets, j, _, _, _, h => by simp at h
 | _ :: _, [], nets, j, _, _, hl, h => by simp at hl
def Bz (c : B1) : List Int := K9 [0] c.nodes.l 0
def q5Q (c : B1) (pin pst : List Int) : List Int := F7 (Av c) pst (F7 (Bz c) pin (List.replicate c.nodes.l.length 0))
theorem q8G {c : B1} {pin pst : List Int} : (q5Q c pin pst).length = c.nodes.l.length := by unfold q5Q; rw [Nz, Nz]; simp
def O0 (k : Int) (c : B1) (i : Nat) : Nat := (K9 [k] (c.nodes.l.take i) 0).length
theorem q8H {k : Int} {c : B1} {i : Nat} (hi : i < c.nodes.l.length) (hk : Ar c i = k) : K9 [k] c.nodes.l 0 = K9 [k] (c.nodes.l.take i) 0 ++ (i : Int) :: K9 [k] (c.nodes.l.drop (i + 1)) (i + 1) := by
 have e : c.nodes.l = c.nodes.l.take i ++ c.nodes.l[i] :: c.nodes.l.drop (i + 1) := by rw [List.getElem_cons_drop, List.take_append_drop]
 have hk' : c.nodes.l[i].k = k := by simpa [Ar, hi] using hk
 have hm : (c.nodes.l.take i).length = i := by rw [List.length_take]; omega
 conv => lhs; rw [e, q3n, hm]
 simp [K9, hk']
theorem q6B {k : Int} {c : B1} {i : Nat} (hi : i < c.nodes.l.length) (hk : Ar c i = k) : O0 k c i < (K9 [k] c.nodes.l 0).length ∧ (K9 [k] c.nodes.l 0).getD (O0 k c i) 0 = i := by
 have e := q8H hi hk
 constructor
 ·rw [e]; simp [O0]
 ·rw [e]; simp [O0, List.getD_eq_getElem?_getD]
theorem Ld {k : Int} {c : B1} : ∀ n ∈ K9 [k] c.nodes.l 0, 0 ≤ n ∧ n < c.nodes.l.length ∧ Ar c n.toNat = k := by
 intro n hn
 obtain ⟨a, b, h⟩ := q3s [k] c.nodes.l 0 n hn
 refine ⟨by omega, by omega, ?_⟩
 simpa [Ar] using h
theorem q8n {k : Int} {c : B1} {i : Nat} (hi : i < c.nodes.l.length) : (i : Int) ∈ K9 [k] c.nodes.l 0 ↔ Ar c i = k := by
 constructor
 ·intro h
  have := (Ld _ h).2.2
  simpa using this
 ·intro h
  rw [q8H hi h]
  simp
theorem qCA {c : B1} {pin pst : List Int} (h1 : pin.length = (Bz c).length) (h2 : pst.length = (Av c).length) {i : Nat} (hi : i < c.nodes.l.length) :
  (q5Q c pin pst).getD i 0 = if Ar c i = 0 then pin.getD (O0 0 c i) 0 else if Ar c i = 14 then pst.getD (O0 14 c i) 0 else 0 := by
 have n0 := (q22 [0] c.nodes.l 0).2
 have n14 := (q22 [14] c.nodes.l 0).2
 have r14 : ∀ n ∈ Av c, 0 ≤ n := fun n hn => (Ld n hn).1
 have r0 : ∀ n ∈ Bz c, 0 ≤ n := fun n hn => (Ld n hn).1
 unfold q5Q
 by_cases hk : Ar c i = 14
 ·obtain ⟨a, b⟩ := q6B hi hk
  have e : (K9 [14] c.nodes.l 0)[O0 14 c i] = (i : Int) := by rw [← b, Bg a]
  have := q3z (ns := Av c) (vs := pst) (nets := F7 (Bz c) pin (List.replicate c.nodes.l.length 0)) (j := O0 14 c i) n14 (fun n hn => by rw [Nz]; have := Ld n hn; simp; omega) h2.symm a
  have e' : (Av c)[O0 14 c i] = (i : Int) := e
  rw [e'] at this
  simp only [Int.toNat_natCast] at this
  rw [this, if_neg (by omega), if_pos hk]
 ·have : (i : Int) ∉ Av c := fun hm => hk ((q8n hi).1 hm)
  rw [Z7 r14 this]
  by_cases hk0 : Ar c i = 0
  ·obtain ⟨a, b⟩ := q6B hi hk0
   have e : (Bz c)[O0 0 c i]'a = (i : Int) := by show (K9 [0] c.nodes.l 0)[O0 0 c i] = _; rw [← b, Bg a]
   have := q3z (ns := Bz c) (vs := pin) (nets := List.replicate c.nodes.l.length 0) (j := O0 0 c i) n0 (fun n hn => by have := Ld n hn; simp; omega) h1.symm a
   rw [e] at this
   simp only [Int.toNat_natCast] at this
   rw [this, if_pos hk0]
  ·have : (i : Int) ∉ Bz c := fun hm => hk0 ((q8n hi).1 hm)
   rw [Z7 r0 this, if_neg hk0, if_neg hk]
   simp [List.getD_eq_getElem?_getD, List.getElem?_replicate]
   split <;> rfl
end Go.Lg
