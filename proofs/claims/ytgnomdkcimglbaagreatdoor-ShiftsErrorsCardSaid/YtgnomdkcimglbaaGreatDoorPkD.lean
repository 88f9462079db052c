/- Plain data as trees, and how calls are taken. Conditions: none. -/
import Derived.Test.YtgnomdkcimglbaaGreatDoorPkC
import Derived.Test.YtgnomdkcimglbaaGreatDoorProg
import Derived.KernelRfl
import Derived.Lib.Bytealg
import Derived.Test.YtgnomdkcimglbaaGreatDoorRows
import Derived.Test.YtgnomdkcimglbaaGreatDoorCards
import Derived.Test.YtgnomdkcimglbaaGreatDoorTie
import Derived.ProofKit
import Derived.Deep.DeepHandedRow
import Derived.SevenTiedAt
set_option linter.unusedSimpArgs false
set_option linter.unusedVariables false
namespace Go.Lg
open Go
attribute [simp] onesT onesA T.one AV.one Value.oneCell' flatSt flatL flatA flatT flat1 ret retH
@[simp] theorem int_beq (a b : Int) : (a == b) = decide (a = b) := rfl
@[simp] theorem int_bne (a b : Int) : (a != b) = !decide (a = b) := rfl
@[simp] theorem ba_size (s : List UInt8) : (ByteArray.mk s.toArray).size = s.length := by simp [ByteArray.size]
def enc1 {α : Type} (f : α → T) (l : List α) : List (List T) := l.map fun n => [f n]
theorem enc1_len {α : Type} {f : α → T} {l : List α} : (enc1 f l).length = l.length := by simp [enc1]
theorem enc1_get {α : Type} {f : α → T} {l : List α} {i : Nat} (d : α) (h : i < l.length) : (enc1 f l)[i]?.getD [] = [f (l[i]?.getD d)] := by simp [enc1, h]
theorem enc1_wid {α : Type} {f : α → T} {l : List α} : wid 1 (enc1 f l) := by
  intro e he; obtain ⟨x, _, rfl⟩ := List.mem_map.1 he; rfl
theorem enc1_app {α : Type} {f : α → T} {l m : List α} : enc1 f l ++ enc1 f m = enc1 f (l ++ m) := by simp [enc1]
theorem enc1_take {α : Type} {f : α → T} {l : List α} {n : Nat} : (enc1 f l).take n = enc1 f (l.take n) := by simp [enc1, List.map_take]
theorem enc1_set {α : Type} {f : α → T} {l : List α} {n : Nat} {x : α} : (enc1 f l).set n [f x] = enc1 f (l.set n x) := by simp [enc1, List.map_set]
theorem enc1_nil {α : Type} {f : α → T} : enc1 f [] = [] := rfl
@[simp] theorem wid_nil {s : Nat} : wid s [] := fun e h => by cases h
def encN {α : Type} (f : α → List T) (l : List α) : List (List T) := l.map f
theorem encN_len {α : Type} {f : α → List T} {l : List α} : (encN f l).length = l.length := by simp [encN]
theorem encN_get {α : Type} {f : α → List T} {l : List α} {i : Nat} (d : α) (h : i < l.length) : (encN f l)[i]?.getD [] = f (l[i]?.getD d) := by simp [encN, h]
theorem encN_wid {α : Type} {f : α → List T} {l : List α} {s : Nat} (h : ∀ x, (f x).length = s) : wid s (encN f l) := by
  intro e he; obtain ⟨x, _, rfl⟩ := List.mem_map.1 he; exact h x
theorem encN_app {α : Type} {f : α → List T} {l m : List α} : encN f l ++ encN f m = encN f (l ++ m) := by simp [encN]
@[simp] theorem enc1_take_len {α : Type} {f : α → T} {l : List α} : (enc1 f l).take l.length = enc1 f l := by rw [List.take_of_length_le (by simp [enc1])]
theorem enc1_snoc {α : Type} {f : α → T} {l : List α} {x : α} : enc1 f l ++ [[f x]] = enc1 f (l ++ [x]) := by simp [enc1]
@[simp] theorem encN_take_len {α : Type} {f : α → List T} {l : List α} : (encN f l).take l.length = encN f l := by rw [List.take_of_length_le (by simp [encN])]
theorem encN_snoc {α : Type} {f : α → List T} {l : List α} {x : α} : encN f l ++ [f x] = encN f (l ++ [x]) := by simp [encN]
structure Sl (α : Type) where
  l : List α
  cap : Option Nat
  nl : Option Bool
abbrev tI (n : Int) : T := .v (.int .i64 n)
abbrev tK (n : Int) : T := .v (.int .u8 n)
abbrev tB (b : Bool) : T := .v (.bool b)
abbrev ints (l : List Int) : List (List T) := enc1 tI l
def tSl (s : Sl Int) : T := .sl (ints s.l) s.cap s.nl
@[simp] theorem flatReg_bx {cs : List AV} : flatReg (.bx cs) = ∀ c ∈ cs, flatA c := rfl
@[simp] theorem flatReg_it {s : ByteArray} {p : Nat} : flatReg (.it s p) = True := rfl
@[simp] theorem flatReg_nil {ty s : Nat} : flatReg (.sl ty s []) = True := by simp [flatReg]
theorem flatReg_enc1 {α : Type} {f : α → T} {l : List α} {ty s : Nat} (h : ∀ x, flatT (f x) = true) : flatReg (.sl ty s (enc1 f l)) := by
  intro e he t ht
  obtain ⟨x, _, rfl⟩ := List.mem_map.1 he
  simp only [List.mem_singleton] at ht; subst ht; exact h x
@[simp] theorem flatReg_I {l : List Int} {ty s : Nat} : flatReg (.sl ty s (enc1 tI l)) = True := eq_true (flatReg_enc1 fun _ => rfl)
@[simp] theorem flatReg_K {l : List Int} {ty s : Nat} : flatReg (.sl ty s (enc1 tK l)) = True := eq_true (flatReg_enc1 fun _ => rfl)
@[simp] theorem flatReg_B {l : List Bool} {ty s : Nat} : flatReg (.sl ty s (enc1 tB l)) = True := eq_true (flatReg_enc1 fun _ => rfl)
section
variable {P : Program} {Γ : Tables} {hp : List (Nat × Reg)} {f : FuncId} {avs : List AV} {K : T → Prop} {ts : List T} {res : T}
theorem callK_pure (h : PureCalls P Γ f ts res) (ht : optAll (avs.map toT) = some ts) (hk : K res) : callK P Γ hp f avs K ⟨⟩ := ⟨res, .inl ⟨ts, ht, h⟩, hk⟩
theorem callK_fresh (h : FreshCalls P Γ f ts res) (ht : optAll (avs.map (reify hp 4)) = some ts) (hk : K res) : callK P Γ hp f avs K ⟨⟩ := ⟨res, .inr ⟨ts, ht, h⟩, hk⟩
theorem run_pureQ {ic : IC} {N n : Nat} {rvs : List RV} {args : List T} (hc : chkF P f ic N n rvs = true) (hn : args.length = n) (h : run P Γ ic (ret false rvs fun r => r = res) ⟨params 0 args, []⟩) : PureCalls P Γ f args res := by
  obtain ⟨r, h1, rfl⟩ := run_pure hc hn h; exact h1
theorem run_freshQ {ic : IC} {N n : Nat} {rvs : List RV} {args : List T} (hc : chkF P f ic N n rvs = true) (hn : args.length = n) (h : run P Γ ic (ret true rvs fun r => r = res) ⟨params 0 args, []⟩) : FreshCalls P Γ f args res := by
  obtain ⟨r, h1, rfl⟩ := run_fresh hc hn h; exact h1
theorem run_handQ {ic : IC} {N n : Nat} {rvs : List RV} {args : List AV} {r0 : AV} {hp' : List (Nat × Reg)} (hc : chkF P f ic N n rvs = true) (hn : args.length = n) (h : run P Γ ic (retH rvs fun r h => r = r0 ∧ h = hp') ⟨avps 0 args, hp⟩) : HCalls P Γ f hp args r0 hp' := by
  obtain ⟨r, h', h1, rfl, rfl⟩ := run_hand hc hn h; exact h1
end
end Go.Lg
namespace Go.Lg
open Go
section
variable {P : Program} {Γ : Tables} {Q : AX → St → Prop} {s : St}
/- probecard/netlists.Check (function 129) -/
abbrev netlists_Check_ic : IC := (.seq (.reg [od 1 (.box true (tm 0)), od 2 (.mv (ki 0))] [kp [1] []]) (.seq (.reg [od 6 (lG 4 1), od 7 (.call 109 [(tm 6)]), om 5 7, od 8 (ex 5 0), od 9 (ex 5 1), om 3 8, om 4 9] [kp [4] []]) (.seq (.reg [om 10 4, om 2 10] [kp [2]
 []]) .ret)))
def netlists_Check_rv : List RV := [.tmp 2]
/- probecard/netlists.Of (function 80) -/
abbrev netlists_Of_g0 : IC := .gh (.seq (.reg [od 12 (.bin .lss (tm 11) (tm 10))] [kp [1, 5, 9, 10, 11, 12] [23]]) (.seq (.cond (tm 12) .skip (.exit 0)) (.seq (.block 1 (.seq (.reg [om 13 11, od 14 (ia 4 9 11), od 15 (lG 4 14), od 7 (.alloc false [(.int .u8 0),
 (.slice none 0 0), (.int .i64 0), (.int .i64 0)]), om 6 13, on (.store 4 (tm 7) (tm 15))] [kp [1, 5, 6, 7, 9, 10, 11] [7, 23]]) (.seq (.reg [om 16 1, od 17 (fa 0 7), od 18 (ld 1 17), od 19 (.call 131 [(tm 16), (tm 18)])] [kp [1, 5,
 6, 9, 10, 11, 19] [23]]) (.cond (tm 19) (.reg [om 20 5, om 21 6, od 22 (.bsl true 3 1 [(tm 21)]), od 23 (.app false 3 1 (tm 20) (tm 22)), om 5 23] [kp [1, 5, 9, 10, 11] [23]]) .skip)))) (.reg [od 24 (.bin .add (tm 11) (ki 1)), om
 11 24] [kp [1, 5, 9, 10, 11] [23]])))) [kp [1, 5, 9, 10, 11] [23]]
def netlists_Of_l1 : IC := .loop netlists_Of_g0
abbrev netlists_Of_ic : IC := (.seq (.reg [od 2 (.box true (tm 0)), od 4 (.mv kN)] [kp [1, 2] []]) (.seq (.reg [od 5 (.mv kN)] [.nl 5 23 3 1, kp [1, 2, 5] [23]]) (.seq (.seq (.reg [od 8 (fa 0 2), od 9 (ld 1 8), od 10 (le 0 9), od 11 (.mv (ki 0))] [kp [1, 5, 9,
 10, 11] [23]]) (.block 0 netlists_Of_l1)) (.seq (.reg [om 25 5, od 26 (.hcall 85 [(tm 25)] [23] 26000), om 4 26] [kp [4] [23]]) .ret))))
theorem netlists_Of_l1_run (h : ∀ K : St → Prop, K = run P Γ netlists_Of_l1 Q → run P Γ netlists_Of_g0 (thenX K Q) s) : run P Γ netlists_Of_l1 Q s := run_loop h
def netlists_Of_rv : List RV := [.tmp 4]
/- probecard/netlists.States (function 27) -/
abbrev netlists_States_ic : IC := (.seq (.reg [od 1 (.box true (tm 0)), od 2 (.mv kN)] [kp [1] []]) (.seq (.reg [od 3 (lG 4 1), od 4 (.bsl true 102 1 [(ku 14)]), od 5 (.call 80 [(tm 3), (tm 4)]), om 2 5] [kp [2] []]) .ret))
def netlists_States_rv : List RV := [.tmp 2]
/- probecard/netlists.Comb (function 56) -/
abbrev netlists_Comb_ic : IC := (.seq (.reg [od 2 (.mv kF)] [kp [0] []]) (.seq (.reg [om 3 0, od 4 (.bin .geq (tm 3) (ku 1)), om 5 4, oT 6 (.mv (tm 0)) 5, oT 7 (.bin .leq (tm 6) (ku 13)) 5, od 8 (.pick (tm 5) (tm 7) kF), om 2 8] [kp [2] []]) .ret))
def netlists_Comb_rv : List RV := [.tmp 2]
/- slices.Clip[[]int,int] (function 85) -/
abbrev slices_Clip_int_ic : IC := (.seq (.reg [od 2 (.mv kN)] [kp [0] [1000000]]) (.seq (.reg [om 3 0, om 4 0, od 5 (le 0 4), om 6 0, od 7 (le 0 6), od 8 (.slice 1 (tm 3) none (some (tm 5)) (some (tm 7))), om 2 8] [kp [2] [1000000]]) .ret))
def slices_Clip_int_rv : List RV := [.tmp 2]
/- slices.Clip[[][]int,[]int] (function 90) -/
abbrev slices_Clip_ints_ic : IC := (.seq (.reg [od 2 (.mv kN)] [kp [0] []]) (.seq (.reg [om 3 0, om 4 0, od 5 (le 0 4), om 6 0, od 7 (le 0 6), od 8 (.slice 1 (tm 3) none (some (tm 5)) (some (tm 7))), om 2 8] [kp [2] []]) .ret))
def slices_Clip_ints_rv : List RV := [.tmp 2]
/- probecard/netlists.Levels (function 109) -/
def netlists_Levels_r12 : List RO := [om 45 6, om 46 8, od 47 (ia 1 45 46), od 48 (ld 1 47), od 49 (.bin .eql (tm 48) (ki 0))]
def netlists_Levels_r13 : List RO := [om 50 7, om 51 8, od 52 (.bsl true 3 1 [(tm 51)]), od 53 (.app false 3 1 (tm 50) (tm 52)), om 7 53]
def netlists_Levels_r14 : List RO := [od 54 (.bin .add (tm 31) (ki 1)), om 31 54]
abbrev netlists_Levels_g0 : IC := .gh (.seq (.reg [od 32 (.bin .lss (tm 31) (tm 30))] [kp [1, 5, 6, 7, 29, 30, 31, 32] [23, 27, 53]]) (.seq (.cond (tm 32) .skip (.exit 0)) (.seq (.block 1 (.seq (.reg [om 33 31, od 34 (ia 4 29 31), od 35 (lG 4 34), od 9 (.alloc
 false [(.int .u8 0), (.slice none 0 0), (.int .i64 0), (.int .i64 0)]), om 8 33, on (.store 4 (tm 9) (tm 35))] [kp [1, 5, 6, 7, 8, 9, 29, 30, 31] [9, 23, 27, 53]]) (.seq (.seq (.reg [od 36 (fa 0 9), od 37 (ld 1 36), od 38 (.call 56
 [(tm 37)])] [kp [1, 5, 6, 7, 8, 9, 29, 30, 31, 38] [9, 23, 27, 53]]) (.cond (tm 38) (.reg [om 39 6, om 40 8, od 41 (fa 1 9), od 42 (ld 1 41), od 43 (le 0 42), od 44 (ia 1 39 40), on (.store 1 (tm 44) (tm 43))] [kp [1, 5, 6, 7, 8,
 29, 30, 31] [23, 27, 53]]) .skip)) (.seq (.reg netlists_Levels_r12 [kp [1, 5, 6, 7, 8, 29, 30, 31, 49] [23, 27, 53]]) (.cond (tm 49) (.reg netlists_Levels_r13 [kp [1, 5, 6, 7, 29, 30, 31] [23, 27, 53]]) .skip))))) (.reg
 netlists_Levels_r14 [kp [1, 5, 6, 7, 29, 30, 31] [23, 27, 53]])))) [kp [1, 5, 6, 7, 29, 30, 31] [23, 27, 53]]
def netlists_Levels_l1 : IC := .loop netlists_Levels_g0
abbrev netlists_Levels_g2 : IC := .gh (.seq (.reg [od 79 (.bin .lss (tm 78) (tm 77))] [kp [1, 5, 6, 7, 10, 11, 12, 76, 77, 78, 79] [23, 27, 53]]) (.seq (.cond (tm 79) .skip (.exit 4)) (.seq (.block 5 (.seq (.reg [od 80 (ia 2 76 78), od 81 (lG 2 80), od 14 (.alloc
 false [(.int .i64 0), (.int .i64 0)]), on (.store 2 (tm 14) (tm 81))] [kp [1, 5, 6, 7, 10, 11, 12, 14, 76, 77, 78] [14, 23, 27, 53]]) (.seq (.seq (.reg [od 82 (fa 0 1), od 83 (ld 1 82), od 84 (fa 0 14), od 85 (ld 1 84), od 86 (ia 4
 83 85), od 87 (fa 0 86), od 88 (ld 1 87), od 89 (.call 56 [(tm 88)]), od 90 (.un .not (tm 89))] [kp [1, 5, 6, 7, 10, 11, 12, 14, 76, 77, 78, 90] [14, 23, 27, 53]]) (.cond (tm 90) (.exit 5) .skip)) (.seq (.reg [om 91 5, od 92 (fa 0
 14), od 93 (.ldR 14 1 false (tm 92)), om 94 5, od 95 (fa 0 14), od 96 (.ldR 14 1 false (tm 95)), od 97 (ia 1 94 96), od 98 (.ldR 23 1 false (tm 97)), om 99 5, om 100 12, od 101 (ia 1 99 100), od 102 (.ldR 23 1 false (tm 101)), od
 103 (.bin .add (tm 102) (ki 1)), od 104 (.mmx true [(tm 98), (tm 103)]), od 105 (ia 1 91 93), on (.stR 23 1 (tm 105) (tm 104))] [kp [1, 5, 6, 7, 10, 11, 12, 14, 76, 77, 78] [14, 23, 27, 53]]) (.seq (.reg [om 106 6, od 107 (fa 0
 14), od 108 (ld 1 107), od 109 (ia 1 106 108), od 110 (ld 1 109), od 111 (.bin .sub (tm 110) (ki 1)), od 112 (ia 1 106 108), on (.store 1 (tm 112) (tm 111))] [kp [1, 5, 6, 7, 10, 11, 12, 14, 76, 77, 78] [14, 23, 27, 53]]) (.seq
 (.reg [om 113 6, od 114 (fa 0 14), od 115 (ld 1 114), od 116 (ia 1 113 115), od 117 (ld 1 116), od 118 (.bin .eql (tm 117) (ki 0))] [kp [1, 5, 6, 7, 10, 11, 12, 14, 76, 77, 78, 118] [14, 23, 27, 53]]) (.cond (tm 118) (.reg [om 119
 7, od 120 (fa 0 14), od 121 (ld 1 120), od 122 (.bsl true 3 1 [(tm 121)]), oz 123 (.app false 3 1 (tm 119) (tm 122)) 53, om 7 123] [kp [1, 5, 6, 7, 10, 11, 12, 76, 77, 78] [23, 27, 53]]) .skip))))))) (.reg [od 124 (.bin .add (tm
 78) (ki 1)), om 78 124] [kp [1, 5, 6, 7, 10, 11, 12, 76, 77, 78] [23, 27, 53]])))) [kp [1, 5, 6, 7, 10, 11, 12, 76, 77, 78] [23, 27, 53]]
def netlists_Levels_l3 : IC := .loop netlists_Levels_g2
abbrev netlists_Levels_g4 : IC := .gh (.seq (.seq (.reg [om 57 11, om 58 7, od 59 (le 0 58), od 60 (.bin .lss (tm 57) (tm 59))] [kp [1, 5, 6, 7, 10, 11, 60] [23, 27, 53]]) (.cond (tm 60) .skip (.exit 2))) (.block 3 (.seq (.reg [om 61 7, om 62 11, od 63 (ia 1 61
 62), od 64 (ld 1 63), om 12 64] [kp [1, 5, 6, 7, 10, 11, 12] [23, 27, 53]]) (.seq (.reg [om 65 11, od 66 (.bin .add (tm 65) (ki 1)), om 11 66] [kp [1, 5, 6, 7, 10, 11, 12] [23, 27, 53]]) (.seq (.seq (.reg [om 67 10, om 68 12, od 69
 (ia 1 67 68), od 70 (ld 1 69), od 71 (le 0 70), od 72 (.bin .eql (tm 71) (ki 0))] [kp [1, 5, 6, 7, 10, 11, 12, 72] [23, 27, 53]]) (.cond (tm 72) (.exit 3) .skip)) (.seq (.reg [om 73 10, om 74 12, od 75 (ia 1 73 74), od 76 (ld 1
 75), od 77 (le 0 76), od 78 (.mv (ki 0))] [kp [1, 5, 6, 7, 10, 11, 12, 76, 77, 78] [23, 27, 53]]) (.block 4 netlists_Levels_l3))))))) [kp [1, 5, 6, 7, 10, 11] [23, 27, 53]]
def netlists_Levels_l5 : IC := .loop netlists_Levels_g4
abbrev netlists_Levels_ic : IC := (.seq (.reg [od 1 (.box true (tm 0)), od 2 (.mv kN), od 3 (.mv (ki 0))] [kp [1] []]) (.scope (.seq (.seq (.reg [od 15 (lG 4 1), od 16 (.call 148 [(tm 15)]), om 4 16] [kp [1, 4] []]) (.seq (.reg [om 17 4, od 18 (.bin .neq (tm 17)
 (ki 0))] [kp [1, 4, 18] []]) (.cond (tm 18) (.seq (.reg [om 19 4, od 2 (.mv kN), om 3 19] [kp [2, 3] [23]]) .ret) .skip))) (.seq (.reg [od 20 (fa 0 1), od 21 (ld 1 20), od 22 (le 0 21), od 23 (.mk 3 1 [(.int .i64 0)] (tm 22) (tm
 22)), om 5 23] [kp [1, 5] [23]]) (.seq (.reg [od 24 (fa 0 1), od 25 (ld 1 24), od 26 (le 0 25), od 27 (.mk 3 1 [(.int .i64 0)] (tm 26) (tm 26)), om 6 27] [kp [1, 5, 6] [23, 27]]) (.seq (.reg [od 7 (.mv kN)] [.nl 7 53 3 1, kp [1, 5,
 6, 7] [23, 27, 53]]) (.seq (.seq (.reg [od 28 (fa 0 1), od 29 (ld 1 28), od 30 (le 0 29), od 31 (.mv (ki 0))] [kp [1, 5, 6, 7, 29, 30, 31] [23, 27, 53]]) (.block 0 netlists_Levels_l1)) (.seq (.reg [od 55 (lG 4 1), od 56 (.call 149
 [(tm 55)]), om 10 56] [kp [1, 5, 6, 7, 10] [23, 27, 53]]) (.seq (.reg [od 11 (.mv (ki 0))] [kp [1, 5, 6, 7, 10, 11] [23, 27, 53]]) (.seq .skip (.seq (.block 2 netlists_Levels_l5) (.seq (.seq (.reg [om 125 11, od 126 (fa 0 1), od
 127 (ld 1 126), od 128 (le 0 127), od 129 (.bin .lss (tm 125) (tm 128))] [kp [5, 129] [23]]) (.cond (tm 129) (.seq (.reg [od 2 (.mv kN), od 3 (.mv (ki 6))] [kp [2, 3] [23]]) .ret) .skip)) (.seq (.reg [om 130 5, om 2 130, od 3 (.mv
 (ki 0))] [kp [2, 3] [23]]) .ret)))))))))))))
theorem netlists_Levels_l1_run (h : ∀ K : St → Prop, K = run P Γ netlists_Levels_l1 Q → run P Γ netlists_Levels_g0 (thenX K Q) s) : run P Γ netlists_Levels_l1 Q s := run_loop h
theorem netlists_Levels_l3_run (h : ∀ K : St → Prop, K = run P Γ netlists_Levels_l3 Q → run P Γ netlists_Levels_g2 (thenX K Q) s) : run P Γ netlists_Levels_l3 Q s := run_loop h
theorem netlists_Levels_l5_run (h : ∀ K : St → Prop, K = run P Γ netlists_Levels_l5 Q → run P Γ netlists_Levels_g4 (thenX K Q) s) : run P Γ netlists_Levels_l5 Q s := run_loop h
attribute [simp] netlists_Levels_r12 netlists_Levels_r13 netlists_Levels_r14
def netlists_Levels_rv : List RV := [.tmp 2, .tmp 3]
/- slices.Contains[[]probecard/api.Kind,probecard/api.Kind] (function 131) -/
abbrev slices_Contains_api_Kind_ic : IC := (.seq (.reg [od 4 (.mv kF)] [kp [0, 1] []]) (.seq (.reg [om 5 0, om 6 1, od 7 (.call 161 [(tm 5), (tm 6)]), od 8 (.bin .geq (tm 7) (ki 0)), om 4 8] [kp [4] []]) .ret))
def slices_Contains_api_Kind_rv : List RV := [.tmp 4]
/- probecard/netlists.shape (function 148) -/
abbrev netlists_shape_g0 : IC := .gh (.seq (.reg [od 39 (.bin .lss (tm 38) (tm 37))] [kp [1, 36, 37, 38, 39] []]) (.seq (.cond (tm 39) .skip (.exit 1)) (.seq (.block 2 (.seq (.reg [od 40 (ia 4 36 38), od 41 (lG 4 40), od 4 (.alloc false [(.int .u8 0), (.slice none
 0 0), (.int .i64 0), (.int .i64 0)]), on (.store 4 (tm 4) (tm 41))] [kp [1, 4, 36, 37, 38] [4]]) (.seq (.reg [od 42 (lG 4 1), od 43 (lG 4 4), od 44 (.call 171 [(tm 42), (tm 43)]), om 5 44] [kp [1, 5, 36, 37, 38] []]) (.seq (.reg
 [om 45 5, od 46 (.bin .neq (tm 45) (ki 0))] [kp [1, 5, 36, 37, 38, 46] []]) (.cond (tm 46) (.seq (.reg [om 47 5, om 2 47] [kp [2] []]) .ret) .skip))))) (.reg [od 48 (.bin .add (tm 38) (ki 1)), om 38 48] [kp [1, 36, 37, 38] []]))))
 [kp [1, 36, 37, 38] []]
def netlists_shape_l1 : IC := .loop netlists_shape_g0
abbrev netlists_shape_g2 : IC := .gh (.seq (.reg [od 58 (.bin .lss (tm 57) (tm 56))] [kp [1, 55, 56, 57, 58] []]) (.seq (.cond (tm 58) .skip (.exit 3)) (.seq (.block 4 (.seq (.reg [od 59 (ia 3 55 57), od 60 (lG 3 59), od 8 (.alloc false [(.slice none 0 0), (.slice
 none 0 0), (.int .i64 0)]), on (.store 3 (tm 8) (tm 60))] [kp [1, 8, 55, 56, 57] [8]]) (.seq (.reg [od 61 (lG 4 1), od 62 (lG 3 8), od 63 (.call 173 [(tm 61), (tm 62)]), om 9 63] [kp [1, 9, 55, 56, 57] []]) (.seq (.reg [om 64 9, od
 65 (.bin .neq (tm 64) (ki 0))] [kp [1, 9, 55, 56, 57, 65] []]) (.cond (tm 65) (.seq (.reg [om 66 9, om 2 66] [kp [2] []]) .ret) .skip))))) (.reg [od 67 (.bin .add (tm 57) (ki 1)), om 57 67] [kp [1, 55, 56, 57] []])))) [kp [1, 55,
 56, 57] []]
def netlists_shape_l3 : IC := .loop netlists_shape_g2
abbrev netlists_shape_ic : IC := (.seq (.reg [od 1 (.box true (tm 0)), od 2 (.mv (ki 0))] [kp [1] []]) (.seq (.block 0 (.seq (.reg [od 11 (fa 0 1), od 12 (ld 1 11), od 13 (le 0 12), od 14 (.bin .gtr (tm 13) (ki 16384)), om 15 14, oF 16 (fa 2 1) 15, oF 17 (ld 1 16)
 15, oF 18 (le 0 17) 15, oF 19 (.bin .gtr (tm 18) (ki 16)) 15, od 20 (.pick (tm 15) kT (tm 19)), om 21 20, oF 22 (fa 3 1) 21, oF 23 (ld 1 22) 21, oF 24 (le 0 23) 21, oF 25 (.bin .gtr (tm 24) (ki 16384)) 21, od 26 (.pick (tm 21) kT
 (tm 25)), om 10 26] [kp [1, 10] []]) (.cond (tm 10) (.seq (.reg [od 2 (.mv (ki 3))] [kp [2] []]) .ret) (.seq (.reg [od 28 (fa 1 1), od 29 (ld 1 28), od 30 (le 0 29), od 31 (fa 0 1), od 32 (ld 1 31), od 33 (le 0 32), od 34 (.bin
 .neq (tm 30) (tm 33)), om 27 34] [kp [1, 27] []]) (.cond (tm 27) (.seq (.reg [od 2 (.mv (ki 8))] [kp [2] []]) .ret) .skip))))) (.seq (.seq (.reg [od 35 (fa 0 1), od 36 (ld 1 35), od 37 (le 0 36), od 38 (.mv (ki 0))] [kp [1, 36, 37,
 38] []]) (.block 1 netlists_shape_l1)) (.seq (.seq (.reg [od 49 (lG 4 1), od 50 (.call 172 [(tm 49)]), om 6 50] [kp [1, 6] []]) (.seq (.reg [om 51 6, od 52 (.bin .neq (tm 51) (ki 0))] [kp [1, 6, 52] []]) (.cond (tm 52) (.seq (.reg
 [om 53 6, om 2 53] [kp [2] []]) .ret) .skip))) (.seq (.seq (.reg [od 54 (fa 2 1), od 55 (ld 1 54), od 56 (le 0 55), od 57 (.mv (ki 0))] [kp [1, 55, 56, 57] []]) (.block 3 netlists_shape_l3)) (.seq (.seq (.reg [od 68 (fa 3 1), od 69
 (ld 1 68), od 70 (lG 4 1), od 71 (.call 175 [(tm 70)]), od 72 (.call 174 [(tm 69), (tm 71)])] [kp [72] []]) (.cond (tm 72) (.seq (.reg [od 2 (.mv (ki 1))] [kp [2] []]) .ret) .skip)) (.seq (.reg [od 2 (.mv (ki 0))] [kp [2] []])
 .ret)))))))
theorem netlists_shape_l1_run (h : ∀ K : St → Prop, K = run P Γ netlists_shape_l1 Q → run P Γ netlists_shape_g0 (thenX K Q) s) : run P Γ netlists_shape_l1 Q s := run_loop h
theorem netlists_shape_l3_run (h : ∀ K : St → Prop, K = run P Γ netlists_shape_l3 Q → run P Γ netlists_shape_g2 (thenX K Q) s) : run P Γ netlists_shape_l3 Q s := run_loop h
def netlists_shape_rv : List RV := [.tmp 2]
/- probecard/netlists.Fanout (function 149) -/
def netlists_Fanout_r10 : List RO := [om 37 3, om 38 8, om 39 3, om 40 8, od 41 (ia 1 39 40), od 42 (ld 1 41), om 43 5, om 44 7, od 45 (.build [(1, (tm 43)), (1, (tm 44))]), od 46 (.bsl true 205 2 [(tm 45)]), od 47 (.app false 205 2 (tm 42) (tm 46)), od 48 (ia 1 37
 38), on (.store 1 (tm 48) (tm 47))]
def netlists_Fanout_r11 : List RO := [od 49 (.bin .add (tm 28) (ki 1)), om 28 49]
abbrev netlists_Fanout_g0 : IC := .gh (.seq (.reg [od 29 (.bin .lss (tm 28) (tm 27))] [.keepB [3, 4, 5, 18, 19, 20, 26, 27, 28, 29] [14] 100000 16384]) (.seq (.cond (tm 29) .skip (.exit 2)) (.seq (.block 3 (.seq (.reg [om 30 28, od 31 (ia 1 26 28), od 32 (ld 1 31),
 om 7 30, om 8 32] [.keepB [3, 4, 5, 7, 8, 18, 19, 20, 26, 27, 28] [14] 100000 16384]) (.seq (.reg [om 33 4, om 34 8, od 35 (.callv (tm 33) [(tm 34)]), od 36 (.un .not (tm 35))] [.keepB [3, 4, 5, 7, 8, 18, 19, 20, 26, 27, 28, 36]
 [14] 100000 16384]) (.cond (tm 36) (.reg netlists_Fanout_r10 [.renS 47 100000 8, .keepB [3, 4, 5, 18, 19, 20, 26, 27, 28] [14] 100000 16384]) .skip)))) (.reg netlists_Fanout_r11 [.keepB [3, 4, 5, 18, 19, 20, 26, 27, 28] [14] 100000
 16384])))) [.keepB [3, 4, 5, 18, 19, 20, 26, 27, 28] [14] 100000 16384]
def netlists_Fanout_l1 : IC := .loop netlists_Fanout_g0
abbrev netlists_Fanout_g2 : IC := .gh (.seq (.reg [od 21 (.bin .lss (tm 20) (tm 19))] [.keepB [3, 4, 18, 19, 20, 21] [14] 100000 16384]) (.seq (.cond (tm 21) .skip (.exit 0)) (.seq (.block 1 (.seq (.reg [om 22 20, od 23 (ia 4 18 20), od 24 (lG 4 23), od 6 (.alloc
 false [(.int .u8 0), (.slice none 0 0), (.int .i64 0), (.int .i64 0)]), om 5 22, on (.store 4 (tm 6) (tm 24))] [.keepB [3, 4, 5, 6, 18, 19, 20] [6, 14] 100000 16384]) (.seq (.reg [od 25 (fa 1 6), od 26 (ld 1 25), od 27 (le 0 26),
 od 28 (.mv (ki 0))] [.keepB [3, 4, 5, 18, 19, 20, 26, 27, 28] [14] 100000 16384]) (.block 2 netlists_Fanout_l1)))) (.reg [od 50 (.bin .add (tm 20) (ki 1)), om 20 50] [.keepB [3, 4, 18, 19, 20] [14] 100000 16384])))) [.keepB [3, 4,
 18, 19, 20] [14] 100000 16384]
def netlists_Fanout_l3 : IC := .loop netlists_Fanout_g2
abbrev netlists_Fanout_g4 : IC := .gh (.seq (.reg [od 54 (.bin .lss (tm 53) (tm 52))] [kp [3, 51, 52, 53, 54] [14, 47]]) (.seq (.cond (tm 54) .skip (.exit 4)) (.seq (.block 5 (.seq (.reg [om 55 53, od 56 (ia 1 51 53), od 57 (ld 1 56), om 9 55, om 10 57] [kp [3, 9,
 10, 51, 52, 53] [14, 47]]) (.reg [om 58 3, om 59 9, om 60 10, od 61 (.call 176 [(tm 60)]), od 62 (ia 1 58 59), on (.store 1 (tm 62) (tm 61))] [kp [3, 51, 52, 53] [14, 47]]))) (.reg [od 63 (.bin .add (tm 53) (ki 1)), om 53 63] [kp
 [3, 51, 52, 53] [14, 47]])))) [kp [3, 51, 52, 53] [14, 47]]
def netlists_Fanout_l5 : IC := .loop netlists_Fanout_g4
abbrev netlists_Fanout_ic : IC := (.seq (.reg [od 1 (.box true (tm 0)), od 2 (.mv kN)] [kp [1] []]) (.seq (.reg [od 11 (fa 0 1), od 12 (ld 1 11), od 13 (le 0 12), od 14 (.mkB 203 [(.slice none 0 0)] (tm 13) (tm 13)), om 3 14] [.keepB [1, 3] [14] 100000 16384])
 (.seq (.reg [od 15 (lG 4 1), od 16 (.call 175 [(tm 15)]), om 4 16] [.keepB [1, 3, 4] [14] 100000 16384]) (.seq (.seq (.reg [od 17 (fa 0 1), od 18 (ld 1 17), od 19 (le 0 18), od 20 (.mv (ki 0))] [.keepB [3, 4, 18, 19, 20] [14]
 100000 16384]) (.block 0 netlists_Fanout_l3)) (.seq (.seq (.reg [om 51 3, od 52 (le 0 51), od 53 (.mv (ki 0))] [.frzs 100000 16384, kp [3, 51, 52, 53] [14, 47]]) (.block 4 netlists_Fanout_l5)) (.seq (.reg [om 64 3, om 2 64] [kp [2]
 [14, 47]]) .ret))))))
theorem netlists_Fanout_l1_run (h : ∀ K : St → Prop, K = run P Γ netlists_Fanout_l1 Q → run P Γ netlists_Fanout_g0 (thenX K Q) s) : run P Γ netlists_Fanout_l1 Q s := run_loop h
theorem netlists_Fanout_l3_run (h : ∀ K : St → Prop, K = run P Γ netlists_Fanout_l3 Q → run P Γ netlists_Fanout_g2 (thenX K Q) s) : run P Γ netlists_Fanout_l3 Q s := run_loop h
theorem netlists_Fanout_l5_run (h : ∀ K : St → Prop, K = run P Γ netlists_Fanout_l5 Q → run P Γ netlists_Fanout_g4 (thenX K Q) s) : run P Γ netlists_Fanout_l5 Q s := run_loop h
attribute [simp] netlists_Fanout_r10 netlists_Fanout_r11
def netlists_Fanout_rv : List RV := [.tmp 2]
/- slices.Index[[]probecard/api.Kind,probecard/api.Kind] (function 161) -/
abbrev slices_Index_api_Kind_g0 : IC := .gh (.seq (.reg [od 9 (.bin .lss (tm 8) (tm 7))] [kp [0, 1, 7, 8, 9] []]) (.seq (.cond (tm 9) .skip (.exit 0)) (.seq (.block 1 (.seq (.reg [om 10 8, om 5 10] [kp [0, 1, 5, 7, 8] []]) (.seq (.reg [om 11 1, om 12 0, om 13 5, od 14
 (ia 1 12 13), od 15 (ld 1 14), od 16 (.bin .eql (tm 11) (tm 15))] [kp [0, 1, 5, 7, 8, 16] []]) (.cond (tm 16) (.seq (.reg [om 17 5, om 4 17] [kp [4] []]) .ret) .skip)))) (.reg [od 18 (.bin .add (tm 8) (ki 1)), om 8 18] [kp [0, 1,
 7, 8] []])))) [kp [0, 1, 7, 8] []]
def slices_Index_api_Kind_l1 : IC := .loop slices_Index_api_Kind_g0
def slices_Index_api_Kind_r7 : List RO := [od 4 (.mv (.const (.int .i64 (-1))))]
abbrev slices_Index_api_Kind_ic : IC := (.seq (.reg [od 4 (.mv (ki 0))] [kp [0, 1] []]) (.seq (.seq (.reg [om 6 0, od 7 (le 0 6), od 8 (.mv (ki 0))] [kp [0, 1, 7, 8] []]) (.block 0 slices_Index_api_Kind_l1)) (.seq (.reg slices_Index_api_Kind_r7 [kp [4] []]) .ret)))
theorem slices_Index_api_Kind_l1_run (h : ∀ K : St → Prop, K = run P Γ slices_Index_api_Kind_l1 Q → run P Γ slices_Index_api_Kind_g0 (thenX K Q) s) : run P Γ slices_Index_api_Kind_l1 Q s := run_loop h
attribute [simp] slices_Index_api_Kind_r7
def slices_Index_api_Kind_rv : List RV := [.tmp 4]
/- probecard/logic.Fanin (function 114) -/
abbrev logic_Fanin_ic : IC := (.seq (.reg [od 2 (.mv (ki 0)), od 3 (.mv (ki 0))] [kp [0] []]) (.seq (.seq (.reg [om 4 0, od 5 (.conv .i64 (tm 4)), od 6 (.bin .geq (tm 5) (ki 16))] [kp [0, 6] []]) (.cond (tm 6) (.seq (.reg [od 2 (.mv (ki 0)), od 3 (.mv (.const
 (.int .i64 (-1))))] [kp [2, 3] []]) .ret) .skip)) (.seq (.reg [om 7 0, od 8 (.iadrA 16 2 (.global 0) (tm 7)), od 9 (.iadrA 2 1 (tm 8) (ki 0)), od 10 (ld 1 9), om 11 0, od 12 (.iadrA 16 2 (.global 0) (tm 11)), od 13 (.iadrA 2 1 (tm
 12) (ki 1)), od 14 (ld 1 13), om 2 10, om 3 14] [kp [2, 3] []]) .ret)))
def logic_Fanin_rv : List RV := [.tmp 2, .tmp 3]
/- strings.IndexByte (function 126) -/
abbrev strings_IndexByte_ic : IC := (.seq (.reg [od 4 (.mv (ki 0))] [kp [0, 1] []]) (.seq (.reg [om 5 0, om 6 1, od 7 (.call 159 [(tm 5), (tm 6)]), om 4 7] [kp [4] []]) .ret))
def strings_IndexByte_rv : List RV := [.tmp 4]
/- probecard/netlists.node (function 171) -/
abbrev netlists_node_ic : IC := (.seq (.reg [od 2 (.box true (tm 0)), od 3 (.box true (tm 1)), od 4 (.mv (ki 0))] [kp [2, 3] []]) (.seq (.reg [od 9 (fa 0 3), od 10 (ld 1 9), od 11 (.call 114 [(tm 10)]), om 8 11, od 12 (ex 8 0), od 13 (ex 8 1), om 5 12, om 6 13]
 [kp [2, 3, 5, 6] []]) (.seq (.reg [od 14 (.mkf 190 [(tm 2)]), om 7 14] [kp [2, 3, 5, 6, 7] []]) (.seq (.block 0 (.seq (.reg [od 16 (fa 0 3), od 17 (ld 1 16), od 18 (.bin .gtr (tm 17) (ku 15)), om 15 18] [kp [2, 3, 5, 6, 7, 15] []])
 (.cond (tm 15) (.seq (.reg [od 4 (.mv (ki 7))] [kp [4] []]) .ret) (.seq (.reg [od 20 (fa 1 3), od 21 (ld 1 20), od 22 (le 0 21), om 23 5, od 24 (.bin .lss (tm 22) (tm 23)), om 25 24, oF 26 (fa 1 3) 25, oF 27 (ld 1 26) 25, oF 28 (le
 0 27) 25, oF 29 (.mv (tm 6)) 25, oF 30 (.bin .gtr (tm 28) (tm 29)) 25, od 31 (.pick (tm 25) kT (tm 30)), om 19 31] [kp [2, 3, 7, 19] []]) (.cond (tm 19) (.seq (.reg [od 4 (.mv (ki 8))] [kp [4] []]) .ret) (.seq (.reg [od 33 (fa 1
 3), od 34 (ld 1 33), od 35 (lG 4 2), od 36 (.call 175 [(tm 35)]), od 37 (.call 174 [(tm 34), (tm 36)]), om 32 37] [kp [2, 3, 7, 32] []]) (.cond (tm 32) (.seq (.reg [od 4 (.mv (ki 1))] [kp [4] []]) .ret) (.seq (.reg [od 39 (fa 0 3),
 od 40 (ld 1 39), od 41 (.bin .eql (tm 40) (ku 13)), om 42 41, oT 43 (fa 1 3) 42, oT 44 (ld 1 43) 42, oT 45 (.mv (tm 7)) 42, oT 46 (.call 174 [(tm 44), (tm 45)]) 42, od 47 (.pick (tm 42) (tm 46) kF), om 38 47] [kp [2, 3, 38] []])
 (.cond (tm 38) (.seq (.reg [od 4 (.mv (ki 7))] [kp [4] []]) .ret) (.seq (.reg [od 49 (lG 4 2), od 50 (lG 4 3), od 51 (.call 191 [(tm 49), (tm 50)]), od 52 (.un .not (tm 51)), om 48 52] [kp [48] []]) (.cond (tm 48) (.seq (.reg [od 4
 (.mv (ki 1))] [kp [4] []]) .ret) .skip))))))))))) (.seq (.reg [od 4 (.mv (ki 0))] [kp [4] []]) .ret)))))
def netlists_node_rv : List RV := [.tmp 4]
/- probecard/netlists.names (function 172) -/
abbrev netlists_names_g0 : IC := .gh (.seq (.reg [od 11 (.bin .lss (tm 10) (tm 9))] [kp [3, 8, 9, 10, 11] [6]]) (.seq (.cond (tm 11) .skip (.exit 0)) (.seq (.block 1 (.seq (.reg [od 12 (ia 1 8 10), od 13 (ld 1 12), om 5 13] [kp [3, 5, 8, 9, 10] [6]]) (.seq (.seq
 (.reg [om 14 5, od 15 (.call 192 [(tm 14)]), od 16 (.un .not (tm 15)), om 17 16, oF 18 (.mv (tm 3)) 17, oF 19 (.mv (tm 5)) 17, oF 20 (.lkup .str (.bool false) false (tm 18) (tm 19)) 17, od 21 (.pick (tm 17) kT (tm 20))] [kp [3, 5,
 8, 9, 10, 21] [6]]) (.cond (tm 21) (.seq (.reg [od 2 (.mv (ki 5))] [kp [2] []]) .ret) .skip)) (.reg [om 22 3, om 23 5, on (.mup .str (tm 22) (tm 23) kT)] [kp [3, 8, 9, 10] [6]])))) (.reg [od 24 (.bin .add (tm 10) (ki 1)), om 10 24]
 [kp [3, 8, 9, 10] [6]])))) [kp [3, 8, 9, 10] [6]]
def netlists_names_l1 : IC := .loop netlists_names_g0
abbrev netlists_names_ic : IC := (.seq (.reg [od 1 (.box true (tm 0)), od 2 (.mv (ki 0))] [kp [1] []]) (.seq (.reg [od 6 (.mkmap), om 3 6] [kp [1, 3] [6]]) (.seq (.seq (.reg [od 7 (fa 1 1), od 8 (ld 1 7), od 9 (le 0 8), od 10 (.mv (ki 0))] [kp [3, 8, 9, 10] [6]])
 (.block 0 netlists_names_l1)) (.seq (.reg [od 2 (.mv (ki 0))] [kp [2] []]) .ret))))
theorem netlists_names_l1_run (h : ∀ K : St → Prop, K = run P Γ netlists_names_l1 Q → run P Γ netlists_names_g0 (thenX K Q) s) : run P Γ netlists_names_l1 Q s := run_loop h
def netlists_names_rv : List RV := [.tmp 2]
/- probecard/netlists.memory (function 173) -/
abbrev netlists_memory_ic : IC := (.seq (.reg [od 2 (.box true (tm 0)), od 3 (.box true (tm 1)), od 4 (.mv (ki 0))] [kp [2, 3] []]) (.seq (.reg [od 5 (.mv (.func 193))] [kp [2, 3, 5] []]) (.seq (.reg [od 7 (lG 4 2), od 8 (.call 175 [(tm 7)]), om 6 8] [kp [3, 5, 6]
 []]) (.seq (.block 0 (.seq (.reg [om 10 5, od 11 (fa 0 3), od 12 (ld 1 11), od 13 (.callv (tm 10) [(tm 12), (ki 8)]), om 14 13, oF 15 (.mv (tm 5)) 14, oF 16 (fa 1 3) 14, oF 17 (ld 1 16) 14, oF 18 (.callv (tm 15) [(tm 17), (ki 32)])
 14, od 19 (.pick (tm 14) kT (tm 18)), om 9 19] [kp [3, 6, 9] []]) (.cond (tm 9) (.seq (.reg [od 4 (.mv (ki 8))] [kp [4] []]) .ret) (.seq (.reg [od 21 (fa 0 3), od 22 (ld 1 21), om 23 6, od 24 (.call 174 [(tm 22), (tm 23)]), om 25
 24, oF 26 (fa 1 3) 25, oF 27 (ld 1 26) 25, oF 28 (.mv (tm 6)) 25, oF 29 (.call 174 [(tm 27), (tm 28)]) 25, od 30 (.pick (tm 25) kT (tm 29)), om 31 30, oF 32 (.mv (tm 6)) 31, oF 33 (fa 2 3) 31, oF 34 (ld 1 33) 31, oF 35 (.callv (tm
 32) [(tm 34)]) 31, od 36 (.pick (tm 31) kT (tm 35)), om 20 36] [kp [20] []]) (.cond (tm 20) (.seq (.reg [od 4 (.mv (ki 1))] [kp [4] []]) .ret) .skip))))) (.seq (.reg [od 4 (.mv (ki 0))] [kp [4] []]) .ret)))))
def netlists_memory_rv : List RV := [.tmp 4]
/- slices.ContainsFunc[[]int,int] (function 174) -/
abbrev slices_ContainsFunc_int_ic : IC := (.seq (.reg [od 4 (.mv kF)] [kp [0, 1] []]) (.seq (.reg [om 5 0, om 6 1, od 7 (.call 194 [(tm 5), (tm 6)]), od 8 (.bin .geq (tm 7) (ki 0)), om 4 8] [kp [4] []]) .ret))
def slices_ContainsFunc_int_rv : List RV := [.tmp 4]
/- probecard/netlists.outside (function 175) -/
abbrev netlists_outside_ic : IC := (.seq (.reg [od 1 (.box true (tm 0)), od 2 (.mv (.const .nilFunc))] [kp [1] []]) (.seq (.reg [od 3 (.mkf 195 [(tm 1)]), om 2 3] [kp [2] []]) .ret))
def netlists_outside_rv : List RV := [.tmp 2]
/- slices.Clip[[]probecard/api.Line,probecard/api.Line] (function 176) -/
abbrev slices_Clip_api_Line_ic : IC := (.seq (.reg [od 2 (.mv kN)] [kp [0] []]) (.seq (.reg [om 3 0, om 4 0, od 5 (le 0 4), om 6 0, od 7 (le 0 6), od 8 (.slice 2 (tm 3) none (some (tm 5)) (some (tm 7))), om 2 8] [kp [2] []]) .ret))
def slices_Clip_api_Line_rv : List RV := [.tmp 2]
/- internal/stringslite.IndexByte (function 159) -/
abbrev i_stringslite_IndexByte_ic : IC := (.seq (.reg [od 4 (.mv (ki 0))] [kp [0, 1] []]) (.seq (.reg [om 5 0, om 6 1, od 7 (.call 181 [(tm 5), (tm 6)]), om 4 7] [kp [4] []]) .ret))
def i_stringslite_IndexByte_rv : List RV := [.tmp 4]
/- probecard/netlists.node$1 (function 190) -/
abbrev netlists_node_1_ic : IC := (.seq (.reg [od 3 (.mv kF)] [kp [0, 1] []]) (.seq (.reg [od 4 (fa 0 1), od 5 (ld 1 4), om 6 0, od 7 (ia 4 5 6), od 8 (fa 0 7), od 9 (ld 1 8), od 10 (.bin .neq (tm 9) (ku 12)), om 3 10] [kp [3] []]) .ret))
def netlists_node_1_rv : List RV := [.tmp 3]
/- probecard/netlists.bit (function 191) -/
abbrev netlists_bit_ic : IC := (.seq (.reg [od 2 (.box true (tm 0)), od 3 (.box true (tm 1)), od 4 (.mv kF)] [kp [2, 3] []]) (.seq (.seq (.reg [od 5 (fa 0 3), od 6 (ld 1 5), od 7 (.bin .neq (tm 6) (ku 15))] [kp [2, 3, 7] []]) (.cond (tm 7) (.seq (.reg [od 8 (fa
 2 3), od 9 (ld 1 8), od 10 (.bin .eql (tm 9) (ki 0)), om 11 10, oT 12 (fa 3 3) 11, oT 13 (ld 1 12) 11, oT 14 (.bin .eql (tm 13) (ki 0)) 11, od 15 (.pick (tm 11) (tm 14) kF), om 4 15] [kp [4] []]) .ret) .skip)) (.seq (.reg [od 16
 (fa 2 3), od 17 (ld 1 16), od 18 (.bin .geq (tm 17) (ki 0)), om 19 18, oT 20 (fa 2 3) 19, oT 21 (ld 1 20) 19, oT 22 (fa 2 2) 19, oT 23 (ld 1 22) 19, oT 24 (le 0 23) 19, oT 25 (.bin .lss (tm 21) (tm 24)) 19, od 26 (.pick (tm 19) (tm
 25) kF), om 27 26, oT 28 (fa 3 3) 27, oT 29 (ld 1 28) 27, oT 30 (.bin .geq (tm 29) (ki 0)) 27, od 31 (.pick (tm 27) (tm 30) kF), om 32 31, oT 33 (fa 3 3) 32, oT 34 (ld 1 33) 32, oT 35 (fa 2 2) 32, oT 36 (ld 1 35) 32, oT 37 (fa 2 3)
 32, oT 38 (ld 1 37) 32, oT 39 (ia 3 36 38) 32, oT 40 (fa 1 39) 32, oT 41 (ld 1 40) 32, oT 42 (le 0 41) 32, oT 43 (.bin .lss (tm 34) (tm 42)) 32, od 44 (.pick (tm 32) (tm 43) kF), om 4 44] [kp [4] []]) .ret)))
def netlists_bit_rv : List RV := [.tmp 4]
/- probecard/netlists.IsName (function 192) -/
abbrev netlists_IsName_ic : IC := (.seq (.reg [od 2 (.mv kF)] [kp [0] []]) (.seq (.reg [od 3 (.mv (.func 204))] [kp [0, 3] []]) (.seq (.reg [om 4 0, od 5 (.bin .neq (tm 4) (.const (sV []))), om 6 5, oT 7 (.mv (tm 0)) 6, oT 8 (le 1 7) 6, oT 9 (.bin .leq (tm 8) (ki
 32)) 6, od 10 (.pick (tm 6) (tm 9) kF), om 11 10, oT 12 (.mv (tm 0)) 11, oT 13 (.mv (tm 3)) 11, oT 14 (.call 206 [(tm 12), (tm 13)]) 11, oT 15 (.un .not (tm 14)) 11, od 16 (.pick (tm 11) (tm 15) kF), om 2 16] [kp [2] []]) .ret)))
def netlists_IsName_rv : List RV := [.tmp 2]
/- probecard/netlists.memory$1 (function 193) -/
abbrev netlists_memory_1_ic : IC := (.seq (.reg [od 4 (.mv kF)] [kp [0, 1] []]) (.seq (.reg [om 5 0, od 6 (le 0 5), od 7 (.bin .eql (tm 6) (ki 0)), om 8 7, oF 9 (.mv (tm 0)) 8, oF 10 (le 0 9) 8, oF 11 (.mv (tm 1)) 8, oF 12 (.bin .gtr (tm 10) (tm 11)) 8, od 13 (.pick
 (tm 8) kT (tm 12)), om 4 13] [kp [4] []]) .ret))
def netlists_memory_1_rv : List RV := [.tmp 4]
/- slices.IndexFunc[[]int,int] (function 194) -/
abbrev slices_IndexFunc_int_g0 : IC := .gh (.seq (.reg [od 9 (.bin .lss (tm 8) (tm 7))] [kp [0, 1, 7, 8, 9] []]) (.seq (.cond (tm 9) .skip (.exit 0)) (.seq (.block 1 (.seq (.reg [om 10 8, om 5 10] [kp [0, 1, 5, 7, 8] []]) (.seq (.reg [om 11 1, om 12 0, om 13 5, od 14
 (ia 1 12 13), od 15 (ld 1 14), od 16 (.callv (tm 11) [(tm 15)])] [kp [0, 1, 5, 7, 8, 16] []]) (.cond (tm 16) (.seq (.reg [om 17 5, om 4 17] [kp [4] []]) .ret) .skip)))) (.reg [od 18 (.bin .add (tm 8) (ki 1)), om 8 18] [kp [0, 1, 7,
 8] []])))) [kp [0, 1, 7, 8] []]
def slices_IndexFunc_int_l1 : IC := .loop slices_IndexFunc_int_g0
abbrev slices_IndexFunc_int_ic : IC := (.seq (.reg [od 4 (.mv (ki 0))] [kp [0, 1] []]) (.seq (.seq (.reg [om 6 0, od 7 (le 0 6), od 8 (.mv (ki 0))] [kp [0, 1, 7, 8] []]) (.block 0 slices_IndexFunc_int_l1)) (.seq (.reg [od 4 (.mv (.const (.int .i64 (-1))))] [kp [4] []])
 .ret)))
theorem slices_IndexFunc_int_l1_run (h : ∀ K : St → Prop, K = run P Γ slices_IndexFunc_int_l1 Q → run P Γ slices_IndexFunc_int_g0 (thenX K Q) s) : run P Γ slices_IndexFunc_int_l1 Q s := run_loop h
def slices_IndexFunc_int_rv : List RV := [.tmp 4]
/- probecard/netlists.outside$1 (function 195) -/
abbrev netlists_outside_1_ic : IC := (.seq (.reg [od 3 (.mv kF)] [kp [0, 1] []]) (.seq (.reg [om 4 0, od 5 (.bin .lss (tm 4) (ki 0)), om 6 5, oF 7 (.mv (tm 0)) 6, oF 8 (fa 0 1) 6, oF 9 (ld 1 8) 6, oF 10 (le 0 9) 6, oF 11 (.bin .geq (tm 7) (tm 10)) 6, od 12 (.pick (tm
 6) kT (tm 11)), om 3 12] [kp [3] []]) .ret))
def netlists_outside_1_rv : List RV := [.tmp 3]
/- probecard/netlists.IsName$1 (function 204) -/
abbrev netlists_IsName_1_ic : IC := (.seq (.reg [od 2 (.mv kF)] [kp [0] []]) (.seq (.reg [om 3 0, od 4 (.bin .leq (tm 3) (.const (.int .i32 32))), om 5 4, oF 6 (.mv (tm 0)) 5, oF 7 (.bin .gtr (tm 6) (.const (.int .i32 126))) 5, od 8 (.pick (tm 5) kT (tm 7)), om 9 8,
 oF 10 (.mv (tm 0)) 9, oF 11 (.call 205 [(.const (sV [40, 41, 61, 44, 35])), (tm 10)]) 9, od 12 (.pick (tm 9) kT (tm 11)), om 2 12] [kp [2] []]) .ret))
def netlists_IsName_1_rv : List RV := [.tmp 2]
/- strings.ContainsRune (function 205) -/
abbrev strings_ContainsRune_ic : IC := (.seq (.reg [od 4 (.mv kF)] [kp [0, 1] []]) (.seq (.reg [om 5 0, om 6 1, od 7 (.call 212 [(tm 5), (tm 6)]), od 8 (.bin .geq (tm 7) (ki 0)), om 4 8] [kp [4] []]) .ret))
def strings_ContainsRune_rv : List RV := [.tmp 4]
/- strings.ContainsFunc (function 206) -/
abbrev strings_ContainsFunc_ic : IC := (.seq (.reg [od 4 (.mv kF)] [kp [0, 1] []]) (.seq (.reg [om 5 0, om 6 1, od 7 (.call 213 [(tm 5), (tm 6)]), od 8 (.bin .geq (tm 7) (ki 0)), om 4 8] [kp [4] []]) .ret))
def strings_ContainsFunc_rv : List RV := [.tmp 4]
/- strings.IndexRune (function 212) -/
abbrev strings_IndexRune_ic : IC := (.seq (.reg [od 4 (.mv (ki 0))] [kp [0, 1] []]) (.block 0 (.seq (.reg [om 161 1, od 162 (.bin .leq (.const (.int .i32 0)) (tm 161)), om 163 162, oT 164 (.mv (tm 1)) 163, oT 165 (.bin .lss (tm 164) (.const (.int .i32 128))) 163, od
 166 (.pick (tm 163) (tm 165) kF), om 160 166] [kp [0, 1, 160] []]) (.cond (tm 160) (.seq (.reg [om 167 0, om 168 1, od 169 (.conv .u8 (tm 168)), od 170 (.call 126 [(tm 167), (tm 169)]), om 4 170] [kp [4] []]) .ret) (.seq (.reg [om
 172 1, od 173 (.bin .eql (tm 172) (.const (.int .i32 65533))), om 171 173] [kp [1, 171] []]) (.cond (tm 171) .dead (.seq (.reg [om 184 1, od 185 (.call 214 [(tm 184)]), od 186 (.un .not (tm 185)), om 183 186] [kp [183] []]) (.cond
 (tm 183) .dead .dead))))))))
def strings_IndexRune_rv : List RV := [.tmp 4]
/- strings.IndexFunc (function 213) -/
abbrev strings_IndexFunc_ic : IC := (.seq (.reg [od 4 (.mv (ki 0))] [kp [0, 1] []]) (.seq (.reg [om 5 0, om 6 1, od 7 (.call 217 [(tm 5), (tm 6), kT]), om 4 7] [kp [4] []]) .ret))
def strings_IndexFunc_rv : List RV := [.tmp 4]
/- unicode/utf8.ValidRune (function 214) -/
abbrev strings_indexFunc_g0 : IC := .gh (.seq (.reg [od 11 (.nxt (tm 10)), od 12 (ex 11 0)] [kp [1, 2, 10, 11, 12] [10]]) (.seq (.cond (tm 12) .skip (.exit 0)) (.block 1 (.seq (.reg [od 13 (ex 11 1), od 14 (ex 11 2), om 7 13, om 8 14] [kp [1, 2, 7, 8, 10] [10]])
 (.seq (.reg [om 15 1, om 16 8, od 17 (.callv (tm 15) [(tm 16)]), om 18 2, od 19 (.eqb true (tm 17) (tm 18))] [kp [1, 2, 7, 10, 19] [10]]) (.cond (tm 19) (.seq (.reg [om 20 7, om 6 20] [kp [6] []]) .ret) .skip)))))) [kp [1, 2, 10]
 [10]]
def strings_indexFunc_l1 : IC := .loop strings_indexFunc_g0
abbrev strings_indexFunc_ic : IC := (.seq (.reg [od 6 (.mv (ki 0))] [kp [0, 1, 2] []]) (.seq (.seq (.reg [om 9 0, od 10 (.rng (tm 9))] [kp [1, 2, 10] [10]]) (.block 0 strings_indexFunc_l1)) (.seq (.reg [od 6 (.mv (.const (.int .i64 (-1))))] [kp [6] []]) .ret)))
theorem strings_indexFunc_l1_run (h : ∀ K : St → Prop, K = run P Γ strings_indexFunc_l1 Q → run P Γ strings_indexFunc_g0 (thenX K Q) s) : run P Γ strings_indexFunc_l1 Q s := run_loop h
def strings_indexFunc_rv : List RV := [.tmp 6]
/- slices.Clone[[]int,int] (function 86) -/
abbrev slices_Clone_int_ic : IC := (.seq (.reg [od 2 (.mv kN)] [kp [0] []]) (.seq (.seq (.reg [om 3 0, od 4 (.isNil true (tm 3))] [kp [0, 4] []]) (.cond (tm 4) (.seq (.reg [od 2 (.mv kN)] [kp [2] [7]]) .ret) .skip)) (.seq (.reg [od 5 (.bsl true 3 1 []), om 6 0, od 7
 (.app false 3 1 (tm 5) (tm 6)), om 2 7] [kp [2] [7]]) .ret)))
def slices_Clone_int_rv : List RV := [.tmp 2]
/- probecard/scans.plain (function 132) -/
abbrev scans_plain_ic : IC := (.seq (.reg [od 1 (.box true (tm 0)), od 2 (.mv (ki 0))] [kp [1] []]) (.seq (.seq (.reg [od 4 (lG 4 1), od 5 (.call 129 [(tm 4)]), om 3 5] [kp [1, 3] []]) (.seq (.reg [om 6 3, od 7 (.bin .neq (tm 6) (ki 0))] [kp [1, 3, 7] []])
 (.cond (tm 7) (.seq (.reg [om 8 3, om 2 8] [kp [2] []]) .ret) .skip))) (.seq (.seq (.reg [od 9 (fa 2 1), od 10 (ld 1 9), od 11 (le 0 10), od 12 (.bin .gtr (tm 11) (ki 0)), om 13 12, oF 14 (lG 4 1) 13, oF 15 (.bsl true 102 1 [(ku
 15)]) 13, oF 16 (.call 80 [(tm 14), (tm 15)]) 13, oF 17 (le 0 16) 13, oF 18 (.bin .gtr (tm 17) (ki 0)) 13, od 19 (.pick (tm 13) kT (tm 18))] [kp [19] []]) (.cond (tm 19) (.seq (.reg [od 2 (.mv (ki 7))] [kp [2] []]) .ret) .skip))
 (.seq (.reg [od 2 (.mv (ki 0))] [kp [2] []]) .ret))))
def scans_plain_rv : List RV := [.tmp 2]
end
end Go.Lg
namespace Go.Lg
open Go Go.Proofs
theorem netlists_Check_chk : chkF Tryz.prog 129 netlists_Check_ic 11 1 netlists_Check_rv = true := by kernel_rfl
theorem netlists_Of_chk : chkF Tryz.prog 80 netlists_Of_ic 27 2 netlists_Of_rv = true := by kernel_rfl
theorem netlists_States_chk : chkF Tryz.prog 27 netlists_States_ic 6 1 netlists_States_rv = true := by kernel_rfl
theorem netlists_Comb_chk : chkF Tryz.prog 56 netlists_Comb_ic 9 1 netlists_Comb_rv = true := by kernel_rfl
theorem slices_Clip_int_chk : chkF Tryz.prog 85 slices_Clip_int_ic 9 1 slices_Clip_int_rv = true := by kernel_rfl
theorem slices_Clip_ints_chk : chkF Tryz.prog 90 slices_Clip_ints_ic 9 1 slices_Clip_ints_rv = true := by kernel_rfl
theorem netlists_Levels_chk : chkF Tryz.prog 109 netlists_Levels_ic 131 1 netlists_Levels_rv = true := by kernel_rfl
theorem slices_Contains_api_Kind_chk : chkF Tryz.prog 131 slices_Contains_api_Kind_ic 9 2 slices_Contains_api_Kind_rv = true := by kernel_rfl
theorem netlists_shape_chk : chkF Tryz.prog 148 netlists_shape_ic 73 1 netlists_shape_rv = true := by kernel_rfl
theorem netlists_Fanout_chk : chkF Tryz.prog 149 netlists_Fanout_ic 65 1 netlists_Fanout_rv = true := by kernel_rfl
theorem slices_Index_api_Kind_chk : chkF Tryz.prog 161 slices_Index_api_Kind_ic 19 2 slices_Index_api_Kind_rv = true := by kernel_rfl
theorem logic_Fanin_chk : chkF Tryz.prog 114 logic_Fanin_ic 15 1 logic_Fanin_rv = true := by kernel_rfl
theorem strings_IndexByte_chk : chkF Tryz.prog 126 strings_IndexByte_ic 8 2 strings_IndexByte_rv = true := by kernel_rfl
theorem netlists_node_chk : chkF Tryz.prog 171 netlists_node_ic 53 2 netlists_node_rv = true := by kernel_rfl
theorem netlists_names_chk : chkF Tryz.prog 172 netlists_names_ic 25 1 netlists_names_rv = true := by kernel_rfl
theorem netlists_memory_chk : chkF Tryz.prog 173 netlists_memory_ic 37 2 netlists_memory_rv = true := by kernel_rfl
theorem slices_ContainsFunc_int_chk : chkF Tryz.prog 174 slices_ContainsFunc_int_ic 9 2 slices_ContainsFunc_int_rv = true := by kernel_rfl
theorem netlists_outside_chk : chkF Tryz.prog 175 netlists_outside_ic 4 1 netlists_outside_rv = true := by kernel_rfl
theorem slices_Clip_api_Line_chk : chkF Tryz.prog 176 slices_Clip_api_Line_ic 9 1 slices_Clip_api_Line_rv = true := by kernel_rfl
theorem i_stringslite_IndexByte_chk : chkF Tryz.prog 159 i_stringslite_IndexByte_ic 8 2 i_stringslite_IndexByte_rv = true := by kernel_rfl
theorem netlists_node_1_chk : chkF Tryz.prog 190 netlists_node_1_ic 11 2 netlists_node_1_rv = true := by kernel_rfl
theorem netlists_bit_chk : chkF Tryz.prog 191 netlists_bit_ic 45 2 netlists_bit_rv = true := by kernel_rfl
theorem netlists_IsName_chk : chkF Tryz.prog 192 netlists_IsName_ic 17 1 netlists_IsName_rv = true := by kernel_rfl
theorem netlists_memory_1_chk : chkF Tryz.prog 193 netlists_memory_1_ic 14 2 netlists_memory_1_rv = true := by kernel_rfl
theorem slices_IndexFunc_int_chk : chkF Tryz.prog 194 slices_IndexFunc_int_ic 19 2 slices_IndexFunc_int_rv = true := by kernel_rfl
theorem netlists_outside_1_chk : chkF Tryz.prog 195 netlists_outside_1_ic 13 2 netlists_outside_1_rv = true := by kernel_rfl
theorem netlists_IsName_1_chk : chkF Tryz.prog 204 netlists_IsName_1_ic 13 1 netlists_IsName_1_rv = true := by kernel_rfl
theorem strings_ContainsRune_chk : chkF Tryz.prog 205 strings_ContainsRune_ic 9 2 strings_ContainsRune_rv = true := by kernel_rfl
theorem strings_ContainsFunc_chk : chkF Tryz.prog 206 strings_ContainsFunc_ic 9 2 strings_ContainsFunc_rv = true := by kernel_rfl
theorem strings_IndexRune_chk : chkF Tryz.prog 212 strings_IndexRune_ic 187 2 strings_IndexRune_rv = true := by kernel_rfl
theorem strings_IndexFunc_chk : chkF Tryz.prog 213 strings_IndexFunc_ic 8 2 strings_IndexFunc_rv = true := by kernel_rfl
theorem strings_indexFunc_chk : chkF Tryz.prog 217 strings_indexFunc_ic 21 3 strings_indexFunc_rv = true := by kernel_rfl
theorem slices_Clone_int_chk : chkF Tryz.prog 86 slices_Clone_int_ic 8 1 slices_Clone_int_rv = true := by kernel_rfl
theorem scans_plain_chk : chkF Tryz.prog 132 scans_plain_ic 20 1 scans_plain_rv = true := by kernel_rfl
end Go.Lg
set_option maxRecDepth 100000
namespace Go.Lg
open Go Go.Proofs
variable {Γ : Tables}
theorem clip_int (es : List (List T)) (cap : Option Nat) (nl : Option Bool) (hw : wid 1 es) : PureCalls Tryz.prog Γ 85 [.sl es cap nl] (.sl es (some es.length) nl) := by
  refine run_pureQ slices_Clip_int_chk rfl ?_
  simp [slices_Clip_int_ic, slices_Clip_int_rv, ret, hw]
theorem clip_ints (es : List (List T)) (cap : Option Nat) (nl : Option Bool) (hw : wid 1 es) : PureCalls Tryz.prog Γ 90 [.sl es cap nl] (.sl es (some es.length) nl) := by
  refine run_pureQ slices_Clip_ints_chk rfl ?_
  simp [slices_Clip_ints_ic, slices_Clip_ints_rv, ret, hw]
theorem clip_line (es : List (List T)) (cap : Option Nat) (nl : Option Bool) (hw : wid 2 es) : PureCalls Tryz.prog Γ 176 [.sl es cap nl] (.sl es (some es.length) nl) := by
  refine run_pureQ slices_Clip_api_Line_chk rfl ?_
  simp [slices_Clip_api_Line_ic, slices_Clip_api_Line_rv, ret, hw]
theorem clip_int_h (ty : Nat) (es : List (List T)) (len : Nat) (cap : Option Nat) (hw : wid 1 es) : HCalls Tryz.prog Γ 85 [(1000000, .sl ty 1 es)] [.ls 1000000 0 len cap] (.ls 1000000 0 len (some len)) [(1000000, .sl ty 1 es)] := by
  refine run_handQ slices_Clip_int_chk rfl ?_
  simp [slices_Clip_int_ic, slices_Clip_int_rv, retH, hw]
end Go.Lg
namespace Go.Lg
open Go Go.Proofs
variable {Γ : Tables}
def idxP {α : Type} (p : α → Bool) (l : List α) : Int := match l.findIdx? p with | some i => i | none => -1
theorem findIdx_at {α : Type} {p : α → Bool} {l : List α} {i : Nat} (hp : ∀ j, j < i → ∀ x, l[j]? = some x → p x = false) (x : α) (hx : l[i]? = some x) (h : p x = true) : l.findIdx? p = some i := by
  rw [List.findIdx?_eq_some_iff_getElem]
  have hi := (List.getElem?_eq_some_iff.1 hx).1
  refine ⟨hi, ?_, fun j hj => ?_⟩
  · have := (List.getElem?_eq_some_iff.1 hx).2; rw [this]; exact h
  · have := hp j hj l[j] (List.getElem?_eq_getElem (by omega))
    simp [this]
theorem index_kind_loop (l : List Int) (c : Option Nat) (nl : Option Bool) (x : Int) (hl : l.length ≤ 1000000000) : ∀ (k i : Nat), k + i = l.length → (∀ j, j < i → ∀ y, l[j]? = some y → (y == x) = false) →
    run Tryz.prog Γ slices_Index_api_Kind_l1 (blockX 0 (thenX (run Tryz.prog Γ (.seq (.reg slices_Index_api_Kind_r7 [.keep [4] []]) .ret) (ret true slices_Index_api_Kind_rv fun r => r = tI (idxP (· == x) l))) (ret true slices_Index_api_Kind_rv fun r => r = tI (idxP (· == x) l)))) ⟨[(0, .t (.sl (enc1 tK l) c nl)), (1, .t (tK x)), (7, .t (tI l.length)), (8, .t (tI i))], []⟩
  | 0, i, h, hp => by
    refine slices_Index_api_Kind_l1_run fun K hK => ?_
    have h2 : ¬ i < l.length := by omega
    simp (disch := omega) [enc1_len, enc1_get (0 : Int), enc1_wid, wrap_i64, h2, ret, slices_Index_api_Kind_rv, flatSt, flatL, flatA, flatT]
    have : l.findIdx? (· == x) = none := by
      rw [List.findIdx?_eq_none_iff]
      intro y hy
      obtain ⟨j, hj, rfl⟩ := List.getElem_of_mem hy
      exact hp j (by omega) _ (List.getElem?_eq_getElem hj)
    have e : l.findIdx? (fun y => decide (y = x)) = _ := this
    simp [idxP, e]
  | k + 1, i, h, hp => by
    refine slices_Index_api_Kind_l1_run fun K hK => ?_
    have h2 : i < l.length := by omega
    simp (disch := omega) [enc1_len, enc1_get (0 : Int), enc1_wid, wrap_i64, h2]
    refine ⟨fun hc => ?_, fun hc => ?_⟩
    · simp [Later, ret, slices_Index_api_Kind_rv, flatSt, flatL, flatA, flatT]
      have := findIdx_at (p := (· == x)) hp l[i] (List.getElem?_eq_getElem h2) (by simp [hc])
      have e : l.findIdx? (fun y => decide (y = x)) = _ := this
      simp [idxP, e]
    · simp (disch := omega) [Later, wrap_i64]
      rw [hK]
      exact_mod_cast index_kind_loop l c nl x hl k (i + 1) (by omega) (fun j hj y hy => by
        rcases Nat.lt_succ_iff_lt_or_eq.1 hj with hj | rfl
        · exact hp j hj y hy
        · rw [List.getElem?_eq_getElem h2] at hy; simp at hy; subst hy
          simp; exact fun e => hc e.symm)
theorem index_kind (l : List Int) (c : Option Nat) (nl : Option Bool) (x : Int) (hl : l.length ≤ 1000000000) : FreshCalls Tryz.prog Γ 161 [.sl (enc1 tK l) c nl, tK x] (tI (idxP (· == x) l)) := by
  refine run_freshQ slices_Index_api_Kind_chk rfl ?_
  simp (disch := omega) [slices_Index_api_Kind_ic, enc1_len, wrap_i64]
  exact_mod_cast index_kind_loop l c nl x hl l.length 0 (by omega) (by simp)
theorem contains_kind (l : List Int) (c : Option Nat) (nl : Option Bool) (x : Int) (hl : l.length ≤ 1000000000) : FreshCalls Tryz.prog Γ 131 [.sl (enc1 tK l) c nl, tK x] (tB (l.contains x)) := by
  refine run_freshQ slices_Contains_api_Kind_chk rfl ?_
  simp (disch := omega) [slices_Contains_api_Kind_ic, enc1_len, wrap_i64]
  refine callK_fresh (index_kind l c nl x hl) rfl ?_
  simp [ret, slices_Contains_api_Kind_rv, flatSt, flatL, flatA, flatT]
  unfold idxP
  cases h : l.findIdx? (· == x) with
  | none =>
    rw [List.findIdx?_eq_none_iff] at h
    have : ¬ x ∈ l := fun hx => by simpa using h x hx
    simp [this]
  | some i =>
    rw [List.findIdx?_eq_some_iff_getElem] at h
    obtain ⟨hi, h1, _⟩ := h
    have : x ∈ l := by rw [← (show l[i] = x by simpa using h1)]; exact List.getElem_mem hi
    simp [this]
theorem optAll_some {cs : List T} : optAll (cs.map fun t => some t) = some cs := by
  induction cs with
  | nil => rfl
  | cons t cs ih => simp only [List.map_cons, optAll, ih, Option.map_some]
theorem callK_clos {hp : List (Nat × Reg)} {f : FuncId} {K : T → Prop} {cs : List T} {t res : T} (h : FreshCalls Tryz.prog Γ f (t :: cs) res) (hk : K res) : callK Tryz.prog Γ hp f (.t t :: cs.map .t) K ⟨⟩ :=
  callK_fresh h (by simp only [List.map_cons, List.map_map, Function.comp_def, optAll, reify]; rw [optAll_some]; rfl) hk
theorem indexfunc_loop {Q : AX → St → Prop} (l : List Int) (c : Option Nat) (nl : Option Bool) (f : FuncId) (cs : List T) (p : Int → Bool) (hp : ∀ x ∈ l, FreshCalls Tryz.prog Γ f (tI x :: cs) (tB (p x))) (hl : l.length ≤ 1000000000)
    (h0 : (∀ x ∈ l, p x = false) → Q (.exit 0) ⟨[(0, .t (.sl (ints l) c nl)), (1, .t (.fn f cs)), (7, .t (tI l.length)), (8, .t (tI l.length)), (9, .t (tB false))], []⟩)
    (h1 : ∀ i : Nat, l.findIdx? p = some i → Q .ret ⟨[(4, .t (tI i))], []⟩) : ∀ (k i : Nat), k + i = l.length → (∀ j, j < i → ∀ y, l[j]? = some y → p y = false) →
    run Tryz.prog Γ slices_IndexFunc_int_l1 Q ⟨[(0, .t (.sl (ints l) c nl)), (1, .t (.fn f cs)), (7, .t (tI l.length)), (8, .t (tI i))], []⟩
  | 0, i, h, hq => by
    refine slices_IndexFunc_int_l1_run fun K hK => ?_
    have h2 : ¬ i < l.length := by omega
    simp (disch := omega) [enc1_len, enc1_get (0 : Int), enc1_wid, wrap_i64, h2]
    have h3 : i = l.length := by omega
    subst h3
    refine h0 fun y hy => ?_
    obtain ⟨j, hj, rfl⟩ := List.getElem_of_mem hy
    exact hq j (by omega) _ (List.getElem?_eq_getElem hj)
  | k + 1, i, h, hq => by
    refine slices_IndexFunc_int_l1_run fun K hK => ?_
    have h2 : i < l.length := by omega
    simp (disch := omega) [enc1_len, enc1_get (0 : Int), enc1_wid, wrap_i64, h2]
    refine callK_clos (hp l[i] (List.getElem_mem h2)) ?_
    simp
    refine ⟨fun hc => ?_, fun hc => ?_⟩
    · simp [Later]
      exact h1 i (findIdx_at hq l[i] (List.getElem?_eq_getElem h2) hc)
    · simp (disch := omega) [Later, wrap_i64]
      rw [hK]
      exact_mod_cast indexfunc_loop l c nl f cs p hp hl h0 h1 k (i + 1) (by omega) (fun j hj y hy => by
        rcases Nat.lt_succ_iff_lt_or_eq.1 hj with hj | rfl
        · exact hq j hj y hy
        · rw [List.getElem?_eq_getElem h2] at hy; simp at hy; subst hy; exact hc)
theorem indexfunc_int (l : List Int) (c : Option Nat) (nl : Option Bool) (f : FuncId) (cs : List T) (p : Int → Bool) (hp : ∀ x ∈ l, FreshCalls Tryz.prog Γ f (tI x :: cs) (tB (p x))) (hl : l.length ≤ 1000000000) : FreshCalls Tryz.prog Γ 194 [.sl (ints l) c nl, .fn f cs] (tI (idxP p l)) := by
  refine run_freshQ slices_IndexFunc_int_chk rfl ?_
  simp (disch := omega) [slices_IndexFunc_int_ic, enc1_len, wrap_i64]
  refine indexfunc_loop l c nl f cs p hp hl (fun h => ?_) (fun i h => ?_) l.length 0 (by omega) (by simp)
  · have : l.findIdx? p = none := List.findIdx?_eq_none_iff.2 h
    simp [ret, slices_IndexFunc_int_rv, flatSt, flatL, flatA, flatT, idxP, this]
  · simp [ret, slices_IndexFunc_int_rv, flatSt, flatL, flatA, flatT, idxP, h]
theorem containsfunc_int (l : List Int) (c : Option Nat) (nl : Option Bool) (f : FuncId) (cs : List T) (p : Int → Bool) (hp : ∀ x ∈ l, FreshCalls Tryz.prog Γ f (tI x :: cs) (tB (p x))) (hl : l.length ≤ 1000000000) : FreshCalls Tryz.prog Γ 174 [.sl (ints l) c nl, .fn f cs] (tB (l.any p)) := by
  refine run_freshQ slices_ContainsFunc_int_chk rfl ?_
  simp (disch := omega) [slices_ContainsFunc_int_ic, enc1_len, wrap_i64]
  refine callK_fresh (indexfunc_int l c nl f cs p hp hl) rfl ?_
  simp [ret, slices_ContainsFunc_int_rv, flatSt, flatL, flatA, flatT]
  unfold idxP
  cases h : l.findIdx? p with
  | none =>
    rw [List.findIdx?_eq_none_iff] at h
    have : l.any p = false := by rw [List.any_eq_false]; intro x hx; simp [h x hx]
    simp [this]
  | some i =>
    rw [List.findIdx?_eq_some_iff_getElem] at h
    obtain ⟨hi, h1, _⟩ := h
    have : l.any p = true := List.any_eq_true.2 ⟨_, List.getElem_mem hi, h1⟩
    simp [this]
theorem comb_spec (k : Int) : FreshCalls Tryz.prog Γ 56 [tK k] (tB (decide (1 ≤ k ∧ k ≤ 13))) := by
  refine run_freshQ netlists_Comb_chk rfl ?_
  by_cases h1 : 1 ≤ k <;> by_cases h2 : k ≤ 13 <;> simp [netlists_Comb_ic, ret, netlists_Comb_rv, flatSt, flatL, flatA, flatT, h1, h2]
structure Nd where
  k : Int
  inn : Sl Int
  mem : Int
  bit : Int
structure Mm where
  addr : Sl Int
  data : Sl Int
  write : Int
structure Cir where
  nodes : Sl Nd
  names : Sl (List UInt8)
  mems : Sl Mm
  outs : Sl Int
def tNd (x : Nd) : List T := [tK x.k, tSl x.inn, tI x.mem, tI x.bit]
def tMm (m : Mm) : List T := [tSl m.addr, tSl m.data, tI m.write]
def tS (l : List UInt8) : T := .v (sV l)
def tNodes (s : Sl Nd) : T := .sl (encN tNd s.l) s.cap s.nl
def tNames (s : Sl (List UInt8)) : T := .sl (enc1 tS s.l) s.cap s.nl
def tMems (s : Sl Mm) : T := .sl (encN tMm s.l) s.cap s.nl
def tC (c : Cir) : List T := [tNodes c.nodes, tNames c.names, tMems c.mems, tSl c.outs]
def Nd.d : Nd := ⟨0, ⟨[], none, none⟩, 0, 0⟩
def Mm.d : Mm := ⟨⟨[], none, none⟩, ⟨[], none, none⟩, 0⟩
theorem tNd_wid {l : List Nd} : wid 4 (encN tNd l) := encN_wid fun _ => rfl
theorem tMm_wid {l : List Mm} : wid 3 (encN tMm l) := encN_wid fun _ => rfl
structure CirOk (c : Cir) : Prop where
  nodes : c.nodes.l.length ≤ 1000000000
  names : c.names.l.length ≤ 1000000000
  mems : c.mems.l.length ≤ 1000000000
  outs : c.outs.l.length ≤ 1000000000
  kind : ∀ x ∈ c.nodes.l, 0 ≤ x.k ∧ x.k ≤ 255
  inn : ∀ x ∈ c.nodes.l, x.inn.l.length ≤ 1000000000
  addr : ∀ m ∈ c.mems.l, m.addr.l.length ≤ 1000000000 ∧ m.data.l.length ≤ 1000000000
def outP (c : Cir) (n : Int) : Bool := decide (n < 0 ∨ (c.nodes.l.length : Int) ≤ n)
theorem outside1_spec (c : Cir) (n : Int) (hc : c.nodes.l.length ≤ 1000000000) : FreshCalls Tryz.prog Γ 195 [tI n, .ip (tC c) 0] (tB (outP c n)) := by
  refine run_freshQ netlists_outside_1_chk rfl ?_
  by_cases h1 : n < 0 <;> simp (disch := omega) [netlists_outside_1_ic, ret, netlists_outside_1_rv, flatSt, flatL, flatA, flatT, h1, tC, tNodes, encN_len, wrap_i64, outP]
theorem outside_spec (c : Cir) : PureCalls Tryz.prog Γ 175 [.agg (tC c)] (.fn 195 [.ip (tC c) 0]) := by
  refine run_pureQ netlists_outside_chk rfl ?_
  simp [netlists_outside_ic, ret, netlists_outside_rv, tC, onesT, onesA, T.one, AV.one, tNodes, tNames, tMems, tSl]
theorem containsOut (c : Cir) (hc : c.nodes.l.length ≤ 1000000000) (l : List Int) (cap : Option Nat) (nl : Option Bool) (hl : l.length ≤ 1000000000) : FreshCalls Tryz.prog Γ 174 [.sl (ints l) cap nl, .fn 195 [.ip (tC c) 0]] (tB (l.any (outP c))) :=
  containsfunc_int l cap nl _ _ _ (fun x _ => outside1_spec c x hc) hl
end Go.Lg
namespace Go.Lg
open Go Go.Proofs
variable {Γ : Tables}
def fanL : List (Int × Int) := [(0, 0), (0, 0), (0, 0), (1, 1), (1, 1), (2, 16), (2, 16), (2, 16), (2, 16), (2, 16), (2, 16), (3, 3), (2, 2), (1, 16), (1, 1), (0, 0)]
def fanC : List T := fanL.flatMap fun p => [tI p.1, tI p.2]
def fan (k : Int) : Int × Int := if 16 ≤ k then (0, -1) else fanL.getD k.toNat (0, 0)
def GOk (Γ : Tables) : Prop := Γ 0 = some fanC
theorem fanin_spec (hΓ : GOk Γ) (k : Int) (h0 : 0 ≤ k) (h1 : k ≤ 255) : FreshCalls Tryz.prog Γ 114 [tK k] (.tup [tI (fan k).1, tI (fan k).2]) := by
  unfold GOk at hΓ
  refine run_freshQ logic_Fanin_chk rfl ?_
  by_cases h2 : 16 ≤ k
  · simp (disch := omega) [logic_Fanin_ic, ret, logic_Fanin_rv, flatSt, flatL, flatA, flatT, h2, wrap_i64, fan]
  · have h3 : k = 0 ∨ k = 1 ∨ k = 2 ∨ k = 3 ∨ k = 4 ∨ k = 5 ∨ k = 6 ∨ k = 7 ∨ k = 8 ∨ k = 9 ∨ k = 10 ∨ k = 11 ∨ k = 12 ∨ k = 13 ∨ k = 14 ∨ k = 15 := by omega
    rcases h3 with rfl | rfl | rfl | rfl | rfl | rfl | rfl | rfl | rfl | rfl | rfl | rfl | rfl | rfl | rfl | rfl <;>
    simp (disch := omega) [logic_Fanin_ic, ret, logic_Fanin_rv, flatSt, flatL, flatA, flatT, wrap_i64, fan, hΓ, fanC, fanL] <;> exact ⟨rfl, rfl⟩
def bitOk (c : Cir) (x : Nd) : Bool :=
  if x.k ≠ 15 then decide (x.mem = 0 ∧ x.bit = 0)
  else decide (0 ≤ x.mem ∧ x.mem < c.mems.l.length ∧ 0 ≤ x.bit ∧ x.bit < ((c.mems.l.getD x.mem.toNat Mm.d).data.l.length))
theorem bit_spec (c : Cir) (x : Nd) (hc : CirOk c) : FreshCalls Tryz.prog Γ 191 [.agg (tC c), .agg (tNd x)] (tB (bitOk c x)) := by
  refine run_freshQ netlists_bit_chk rfl ?_
  have hm := hc.mems
  by_cases h1 : x.k = 15
  · by_cases h2 : 0 ≤ x.mem
    · by_cases h3 : x.mem < c.mems.l.length
      · have h3' : x.mem.toNat < c.mems.l.length := by omega
        by_cases h4 : 0 ≤ x.bit
        · simp (disch := omega) [netlists_bit_ic, ret, netlists_bit_rv, flatSt, flatL, flatA, flatT, onesT, onesA, T.one, AV.one, tC, tNd, tNodes, tNames, tMems, tSl, h1, h2, h3, h4, h3', encN_len, encN_get Mm.d, wrap_i64, tMm_wid, tMm, enc1_len, bitOk]
        · simp (disch := omega) [netlists_bit_ic, ret, netlists_bit_rv, flatSt, flatL, flatA, flatT, onesT, onesA, T.one, AV.one, tC, tNd, tNodes, tNames, tMems, tSl, h1, h2, h3, h4, h3', encN_len, encN_get Mm.d, wrap_i64, tMm_wid, tMm, enc1_len, bitOk]
      · simp (disch := omega) [netlists_bit_ic, ret, netlists_bit_rv, flatSt, flatL, flatA, flatT, onesT, onesA, T.one, AV.one, tC, tNd, tNodes, tNames, tMems, tSl, h1, h2, h3, encN_len, encN_get Mm.d, wrap_i64, tMm_wid, tMm, enc1_len, bitOk]
    · simp (disch := omega) [netlists_bit_ic, ret, netlists_bit_rv, flatSt, flatL, flatA, flatT, onesT, onesA, T.one, AV.one, tC, tNd, tNodes, tNames, tMems, tSl, h1, h2, encN_len, encN_get Mm.d, wrap_i64, tMm_wid, tMm, enc1_len, bitOk]
  · by_cases h2 : x.mem = 0
    · simp (disch := omega) [Later, netlists_bit_ic, netlists_bit_rv, tC, tNd, tNodes, tNames, tMems, tSl, h1, h2, bitOk, -decide_eq_decide]
    · have h2' : (x.mem == 0) = false := by simpa using h2
      simp (disch := omega) [Later, netlists_bit_ic, netlists_bit_rv, tC, tNd, tNodes, tNames, tMems, tSl, h1, h2, h2', bitOk]
def memOut (l : List Int) (most : Int) : Bool := decide (l.length = 0 ∨ most < l.length)
theorem memory1_spec (l : List Int) (cap : Option Nat) (nl : Option Bool) (most : Int) (hl : l.length ≤ 1000000000) : FreshCalls Tryz.prog Γ 193 [.sl (ints l) cap nl, tI most] (tB (memOut l most)) := by
  refine run_freshQ netlists_memory_1_chk rfl ?_
  by_cases h : l.length = 0 <;> simp (disch := omega) [netlists_memory_1_ic, ret, netlists_memory_1_rv, flatSt, flatL, flatA, flatT, enc1_len, h, memOut, wrap_i64]
def notTri (c : Cir) (n : Int) : Bool := decide ((c.nodes.l.getD n.toNat Nd.d).k ≠ 12)
theorem node1_spec (c : Cir) (n : Int) (h0 : 0 ≤ n) (h1 : n < c.nodes.l.length) : FreshCalls Tryz.prog Γ 190 [tI n, .ip (tC c) 0] (tB (notTri c n)) := by
  refine run_freshQ netlists_node_1_chk rfl ?_
  have h2 : n.toNat < c.nodes.l.length := by omega
  simp (disch := omega) [netlists_node_1_ic, ret, netlists_node_1_rv, flatSt, flatL, flatA, flatT, tC, tNodes, encN_len, encN_get Nd.d, tNd_wid, h0, h1, h2, notTri, tNd]
def nodeErr (c : Cir) (x : Nd) : Int :=
  if 15 < x.k then 7 else if (x.inn.l.length : Int) < (fan x.k).1 ∨ (fan x.k).2 < x.inn.l.length then 8 else if x.inn.l.any (outP c) then 1
  else if x.k = 13 ∧ x.inn.l.any (notTri c) = true then 7 else if bitOk c x = false then 1 else 0
theorem any_out {c : Cir} {l : List Int} (h : l.any (outP c) = false) : ∀ n ∈ l, 0 ≤ n ∧ n < c.nodes.l.length := by
  intro n hn
  have := List.any_eq_false.1 h n hn
  simp only [outP, decide_eq_true_eq, not_or, Int.not_lt, Int.not_le] at this
  exact this
theorem node_spec (hΓ : GOk Γ) (c : Cir) (x : Nd) (hc : CirOk c) (hk : 0 ≤ x.k ∧ x.k ≤ 255) (hl : x.inn.l.length ≤ 1000000000) : FreshCalls Tryz.prog Γ 171 [.agg (tC c), .agg (tNd x)] (tI (nodeErr c x)) := by
  refine run_freshQ netlists_node_chk rfl ?_
  have hn := hc.nodes
  have e1 := containsOut (Γ := Γ) c hn x.inn.l x.inn.cap x.inn.nl hl
  have e2 := fanin_spec hΓ x.k hk.1 hk.2
  have e3 := outside_spec (Γ := Γ) c
  have e4 := bit_spec (Γ := Γ) c x hc
  simp (disch := omega) [netlists_node_ic, onesT, onesA, T.one, AV.one, tC, tNd, tNodes, tNames, tMems, tSl]
  refine callK_fresh e2 rfl ?_
  simp (disch := omega)
  simp
  refine ⟨fun h1 => ?_, fun h1 => ?_⟩
  · simp [Later, ret, netlists_node_rv, flatSt, flatL, flatA, flatT, nodeErr, h1]
  by_cases h2 : (x.inn.l.length : Int) < (fan x.k).1
  · simp (disch := omega) [Later, enc1_len, wrap_i64, h2, ret, netlists_node_rv, flatSt, flatL, flatA, flatT, nodeErr, h1]
  by_cases h3 : (fan x.k).2 < x.inn.l.length
  · simp (disch := omega) [Later, enc1_len, wrap_i64, h2, h3, ret, netlists_node_rv, flatSt, flatL, flatA, flatT, nodeErr, h1]
  simp (disch := omega) [Later, enc1_len, wrap_i64, h2, h3]
  refine callK_pure e3 rfl ?_
  simp (disch := omega)
  refine callK_fresh e1 rfl ?_
  simp (disch := omega) [-List.any_eq_true, -List.any_eq_false]
  refine ⟨fun h4 => ?_, fun h4 => ?_⟩
  · simp [-List.any_eq_true, -List.any_eq_false, Later, ret, netlists_node_rv, flatSt, flatL, flatA, flatT, nodeErr, h1, h2, h3, h4]
  have h4' : x.inn.l.any (outP c) = false := h4
  by_cases h5 : x.k = 13
  · have e5 := containsfunc_int (Γ := Γ) x.inn.l x.inn.cap x.inn.nl 190 [.ip (tC c) 0] (notTri c) (fun n hm => node1_spec c n (any_out h4' n hm).1 (any_out h4' n hm).2) hl
    simp (disch := omega) [Later, h5]
    refine callK_fresh e5 rfl ?_
    simp [-List.any_eq_true, -List.any_eq_false]
    refine ⟨fun h6 => ?_, fun h6 => ?_⟩
    · have h6' : x.inn.l.any (notTri c) = true := h6
      simp [-List.any_eq_true, -List.any_eq_false, Later, ret, netlists_node_rv, flatSt, flatL, flatA, flatT, nodeErr, h1, h2, h3, h4', h5, h6']
      simp [h5] at h2 h3; omega
    · have h6' : x.inn.l.any (notTri c) = false := h6
      have e : nodeErr c x = if bitOk c x = false then 1 else 0 := by
        unfold nodeErr
        rw [if_neg (by omega), if_neg (by omega), if_neg (by simp [h4']), if_neg (by simp [h6'])]
      rw [e]
      simp (disch := omega) [Later, h6']
      rw [show tNd x = [tK 13, tSl x.inn, tI x.mem, tI x.bit] from by simp [tNd, h5]] at e4
      refine callK_fresh e4 rfl ?_
      simp
      refine ⟨fun h7 => ?_, fun h7 => ?_⟩ <;> simp [Later, netlists_node_rv, h7]
  · have e : nodeErr c x = if bitOk c x = false then 1 else 0 := by
      unfold nodeErr
      rw [if_neg (by omega), if_neg (by omega), if_neg (by simp [h4']), if_neg (by simp [h5])]
    rw [e]
    simp (disch := omega) [Later, h5]
    refine callK_fresh e4 rfl ?_
    simp
    refine ⟨fun h7 => ?_, fun h7 => ?_⟩ <;> simp [Later, netlists_node_rv, h7]
end Go.Lg
namespace Go.Lg
open Go Go.Proofs
variable {Γ : Tables}
theorem n127 : (Tryz.prog.funcs[181]?).map (fun f => (f.name, f.body.isNone, f.origin)) = some ("internal/bytealg.IndexByteString", true, "") := by kernel_rfl
abbrev tR (n : Int) : T := .v (.int .i32 n)
theorem indexByteString_spec (s : ByteArray) (c : Int) : FreshCalls Tryz.prog Γ 181 [.v (.string s), tK c] (tI (Lib.indexByte s.data.toList c.toNat.toUInt8)) := by
  intro w X vs hg hx hts
  obtain ⟨x, xs, rfl, h1, h2⟩ := hts.cons_inv
  obtain ⟨y, ys, rfl, h3, h4⟩ := h2.cons_inv
  have := h4.nil_inv; subst this
  cases h1; cases h3
  refine .inr ⟨.int .i64 (Lib.indexByte s.data.toList c.toNat.toUInt8), ?_, RowKit.Below.refl _ _, .v _⟩
  have h := n127
  simp only [Option.map_eq_some_iff, Prod.mk.injEq] at h
  obtain ⟨fn, hf, hn, hb, ho⟩ := h
  have e1 : Extern.findNext fn = none := by
    simp only [Extern.findNext, hn, ho]
    have a : Extern.allNextRows.lookup "internal/bytealg.IndexByteString" = none := by kernel_rfl
    have b : Extern.allNextRows.lookup "" = none := by kernel_rfl
    rw [a, b]; rfl
  have e2 : Extern.find fn = some Extern.BytealgIndexByte.indexByte := by
    simp only [Extern.find, hn, ho]
    have a : Extern.allGenericRows.lookup "internal/bytealg.IndexByteString" = none := by kernel_rfl
    have b : Extern.allTypedRows.lookup "internal/bytealg.IndexByteString" = none := by kernel_rfl
    have c : Extern.allRows.lookup "internal/bytealg.IndexByteString" = some Extern.BytealgIndexByte.indexByte := by kernel_rfl
    rw [a, b, c]; rfl
  have hnn : ¬ fn.name = "runtime.NumGoroutine" := by rw [hn]; decide
  have hr := Lib.run_indexByteString (P := Tryz.prog) s c w
  have hb' : fn.body = none := by simpa using hb
  simp [callFunc, hf, hnn, hb', e1, e2, hr]
theorem lite_spec (s : ByteArray) (c : Int) : FreshCalls Tryz.prog Γ 159 [.v (.string s), tK c] (tI (Lib.indexByte s.data.toList c.toNat.toUInt8)) := by
  refine run_freshQ i_stringslite_IndexByte_chk rfl ?_
  simp [i_stringslite_IndexByte_ic]
  refine callK_fresh (indexByteString_spec s c) rfl ?_
  simp [i_stringslite_IndexByte_rv]
theorem indexByte_spec (s : ByteArray) (c : Int) : FreshCalls Tryz.prog Γ 126 [.v (.string s), tK c] (tI (Lib.indexByte s.data.toList c.toNat.toUInt8)) := by
  refine run_freshQ strings_IndexByte_chk rfl ?_
  simp [strings_IndexByte_ic]
  refine callK_fresh (lite_spec s c) rfl ?_
  simp [strings_IndexByte_rv]
theorem indexRune_spec (s : ByteArray) (c : Int) (h0 : 0 ≤ c) (h1 : c < 128) : FreshCalls Tryz.prog Γ 212 [.v (.string s), tR c] (tI (Lib.indexByte s.data.toList c.toNat.toUInt8)) := by
  refine run_freshQ strings_IndexRune_chk rfl ?_
  simp (disch := omega) [strings_IndexRune_ic, h0, h1, wrap_u8]
  refine callK_fresh (indexByte_spec s c) rfl ?_
  simp [strings_IndexRune_rv]
theorem containsRune_spec (s : ByteArray) (c : Int) (h0 : 0 ≤ c) (h1 : c < 128) : FreshCalls Tryz.prog Γ 205 [.v (.string s), tR c] (tB (decide (0 ≤ Lib.indexByte s.data.toList c.toNat.toUInt8))) := by
  refine run_freshQ strings_ContainsRune_chk rfl ?_
  simp (disch := omega) [strings_ContainsRune_ic]
  refine callK_fresh (indexRune_spec s c h0 h1) rfl ?_
  simp [strings_ContainsRune_rv]
def badR (c : Int) : Bool := decide (c ≤ 32 ∨ 126 < c ∨ 0 ≤ Lib.indexByte [40, 41, 61, 44, 35] c.toNat.toUInt8)
theorem badR_spec (c : Int) : FreshCalls Tryz.prog Γ 204 [tR c] (tB (badR c)) := by
  refine run_freshQ netlists_IsName_1_chk rfl ?_
  by_cases h1 : c ≤ 32
  · simp [netlists_IsName_1_ic, netlists_IsName_1_rv, h1, badR]
  by_cases h2 : 126 < c
  · simp [netlists_IsName_1_ic, netlists_IsName_1_rv, h1, h2, badR]
  simp [netlists_IsName_1_ic, h1, h2]
  refine callK_fresh (containsRune_spec ⟨#[40, 41, 61, 44, 35]⟩ c (by omega) (by omega)) rfl ?_
  simp [netlists_IsName_1_rv, badR, h1, h2]
theorem decode_asc (s : List UInt8) (i : Nat) (hi : i < s.length) (ha : s[i] < 128) : Utf8.decode ⟨s.toArray⟩ i = ((s[i]).toNat, 1) := by
  have e : (ByteArray.mk s.toArray).get! (i + 0) = s[i] := by
    simp [ByteArray.get!, hi]
  have h2 : (s[i]).toNat < 128 := by simpa [UInt8.lt_iff_toNat_lt] using ha
  unfold Utf8.decode
  simp only [e, h2, ↓reduceIte]
def badS (s : List UInt8) : Bool := s.any fun b => badR b.toNat
theorem indexFunc_loop {Q : AX → St → Prop} (s : List UInt8) (ha : ∀ b ∈ s, b < 128)
    (h0 : badS s = false → Q (.exit 0) ⟨[(1, .t (.fn 204 [])), (2, .t (tB true)), (10, .li 10), (11, .t (.tup [tB false])), (12, .t (tB false))], [(10, .it ⟨s.toArray⟩ s.length)]⟩)
    (h1 : badS s = true → ∀ i : Nat, Q .ret ⟨[(6, .t (tI i))], []⟩) : ∀ (k i : Nat), k + i = s.length → (∀ j, j < i → ∀ b, s[j]? = some b → badR b.toNat = false) →
    run Tryz.prog Γ strings_indexFunc_l1 Q ⟨[(1, .t (.fn 204 [])), (2, .t (tB true)), (10, .li 10)], [(10, .it ⟨s.toArray⟩ i)]⟩
  | 0, i, h, hq => by
    refine strings_indexFunc_l1_run fun K hK => ?_
    have h2 : ¬ i < s.length := by omega
    have h3 : i = s.length := by omega
    have h4 : ¬ i < (ByteArray.mk s.toArray).size := by simpa [ByteArray.size] using h2
    simp [h2]
    subst h3
    refine h0 (List.any_eq_false.2 fun b hb => ?_)
    obtain ⟨j, hj, rfl⟩ := List.getElem_of_mem hb
    simp [hq j hj _ (List.getElem?_eq_getElem hj)]
  | k + 1, i, h, hq => by
    refine strings_indexFunc_l1_run fun K hK => ?_
    have h2 : i < s.length := by omega
    have h4 : i < (ByteArray.mk s.toArray).size := by simpa [ByteArray.size] using h2
    simp [h2, decode_asc s i h2 (ha _ (List.getElem_mem h2))]
    refine callK_fresh (badR_spec s[i].toNat) rfl ?_
    simp
    refine ⟨fun hc => ?_, fun hc => ?_⟩
    · simp [Later]
      exact h1 (List.any_eq_true.2 ⟨_, List.getElem_mem h2, hc⟩) i
    · simp [Later]
      rw [hK]
      exact indexFunc_loop s ha h0 h1 k (i + 1) (by omega) (fun j hj b hb => by
        rcases Nat.lt_succ_iff_lt_or_eq.1 hj with hj | rfl
        · exact hq j hj b hb
        · rw [List.getElem?_eq_getElem h2] at hb; simp at hb; subst hb; exact hc)
theorem indexFunc_ex (s : List UInt8) (ha : ∀ b ∈ s, b < 128) : ∃ n : Int, FreshCalls Tryz.prog Γ 217 [tS s, .fn 204 [], tB true] (tI n) ∧ (0 ≤ n ↔ badS s = true) := by
  have : ∃ r, FreshCalls Tryz.prog Γ 217 [tS s, .fn 204 [], tB true] r ∧ ∃ n, r = tI n ∧ (0 ≤ n ↔ badS s = true) := by
    refine run_fresh strings_indexFunc_chk rfl ?_
    simp [strings_indexFunc_ic, tS, sV]
    refine indexFunc_loop s ha (fun h => ?_) (fun h i => ?_) s.length 0 (by omega) (by simp)
    · simp [strings_indexFunc_rv, h]
    · simp [strings_indexFunc_rv, h]
  obtain ⟨_, h1, n, rfl, h2⟩ := this
  exact ⟨n, h1, h2⟩
theorem strIndexFunc_ex (s : List UInt8) (ha : ∀ b ∈ s, b < 128) : ∃ n : Int, FreshCalls Tryz.prog Γ 213 [tS s, .fn 204 []] (tI n) ∧ (0 ≤ n ↔ badS s = true) := by
  obtain ⟨n, h1, h2⟩ := indexFunc_ex (Γ := Γ) s ha
  refine ⟨n, run_freshQ strings_IndexFunc_chk rfl ?_, h2⟩
  simp [strings_IndexFunc_ic]
  refine callK_fresh h1 rfl ?_
  simp [strings_IndexFunc_rv]
theorem strContainsFunc_spec (s : List UInt8) (ha : ∀ b ∈ s, b < 128) : FreshCalls Tryz.prog Γ 206 [tS s, .fn 204 []] (tB (badS s)) := by
  obtain ⟨n, h1, h2⟩ := strIndexFunc_ex (Γ := Γ) s ha
  refine run_freshQ strings_ContainsFunc_chk rfl ?_
  simp [strings_ContainsFunc_ic]
  refine callK_fresh h1 rfl ?_
  simp [strings_ContainsFunc_rv, h2]
def isName (s : List UInt8) : Bool := decide (s ≠ [] ∧ s.length ≤ 32) && !badS s
theorem isName_spec (s : List UInt8) (ha : ∀ b ∈ s, b < 128) : FreshCalls Tryz.prog Γ 192 [tS s] (tB (isName s)) := by
  refine run_freshQ netlists_IsName_chk rfl ?_
  have h := strContainsFunc_spec (Γ := Γ) s ha
  by_cases h1 : s = []
  · simp [netlists_IsName_ic, netlists_IsName_rv, tS, sV, h1, isName]
  have h1' : s.isEmpty = false := by simpa using h1
  by_cases h2 : s.length ≤ 32
  · have h2' : (s.length : Int) ≤ 32 := by omega
    simp [netlists_IsName_ic, tS, sV, h1, h1', h2']
    refine callK_fresh h rfl ?_
    simp [netlists_IsName_rv, isName, h1, h2]
  · have h2' : ¬ (s.length : Int) ≤ 32 := by omega
    simp [netlists_IsName_ic, netlists_IsName_rv, tS, sV, h1, h1', h2', h2, isName]
end Go.Lg
namespace Go.Lg
open Go Go.Proofs
variable {Γ : Tables}
def memErr (c : Cir) (m : Mm) : Int :=
  if memOut m.addr.l 8 = true ∨ memOut m.data.l 32 = true then 8 else if m.addr.l.any (outP c) = true ∨ m.data.l.any (outP c) = true ∨ outP c m.write = true then 1 else 0
theorem memory_spec (c : Cir) (m : Mm) (hc : CirOk c) (hm : m.addr.l.length ≤ 1000000000 ∧ m.data.l.length ≤ 1000000000) : FreshCalls Tryz.prog Γ 173 [.agg (tC c), .agg (tMm m)] (tI (memErr c m)) := by
  refine run_freshQ netlists_memory_chk rfl ?_
  have hn := hc.nodes
  have e1 := containsOut (Γ := Γ) c hn m.addr.l m.addr.cap m.addr.nl hm.1
  have e2 := containsOut (Γ := Γ) c hn m.data.l m.data.cap m.data.nl hm.2
  have e3 := outside_spec (Γ := Γ) c
  have e4 := memory1_spec (Γ := Γ) m.addr.l m.addr.cap m.addr.nl 8 hm.1
  have e5 := memory1_spec (Γ := Γ) m.data.l m.data.cap m.data.nl 32 hm.2
  have e6 := outside1_spec (Γ := Γ) c m.write hn
  simp [netlists_memory_ic, tC, tMm, tNodes, tNames, tMems, tSl]
  refine callK_pure e3 rfl ?_
  simp
  refine callK_fresh e4 rfl ?_
  have fin2 : ∀ b : Bool, b = decide (m.addr.l.any (outP c) = true ∨ m.data.l.any (outP c) = true ∨ outP c m.write = true) → (memOut m.addr.l 8 = false) → (memOut m.data.l 32 = false) → memErr c m = if b then 1 else 0 := by
    intro b hb h1 h2
    subst hb
    unfold memErr
    rw [if_neg (by simp [h1, h2])]
    simp
  by_cases h1 : memOut m.addr.l 8 = true
  · simp [h1, netlists_memory_rv, memErr]
  have h1' : memOut m.addr.l 8 = false := by simpa using h1
  simp [h1']
  refine callK_fresh e5 rfl ?_
  by_cases h2 : memOut m.data.l 32 = true
  · simp [h2, netlists_memory_rv, memErr]
  have h2' : memOut m.data.l 32 = false := by simpa using h2
  simp [h2']
  refine callK_fresh e1 rfl ?_
  generalize m.addr.l.any (outP c) = b1 at e1 fin2
  generalize m.data.l.any (outP c) = b2 at e2 fin2
  generalize outP c m.write = b3 at e6 fin2
  cases b1 with
  | true => simp [netlists_memory_rv, fin2 true (by simp) h1' h2']
  | false =>
    simp
    refine callK_fresh e2 rfl ?_
    cases b2 with
    | true => simp [netlists_memory_rv, fin2 true (by simp) h1' h2']
    | false =>
      simp
      refine callK_clos e6 ?_
      cases b3 with
      | true => simp [netlists_memory_rv, fin2 true (by simp) h1' h2']
      | false => simp [netlists_memory_rv, fin2 false (by simp) h1' h2']
def seenM (l : List (List UInt8)) : List (Value × T) := l.map fun s => (sV s, tB true)
theorem sV_eq (a b : List UInt8) : keyEq (sV a) (sV b) = decide (a = b) := by
  simp only [keyEq, sV]
  by_cases h : a = b
  · subst h; simp [ba_beq]
  · have : ¬ (ByteArray.mk a.toArray) = ⟨b.toArray⟩ := fun e => h (by simpa using e)
    have h2 : ((ByteArray.mk a.toArray) == ⟨b.toArray⟩) = false := by
      cases hq : ((ByteArray.mk a.toArray) == ⟨b.toArray⟩)
      · rfl
      · exact absurd ((ba_beq _ _).1 hq) this
    rw [h2]; simp [h]
theorem seenM_find (x : List UInt8) : ∀ l : List (List UInt8), findM (sV x) (seenM l) = if x ∈ l then some (tB true) else none
  | [] => rfl
  | y :: l => by
    have ih := seenM_find x l
    simp only [seenM, List.map_cons, findM, sV_eq] at ih ⊢
    by_cases h : x = y
    · simp [h]
    · simp [h, ih]
theorem seenM_set (x : List UInt8) : ∀ l : List (List UInt8), x ∉ l → setM (sV x) (tB true) (seenM l) = seenM (l ++ [x])
  | [], _ => rfl
  | y :: l, h => by
    have ih := seenM_set x l (fun hm => h (List.mem_cons_of_mem _ hm))
    have hne : x ≠ y := fun e => h (by simp [e])
    simp only [seenM, List.map_cons, setM, sV_eq, List.cons_append] at ih ⊢
    simp [hne, ih]
theorem seenM_fit (l : List (List UInt8)) : keysFit .str (seenM l) := by
  intro e he; obtain ⟨s, _, rfl⟩ := List.mem_map.1 he; rfl
def namesErr : List (List UInt8) → List (List UInt8) → Int
  | _, [] => 0
  | done, s :: l => if isName s = false ∨ s ∈ done then 5 else namesErr (done ++ [s]) l
theorem names_loop {Q : AX → St → Prop} (n : Sl (List UInt8)) (hl : n.l.length ≤ 1000000000) (ha : ∀ s ∈ n.l, ∀ b ∈ s, b < 128) (R : Int)
    (h0 : R = 0 → ∀ m : List (Value × T), Q (.exit 0) ⟨[(3, .lm 6), (8, .t (tNames n)), (9, .t (tI n.l.length)), (10, .t (tI n.l.length)), (11, .t (tB false))], [(6, .mp m)]⟩)
    (h5 : R = 5 → Q .ret ⟨[(2, .t (tI 5))], []⟩) : ∀ (k i : Nat), k + i = n.l.length → namesErr (n.l.take i) (n.l.drop i) = R →
    run Tryz.prog Γ netlists_names_l1 Q ⟨[(3, .lm 6), (8, .t (tNames n)), (9, .t (tI n.l.length)), (10, .t (tI i))], [(6, .mp (seenM (n.l.take i)))]⟩
  | 0, i, h, hR => by
    refine netlists_names_l1_run fun K hK => ?_
    have h2 : ¬ i < n.l.length := by omega
    have h3 : i = n.l.length := by omega
    simp [h2, tNames]
    subst h3
    refine h0 ?_ _
    rw [← hR]; simp [namesErr]
  | k + 1, i, h, hR => by
    refine netlists_names_l1_run fun K hK => ?_
    have h2 : i < n.l.length := by omega
    simp (disch := omega) [h2, tNames, enc1_len, enc1_get ([] : List UInt8), enc1_wid]
    refine callK_fresh (isName_spec n.l[i] (ha _ (List.getElem_mem h2))) rfl ?_
    have hd : n.l.drop i = n.l[i] :: n.l.drop (i + 1) := List.drop_eq_getElem_cons h2
    rw [hd] at hR
    simp only [namesErr] at hR
    have ht : n.l.take i ++ [n.l[i]] = n.l.take (i + 1) := by rw [List.take_add_one]; simp [h2]
    by_cases hq : isName n.l[i] = true
    · have hfit := seenM_fit (n.l.take i)
      simp [hq, tS, KT.fits, sV, hfit]
      rw [show (Value.string ⟨(n.l[i]).toArray⟩) = sV n.l[i] from rfl, seenM_find]
      by_cases hm : n.l[i] ∈ n.l.take i
      · simp [hm]
        refine h5 ?_
        rw [← hR, if_pos (.inr hm)]
      · rw [if_neg (by simp [hq, hm]), ht] at hR
        simp (disch := omega) [hm, sV, KT.fits, hfit, wrap_i64]
        rw [hK]
        have := names_loop n hl ha R h0 h5 k (i + 1) (by omega) hR
        rw [show (Value.string ⟨(n.l[i]).toArray⟩) = sV n.l[i] from rfl, seenM_set _ _ hm, ht]
        exact_mod_cast this
    · have hq' : isName n.l[i] = false := by simpa using hq
      simp [hq']
      refine h5 ?_
      rw [← hR, if_pos (.inl hq')]
theorem names_spec (c : Cir) (hc : CirOk c) (ha : ∀ s ∈ c.names.l, ∀ b ∈ s, b < 128) : FreshCalls Tryz.prog Γ 172 [.agg (tC c)] (tI (namesErr [] c.names.l)) := by
  refine run_freshQ netlists_names_chk rfl ?_
  simp [netlists_names_ic, tC, tNodes, tNames, tMems, tSl, enc1_len]
  refine names_loop c.names hc.names ha (namesErr [] c.names.l) (fun h m => ?_) (fun h => ?_) c.names.l.length 0 (by omega) (by simp)
  · simp [netlists_names_rv, h]
  · simp [netlists_names_rv, h]
end Go.Lg
namespace Go.Lg
open Go Go.Proofs
variable {Γ : Tables}
def firstErr : List Int → Int
  | [] => 0
  | e :: l => if e ≠ 0 then e else firstErr l
theorem firstErr_drop {α : Type} (f : α → Int) (l : List α) (i : Nat) (h : i < l.length) : firstErr ((l.drop i).map f) = if f l[i] ≠ 0 then f l[i] else firstErr ((l.drop (i + 1)).map f) := by
  rw [List.drop_eq_getElem_cons h]; rfl
theorem shape_nodes {Q : AX → St → Prop} (hΓ : GOk Γ) (c : Cir) (hc : CirOk c) (R : Int)
    (h0 : R = 0 → Q (.exit 1) ⟨[(1, .t (.ip (tC c) 0)), (36, .t (tNodes c.nodes)), (37, .t (tI c.nodes.l.length)), (38, .t (tI c.nodes.l.length)), (39, .t (tB false))], []⟩)
    (h5 : R ≠ 0 → Q .ret ⟨[(2, .t (tI R))], []⟩) : ∀ (k i : Nat), k + i = c.nodes.l.length → firstErr ((c.nodes.l.drop i).map (nodeErr c)) = R →
    run Tryz.prog Γ netlists_shape_l1 Q ⟨[(1, .t (.ip (tC c) 0)), (36, .t (tNodes c.nodes)), (37, .t (tI c.nodes.l.length)), (38, .t (tI i))], []⟩
  | 0, i, h, hR => by
    refine netlists_shape_l1_run fun K hK => ?_
    have h2 : ¬ i < c.nodes.l.length := by omega
    have h3 : i = c.nodes.l.length := by omega
    simp [h2]
    subst h3
    exact h0 (by rw [← hR]; simp [firstErr])
  | k + 1, i, h, hR => by
    refine netlists_shape_l1_run fun K hK => ?_
    have h2 : i < c.nodes.l.length := by omega
    have hn := hc.nodes
    have hx := List.getElem_mem h2
    rw [firstErr_drop (nodeErr c) _ _ h2] at hR
    have e := node_spec (Γ := Γ) hΓ c c.nodes.l[i] hc (hc.kind _ hx) (hc.inn _ hx)
    simp (disch := omega) [h2, tNodes, encN_len, encN_get Nd.d, tNd_wid, tNd, tC, tSl]
    refine callK_fresh e rfl ?_
    by_cases hq : nodeErr c c.nodes.l[i] = 0
    · rw [if_neg (by simp [hq])] at hR
      simp (disch := omega) [hq, wrap_i64]
      rw [hK]
      have := shape_nodes hΓ c hc R h0 h5 k (i + 1) (by omega) hR
      simpa [tC, tNodes, tSl] using this
    · rw [if_pos (by simpa using hq)] at hR
      simp [hq]
      rw [hR]
      exact h5 (by rw [← hR]; exact hq)
theorem shape_mems {Q : AX → St → Prop} (c : Cir) (hc : CirOk c) (R : Int)
    (h0 : R = 0 → Q (.exit 3) ⟨[(1, .t (.ip (tC c) 0)), (55, .t (tMems c.mems)), (56, .t (tI c.mems.l.length)), (57, .t (tI c.mems.l.length)), (58, .t (tB false))], []⟩)
    (h5 : R ≠ 0 → Q .ret ⟨[(2, .t (tI R))], []⟩) : ∀ (k i : Nat), k + i = c.mems.l.length → firstErr ((c.mems.l.drop i).map (memErr c)) = R →
    run Tryz.prog Γ netlists_shape_l3 Q ⟨[(1, .t (.ip (tC c) 0)), (55, .t (tMems c.mems)), (56, .t (tI c.mems.l.length)), (57, .t (tI i))], []⟩
  | 0, i, h, hR => by
    refine netlists_shape_l3_run fun K hK => ?_
    have h2 : ¬ i < c.mems.l.length := by omega
    have h3 : i = c.mems.l.length := by omega
    simp [h2]
    subst h3
    exact h0 (by rw [← hR]; simp [firstErr])
  | k + 1, i, h, hR => by
    refine netlists_shape_l3_run fun K hK => ?_
    have h2 : i < c.mems.l.length := by omega
    have hn := hc.mems
    have hx := List.getElem_mem h2
    rw [firstErr_drop (memErr c) _ _ h2] at hR
    have e := memory_spec (Γ := Γ) c c.mems.l[i] hc (hc.addr _ hx)
    simp (disch := omega) [h2, tMems, encN_len, encN_get Mm.d, tMm_wid, tMm, tC, tSl]
    refine callK_fresh e rfl ?_
    by_cases hq : memErr c c.mems.l[i] = 0
    · rw [if_neg (by simp [hq])] at hR
      simp (disch := omega) [hq, wrap_i64]
      rw [hK]
      have := shape_mems c hc R h0 h5 k (i + 1) (by omega) hR
      simpa [tC, tMems, tSl] using this
    · rw [if_pos (by simpa using hq)] at hR
      simp [hq]
      rw [hR]
      exact h5 (by rw [← hR]; exact hq)
def shapeErr (c : Cir) : Int :=
  if 16384 < c.nodes.l.length ∨ 16 < c.mems.l.length ∨ 16384 < c.outs.l.length then 3 else if c.names.l.length ≠ c.nodes.l.length then 8
  else if firstErr (c.nodes.l.map (nodeErr c)) ≠ 0 then firstErr (c.nodes.l.map (nodeErr c))
  else if namesErr [] c.names.l ≠ 0 then namesErr [] c.names.l
  else if firstErr (c.mems.l.map (memErr c)) ≠ 0 then firstErr (c.mems.l.map (memErr c))
  else if c.outs.l.any (outP c) = true then 1 else 0
theorem shape_spec (hΓ : GOk Γ) (c : Cir) (hc : CirOk c) (ha : ∀ s ∈ c.names.l, ∀ b ∈ s, b < 128) : FreshCalls Tryz.prog Γ 148 [.agg (tC c)] (tI (shapeErr c)) := by
  refine run_freshQ netlists_shape_chk rfl ?_
  have hn := hc.nodes
  have hm := hc.mems
  have ho := hc.outs
  have hnn := hc.names
  have en := names_spec (Γ := Γ) c hc ha
  have eo := outside_spec (Γ := Γ) c
  have ec := containsOut (Γ := Γ) c hn c.outs.l c.outs.cap c.outs.nl ho
  by_cases h1 : 16384 < c.nodes.l.length ∨ 16 < c.mems.l.length ∨ 16384 < c.outs.l.length
  · have : shapeErr c = 3 := by unfold shapeErr; rw [if_pos h1]
    rw [this]
    by_cases g1 : (16384 : Int) < c.nodes.l.length
    · simp [netlists_shape_ic, netlists_shape_rv, tC, tNodes, tNames, tMems, tSl, encN_len, enc1_len, g1]
    by_cases g2 : (16 : Int) < c.mems.l.length
    · simp [netlists_shape_ic, netlists_shape_rv, tC, tNodes, tNames, tMems, tSl, encN_len, enc1_len, g1, g2]
    have g3 : (16384 : Int) < c.outs.l.length := by omega
    simp [netlists_shape_ic, netlists_shape_rv, tC, tNodes, tNames, tMems, tSl, encN_len, enc1_len, g1, g2, g3]
  have g1 : ¬ (16384 : Int) < c.nodes.l.length := by omega
  have g2 : ¬ (16 : Int) < c.mems.l.length := by omega
  have g3 : ¬ (16384 : Int) < c.outs.l.length := by omega
  by_cases h2 : c.names.l.length = c.nodes.l.length
  case neg =>
    have : shapeErr c = 8 := by unfold shapeErr; rw [if_neg h1, if_pos h2]
    have h2' : ¬ (c.names.l.length : Int) = c.nodes.l.length := by omega
    rw [this]
    simp [netlists_shape_ic, netlists_shape_rv, tC, tNodes, tNames, tMems, tSl, encN_len, enc1_len, g1, g2, g3, h2']
  simp [netlists_shape_ic, tC, tNodes, tNames, tMems, tSl, encN_len, enc1_len, g1, g2, g3, h2]
  have e0 : shapeErr c = if firstErr (c.nodes.l.map (nodeErr c)) ≠ 0 then firstErr (c.nodes.l.map (nodeErr c))
      else if namesErr [] c.names.l ≠ 0 then namesErr [] c.names.l
      else if firstErr (c.mems.l.map (memErr c)) ≠ 0 then firstErr (c.mems.l.map (memErr c))
      else if c.outs.l.any (outP c) = true then 1 else 0 := by
    unfold shapeErr; rw [if_neg h1, if_neg (by simp [h2])]
  refine shape_nodes hΓ c hc (firstErr (c.nodes.l.map (nodeErr c))) (fun h3 => ?_) (fun h3 => ?_) c.nodes.l.length 0 (by omega) (by simp)
  case refine_2 =>
    rw [if_pos h3] at e0
    simp [netlists_shape_rv, e0]
  rw [if_neg (by rw [h3]; decide)] at e0
  simp [tC, tNodes, tNames, tMems, tSl]
  refine callK_fresh en rfl ?_
  by_cases h4 : namesErr [] c.names.l = 0
  case neg =>
    rw [if_pos h4] at e0
    simp [h4, netlists_shape_rv, e0]
  rw [if_neg (by rw [h4]; decide)] at e0
  simp [h4, encN_len]
  refine shape_mems c hc (firstErr (c.mems.l.map (memErr c))) (fun h5 => ?_) (fun h5 => ?_) c.mems.l.length 0 (by omega) (by simp)
  case refine_2 =>
    rw [if_pos h5] at e0
    simp [netlists_shape_rv, e0]
  rw [if_neg (by rw [h5]; decide)] at e0
  simp [tC, tNodes, tNames, tMems, tSl]
  refine callK_pure eo rfl ?_
  simp
  refine callK_fresh ec rfl ?_
  generalize c.outs.l.any (outP c) = b at e0
  cases b <;> simp [netlists_shape_rv, e0]
def ofL (ks : List Int) : List Nd → Nat → List Int
  | [], _ => []
  | x :: l, i => if ks.contains x.k then (i : Int) :: ofL ks l (i + 1) else ofL ks l (i + 1)
theorem ofL_app (ks : List Int) : ∀ (a b : List Nd) (i : Nat), ofL ks (a ++ b) i = ofL ks a i ++ ofL ks b (i + a.length)
  | [], b, i => by simp [ofL]
  | x :: a, b, i => by
    have := ofL_app ks a b (i + 1)
    simp only [List.cons_append, ofL, this, List.length_cons]
    split <;> simp [Nat.add_assoc, Nat.add_comm 1]
theorem ofL_len (ks : List Int) : ∀ (a : List Nd) (i : Nat), (ofL ks a i).length ≤ a.length
  | [], _ => by simp [ofL]
  | x :: a, i => by
    have := ofL_len ks a (i + 1)
    simp only [ofL]
    split <;> simp <;> omega
theorem of_loop {Q : AX → St → Prop} (n : Sl Nd) (hl : n.l.length ≤ 1000000000) (ks : List Int) (kc : Option Nat) (kn : Option Bool) (hk : ks.length ≤ 1000000000)
    (h0 : Q (.exit 0) ⟨[(1, .t (.sl (enc1 tK ks) kc kn)), (5, .ls 23 0 (ofL ks n.l 0).length none), (9, .t (tNodes n)), (10, .t (tI n.l.length)), (11, .t (tI n.l.length)), (12, .t (tB false))], [(23, .sl 3 1 (ints (ofL ks n.l 0)))]⟩) : ∀ (k i : Nat), k + i = n.l.length →
    run Tryz.prog Γ netlists_Of_l1 Q ⟨[(1, .t (.sl (enc1 tK ks) kc kn)), (5, .ls 23 0 (ofL ks (n.l.take i) 0).length none), (9, .t (tNodes n)), (10, .t (tI n.l.length)), (11, .t (tI i))], [(23, .sl 3 1 (ints (ofL ks (n.l.take i) 0)))]⟩
  | 0, i, h => by
    refine netlists_Of_l1_run fun K hK => ?_
    have h2 : ¬ i < n.l.length := by omega
    have h3 : i = n.l.length := by omega
    simp [h2]
    subst h3
    simpa using h0
  | k + 1, i, h => by
    refine netlists_Of_l1_run fun K hK => ?_
    have h2 : i < n.l.length := by omega
    have ht : n.l.take (i + 1) = n.l.take i ++ [n.l[i]] := by rw [List.take_add_one]; simp [h2]
    have hlen := ofL_len ks (n.l.take i) 0
    have htl : (n.l.take i).length = i := by simp; omega
    have hal : ofL ks (n.l.take (i + 1)) 0 = if ks.contains n.l[i].k then ofL ks (n.l.take i) 0 ++ [(i : Int)] else ofL ks (n.l.take i) 0 := by
      rw [ht, ofL_app, htl]
      simp only [ofL, Nat.zero_add]
      split <;> simp
    have e := contains_kind (Γ := Γ) ks kc kn n.l[i].k hk
    simp (disch := omega) [h2, tNodes, encN_len, encN_get Nd.d, tNd_wid, tNd, tSl]
    refine callK_fresh e rfl ?_
    generalize ks.contains n.l[i].k = b at hal
    have ih := of_loop n hl ks kc kn hk h0 k (i + 1) (by omega)
    rw [hal] at ih
    cases b with
    | false =>
      simp (disch := omega) [wrap_i64]
      rw [hK]
      simpa [tNodes] using ih
    | true =>
      have hw : wid 1 [[tI (i : Int)]] := by intro e he; simp at he; subst he; rfl
      simp (disch := omega) [wrap_i64, enc1_len, enc1_wid, hw]
      rw [hK]
      simp [tNodes] at ih
      rw [enc1_snoc (f := tI) (x := (i : Int))]
      exact ⟨by omega, ih⟩
theorem of_spec (c : Cir) (hc : CirOk c) (ks : List Int) (kc : Option Nat) (kn : Option Bool) (hk : ks.length ≤ 1000000000) :
    FreshCalls Tryz.prog Γ 80 [.agg (tC c), .sl (enc1 tK ks) kc kn] (.sl (ints (ofL ks c.nodes.l 0)) (some (ofL ks c.nodes.l 0).length) none) := by
  refine run_freshQ netlists_Of_chk rfl ?_
  simp [netlists_Of_ic, tC, tNodes, tNames, tMems, tSl, encN_len]
  refine of_loop c.nodes hc.nodes ks kc kn hk ?_ c.nodes.l.length 0 (by omega)
  simp
  refine ⟨_, _, clip_int_h 3 (ints (ofL ks c.nodes.l 0)) (ofL ks c.nodes.l 0).length none enc1_wid, ?_⟩
  simp [netlists_Of_rv]
end Go.Lg
namespace Go.Lg
open Go Go.Proofs
variable {Γ : Tables}
abbrev Row := List (Int × Int)
def tLn (p : Int × Int) : List T := [tI p.1, tI p.2]
def rowC (i : Nat) (r : Row) : AV := if r = [] then .t (.sl [] (some 0) (some true)) else .ls (100000 + i) 0 r.length none
def rowsC (rows : List Row) : List AV := rows.mapIdx rowC
def rowR (rows : List Row) (id : Nat) : Option Reg := match rows[id - 100000]? with
  | some r => if r = [] then none else some (.sl 205 2 (encN tLn r))
  | none => none
def rowsK (k : Nat) (g : Nat → Option Reg) : List (Nat × Reg) := (List.range' 100000 k).filterMap fun id => (g id).map fun r => (id, r)
def rowsH (rows : List Row) : List (Nat × Reg) := rowsK 16384 (rowR rows)
theorem fm_congr {α β : Type} {f g : α → Option β} : ∀ {l : List α}, (∀ x ∈ l, f x = g x) → l.filterMap f = l.filterMap g
  | [], _ => rfl
  | x :: l, h => by
    rw [List.filterMap_cons, List.filterMap_cons, h x List.mem_cons_self, fm_congr (l := l) fun y hy => h y (List.mem_cons_of_mem _ hy)]
theorem look_fm {l : List Nat} {g : Nat → Option Reg} {t : Nat} : look (l.filterMap fun id => (g id).map fun r => (id, r)) t = if t ∈ l then g t else none := by
  induction l with
  | nil => simp [look]
  | cons k l ih =>
    rw [List.filterMap_cons]
    cases hg : g k with
    | none =>
      simp only [Option.map_none, ih]
      by_cases h : t = k
      · subst h; simp [hg]
      · simp [h]
    | some r =>
      simp only [Option.map_some, look, ih]
      by_cases h : k = t
      · subst h; simp [hg]
      · simp [h, Ne.symm h]
theorem look_rowsK {k : Nat} {g : Nat → Option Reg} {t : Nat} : look (rowsK k g) t = if 100000 ≤ t ∧ t < 100000 + k then g t else none := by
  unfold rowsK; rw [look_fm]
  by_cases h : 100000 ≤ t ∧ t < 100000 + k
  · rw [if_pos h, if_pos (by rw [List.mem_range'_1]; exact h)]
  · rw [if_neg h, if_neg (by rw [List.mem_range'_1]; exact h)]
theorem keep_rows {rows : List Row} {l : List (Nat × Reg)} (h : ∀ t ∈ List.range' 100000 16384, look l t = rowR rows t) : Lg.keep (List.range' 100000 16384) l = rowsH rows := by
  unfold Lg.keep rowsH rowsK
  exact fm_congr fun t ht => by rw [h t ht]
theorem keepB_gen {env : List (Nat × AV)} {hp : List (Nat × Reg)} {ks : List Nat} {rows : List Row} (hk : (hp.map (·.1)).filter (fun id => !([14] : List Nat).contains id && !(decide (100000 ≤ id) && decide (id < 100000 + 16384))) = [])
    (h14 : look hp 14 = some (.bx (rowsC rows))) (hr : ∀ t, 100000 ≤ t → t < 116384 → look hp t = rowR rows t) :
    Gh.run (.keepB ks [14] 100000 16384) ⟨env, hp⟩ = ⟨Lg.keep ks env, (14, .bx (rowsC rows)) :: rowsH rows⟩ := by
  simp only [Gh.run, keepBSt, hk, killAll, keep_cons, h14, keep_nil, List.cons_append, List.nil_append]
  congr 2
  simp only [Lg.keep, rowsH, rowsK]
  refine fm_congr fun t ht => ?_
  rw [List.mem_range'_1] at ht
  rw [hr t ht.1 (by omega)]
theorem mem_rowsK {k : Nat} {g : Nat → Option Reg} : ∀ p ∈ rowsK k g, 100000 ≤ p.1 ∧ p.1 < 100000 + k := by
  intro p hp
  obtain ⟨id, hid, he⟩ := List.mem_filterMap.1 hp
  rw [List.mem_range'_1] at hid
  cases hg : g id with
  | none => rw [hg] at he; cases he
  | some r => rw [hg] at he; simp at he; subst he; exact hid
theorem filter_rows {rows : List Row} : ((rowsH rows).map (·.1)).filter (fun id => !([14] : List Nat).contains id && !(decide (100000 ≤ id) && decide (id < 100000 + 16384))) = [] := by
  rw [List.filter_eq_nil_iff]
  intro id hid
  obtain ⟨p, hp, rfl⟩ := List.mem_map.1 hid
  have := mem_rowsK p hp
  simp [this.1, this.2]
theorem look_rows {rows : List Row} {t : Nat} : look ((14, .bx (rowsC rows)) :: rowsH rows) t = if t = 14 then some (.bx (rowsC rows)) else if 100000 ≤ t ∧ t < 116384 then rowR rows t else none := by
  simp only [look, rowsH, look_rowsK]
  by_cases h : t = 14
  · simp [h]
  · simp [h, Ne.symm h]
theorem keepB_S {env : List (Nat × AV)} {ks : List Nat} {rows : List Row} : Gh.run (.keepB ks [14] 100000 16384) ⟨env, (14, .bx (rowsC rows)) :: rowsH rows⟩ = ⟨Lg.keep ks env, (14, .bx (rowsC rows)) :: rowsH rows⟩ := by
  refine keepB_gen ?_ (by simp [look]) fun t h1 h2 => ?_
  · rw [List.map_cons, List.filter_cons]; simp only [filter_rows]; simp
  · rw [look_rows, if_neg (by omega), if_pos ⟨h1, h2⟩]
theorem killRef_rows {id : Nat} (h : id < 100000) (rows : List Row) : (rowsC rows).map (killRef id) = rowsC rows := by
  apply List.ext_getElem?
  intro i
  simp only [rowsC, List.getElem?_map, List.getElem?_mapIdx, Option.map_map]
  cases rows[i]? with
  | none => rfl
  | some r =>
    simp only [Option.map_some, Function.comp_def, rowC]
    split
    · rfl
    · simp only [killRef, kill1]; rw [if_neg (by omega)]
theorem keepB_6 {env : List (Nat × AV)} {ks : List Nat} {rows : List Row} {q : Reg} : Gh.run (.keepB ks [14] 100000 16384) ⟨env, (6, q) :: (14, .bx (rowsC rows)) :: rowsH rows⟩ = ⟨(Lg.keep ks env).map (fun p => (p.1, killRef 6 p.2)), (14, .bx (rowsC rows)) :: rowsH rows⟩ := by
  have hk : (((6, q) :: (14, Reg.bx (rowsC rows)) :: rowsH rows).map (·.1)).filter (fun id => !([14] : List Nat).contains id && !(decide (100000 ≤ id) && decide (id < 100000 + 16384))) = [6] := by
    rw [List.map_cons, List.map_cons, List.filter_cons, List.filter_cons]; simp only [filter_rows]; simp
  have hl : ∀ t, t ≠ 6 → look (St.kill 6 ⟨Lg.keep ks env, (6, q) :: (14, .bx (rowsC rows)) :: rowsH rows⟩).hp t = look ((14, .bx (rowsC rows)) :: rowsH rows) t := by
    intro t ht
    rw [look_kill, if_neg ht]
    show (look ((6, q) :: (14, .bx (rowsC rows)) :: rowsH rows) t).map _ = _
    rw [look, if_neg (Ne.symm ht), look_rows]
    by_cases h : t = 14
    · simp [h, killReg, killRef_rows]
    · simp only [h, ↓reduceIte]
      split
      · unfold rowR
        split
        · split <;> simp [killReg]
        · rfl
      · rfl
  simp only [Gh.run, keepBSt, hk, killAll, keep_cons, keep_nil, List.cons_append, List.nil_append]
  rw [hl 14 (by omega)]
  simp only [look, ↓reduceIte, List.cons_append, List.nil_append]
  congr 2
  refine keep_rows fun t ht => ?_
  rw [List.mem_range'_1] at ht
  rw [hl t (by omega), look_rows, if_neg (by omega), if_pos ⟨ht.1, by omega⟩]
def addRow (rows : List Row) (n : Nat) (p : Int × Int) : List Row := rows.set n (rows.getD n [] ++ [p])
theorem addRow_len {rows : List Row} {n : Nat} {p : Int × Int} : (addRow rows n p).length = rows.length := by simp [addRow]
theorem keepB_add {env : List (Nat × AV)} {ks : List Nat} {rows : List Row} {n : Nat} {p : Int × Int} {hp : List (Nat × Reg)} {cs : List AV} (hn : n < rows.length) (hn2 : rows.length ≤ 16384)
    (hlen : cs.length = rows.length) (hcs : ∀ i, i ≠ n → cs[i]? = (rowsC rows)[i]?) (hc : cs[n]? = some (.ls 47 0 ((rows.getD n []).length + 1) none)) (h47 : look hp 47 = some (.sl 205 2 (encN tLn (rows.getD n [] ++ [p])))) (h14 : look hp 14 = some (.bx cs))
    (hno : look hp (100000 + n) = none) (hoth : ∀ t, 100000 ≤ t → t < 116384 → t ≠ 100000 + n → look hp t = rowR rows t) (hkeys : ∀ q ∈ hp, q.1 = 47 ∨ q.1 = 14 ∨ (100000 ≤ q.1 ∧ q.1 < 116384)) :
    Gh.run (.keepB ks [14] 100000 16384) (renSt 47 (100000 + n) ⟨env, hp⟩) = ⟨(Lg.keep ks (env.map fun q => (q.1, renRef (toName 47 (100000 + n)) q.2))), (14, .bx (rowsC (addRow rows n p))) :: rowsH (addRow rows n p)⟩ := by
  have hr : renSt 47 (100000 + n) ⟨env, hp⟩ = ⟨env.map fun q => (q.1, renRef (toName 47 (100000 + n)) q.2), renHp 47 (100000 + n) hp⟩ := by
    unfold renSt
    rw [if_pos]
    simp [hno, h47]; omega
  rw [hr]
  have hget : ∀ i, (addRow rows n p)[i]? = if i = n then some (rows.getD n [] ++ [p]) else rows[i]? := by
    intro i
    unfold addRow
    rw [List.getElem?_set]
    by_cases h : n = i
    · subst h; simp [hn]
    · simp [h, Ne.symm h]
  have hl := fun t => look_renHp (a := 47) (b := 100000 + n) (t := t) hno (by omega)
  refine keepB_gen ?_ ?_ fun t h1 h2 => ?_
  · rw [List.filter_eq_nil_iff]
    intro id hid
    have : id = 100000 + n ∨ id ≠ 47 ∧ ∃ q ∈ hp, q.1 = id := by
      clear hl hr hno hoth h14 h47
      induction hp with
      | nil => simp [renHp] at hid
      | cons q l ih =>
        obtain ⟨k, r⟩ := q
        simp only [renHp, List.map_cons, List.mem_cons] at hid
        rcases hid with hid | hid
        · by_cases h : k = 47
          · left; simpa [h] using hid
          · right; simp [h] at hid; subst hid; exact ⟨h, _, List.mem_cons_self, rfl⟩
        · rcases ih (fun q hq => hkeys q (List.mem_cons_of_mem _ hq)) hid with h | ⟨h, q, hq, e⟩
          · exact .inl h
          · exact .inr ⟨h, q, List.mem_cons_of_mem _ hq, e⟩
    rcases this with h | ⟨h, q, hq, rfl⟩
    · subst h; simp; intro _; omega
    · rcases hkeys q hq with e | e | ⟨e1, e2⟩
      · exact absurd e h
      · simp [e]
      · simp; intro _; omega
  · rw [hl, if_neg (by omega), if_neg (by omega), h14]
    simp only [Option.map_some, renReg, Option.some.injEq, Reg.bx.injEq]
    apply List.ext_getElem?
    intro i
    simp only [List.getElem?_map, rowsC, List.getElem?_mapIdx]
    rw [hget]
    by_cases h : i = n
    · subst h
      rw [hc]
      have : ¬ (rows.getD i [] ++ [p] = []) := by simp
      simp only [↓reduceIte, Option.map_some, Option.some.injEq]
      unfold rowC
      rw [if_neg this]
      simp [renRef, ren1, ren0, toName]
    · rw [hcs i h, if_neg h]
      simp only [rowsC, List.getElem?_mapIdx, Option.map_map]
      cases hrow : rows[i]? with
      | none => rfl
      | some r =>
        simp only [Option.map_some, Function.comp_def, rowC, Option.some.injEq]
        split
        · rfl
        · simp only [renRef, ren1, ren0, toName]; rw [if_neg (by omega)]
  · rw [hl]
    by_cases h : t = 100000 + n
    · rw [if_pos h, h47]
      subst h
      unfold rowR
      rw [show 100000 + n - 100000 = n by omega, hget, if_pos rfl]
      simp [renReg]
    · rw [if_neg h, if_neg (by omega), hoth t h1 h2 h]
      unfold rowR
      rw [hget, if_neg (by omega)]
      cases rows[t - 100000]? with
      | none => rfl
      | some r => simp only; split <;> simp [renReg]
def rowF (k i : Nat) (r : Row) : AV := if r = [] then .t (.sl [] (some 0) (some true)) else if k ≤ i then .t (.sl (encN tLn r) none none) else .ls (100000 + i) 0 r.length none
theorem frz_step {env : List (Nat × AV)} {rows : List Row} (he : ∀ id r, 100000 ≤ id → ∀ p ∈ env, frzRef id r p.2 = p.2) (k : Nat) : St.freeze (100000 + k) ⟨env, (14, .bx (rows.mapIdx (rowF (k + 1)))) :: rowsK (k + 1) (rowR rows)⟩ = ⟨env, (14, .bx (rows.mapIdx (rowF k))) :: rowsK k (rowR rows)⟩ := by
  have hsplit : rowsK (k + 1) (rowR rows) = rowsK k (rowR rows) ++ (match rowR rows (100000 + k) with | some r => [(100000 + k, r)] | none => []) := by
    unfold rowsK
    rw [← List.range'_append (s := 100000) (m := k) (n := 1) (step := 1)]
    rw [List.filterMap_append]
    congr 1
    cases hr : rowR rows (100000 + k) <;> simp [hr]
  have hl : look ((14, Reg.bx (rows.mapIdx (rowF (k + 1)))) :: rowsK (k + 1) (rowR rows)) (100000 + k) = rowR rows (100000 + k) := by
    rw [look, if_neg (by omega), look_rowsK, if_pos (by omega)]
  simp only [St.freeze, hl]
  cases hr : rowR rows (100000 + k) with
  | none =>
    rw [hr] at hsplit
    simp only [hsplit, List.append_nil]
    refine congrArg (fun l => (⟨env, (14, Reg.bx l) :: rowsK k (rowR rows)⟩ : St)) ?_
    apply List.ext_getElem?
    intro i
    simp only [List.getElem?_mapIdx]
    cases hi : rows[i]? with
    | none => rfl
    | some r =>
      simp only [Option.map_some, rowF]
      by_cases h0 : r = []
      · simp [h0]
      · by_cases hik : i = k
        · subst hik
          unfold rowR at hr
          rw [show 100000 + i - 100000 = i by omega, hi] at hr
          simp [h0] at hr
        · have : (k + 1 ≤ i) = (k ≤ i) := by apply propext; omega
          simp [this]
  | some q =>
    obtain ⟨r, hrow, hne, rfl⟩ : ∃ r, rows[k]? = some r ∧ r ≠ [] ∧ q = .sl 205 2 (encN tLn r) := by
      unfold rowR at hr
      rw [show 100000 + k - 100000 = k by omega] at hr
      split at hr
      · rename_i r h
        split at hr
        · cases hr
        · rename_i hne; simp only [Option.some.injEq] at hr; exact ⟨r, h, hne, hr.symm⟩
      · cases hr
    rw [hr] at hsplit
    simp only [Reg.closed, ↓reduceIte]
    have e1 : env.map (fun p => (p.1, frzRef (100000 + k) (.sl 205 2 (encN tLn r)) p.2)) = env := by
      conv => rhs; rw [← List.map_id env]
      refine List.map_congr_left fun p hp => ?_
      rw [he _ _ (by omega) p hp]; rfl
    have e2 : del (100000 + k) ((14, Reg.bx (rows.mapIdx (rowF (k + 1)))) :: rowsK (k + 1) (rowR rows)) = (14, Reg.bx (rows.mapIdx (rowF (k + 1)))) :: rowsK k (rowR rows) := by
      rw [hsplit]
      unfold del
      rw [List.filter_cons, if_pos (by simp; omega), List.filter_append]
      congr 1
      have h1 : (rowsK k (rowR rows)).filter (fun p => p.1 != 100000 + k) = rowsK k (rowR rows) := by
        rw [List.filter_eq_self]
        intro p hp
        have := mem_rowsK p hp
        simp; omega
      rw [h1]; simp
    rw [e1, e2]
    have e3 : (rowsK k (rowR rows)).map (fun p => (p.1, frzReg (100000 + k) (.sl 205 2 (encN tLn r)) p.2)) = rowsK k (rowR rows) := by
      conv => rhs; rw [← List.map_id (rowsK k (rowR rows))]
      refine List.map_congr_left fun p hp => ?_
      obtain ⟨id, hid, hee⟩ := List.mem_filterMap.1 hp
      cases hg : rowR rows id with
      | none => rw [hg] at hee; cases hee
      | some q =>
        rw [hg] at hee
        simp only [Option.map_some, Option.some.injEq] at hee; subst hee
        unfold rowR at hg
        split at hg
        · split at hg
          · cases hg
          · simp only [Option.some.injEq] at hg; subst hg; rfl
        · cases hg
    rw [List.map_cons, e3]
    refine congrArg (fun l => (⟨env, (14, Reg.bx l) :: rowsK k (rowR rows)⟩ : St)) ?_
    apply List.ext_getElem?
    intro i
    simp only [List.getElem?_map, List.getElem?_mapIdx, Option.map_map]
    cases hi : rows[i]? with
    | none => rfl
    | some r' =>
      simp only [Option.map_some, Function.comp_def, rowF]
      by_cases h0 : r' = []
      · simp [h0, frzRef, frz1, frz0]
      · simp only [h0, ↓reduceIte]
        by_cases hik : i = k
        · subst hik
          rw [hrow] at hi; cases hi
          rw [if_neg (by omega), if_pos (Nat.le_refl _)]
          simp [frzRef, frz1, frz0, reify, look]
        · by_cases hlt : k + 1 ≤ i
          · rw [if_pos hlt, if_pos (by omega)]; rfl
          · rw [if_neg hlt, if_neg (by omega)]
            simp only [frzRef, frz1, frz0]
            rw [if_neg (by omega)]
theorem frz_all {env : List (Nat × AV)} {rows : List Row} (he : ∀ id r, 100000 ≤ id → ∀ p ∈ env, frzRef id r p.2 = p.2) : ∀ k, frzN 100000 k ⟨env, (14, .bx (rows.mapIdx (rowF k))) :: rowsK k (rowR rows)⟩ = ⟨env, (14, .bx (rows.mapIdx (rowF 0))) :: []⟩
  | 0 => by simp [frzN, rowsK]
  | k + 1 => by
    rw [frzN, frz_step he k]
    exact frz_all he k
def rowT (r : Row) : T := if r = [] then .sl [] (some 0) (some true) else .sl (encN tLn r) none none
theorem frz_rows {env : List (Nat × AV)} {rows : List Row} (hl : rows.length ≤ 16384) (he : ∀ id r, 100000 ≤ id → ∀ p ∈ env, frzRef id r p.2 = p.2) : Gh.run (.frzs 100000 16384) ⟨env, (14, .bx (rowsC rows)) :: rowsH rows⟩ = ⟨env, [(14, .bx (rows.map fun r => .t (rowT r)))]⟩ := by
  have h1 : rowsC rows = rows.mapIdx (rowF 16384) := by
    apply List.ext_getElem?
    intro i
    simp only [rowsC, List.getElem?_mapIdx]
    cases hi : rows[i]? with
    | none => rfl
    | some r =>
      have := (List.getElem?_eq_some_iff.1 hi).1
      simp only [Option.map_some, rowC, rowF]
      rw [if_neg (show ¬ 16384 ≤ i by omega)]
  have h2 : rows.mapIdx (rowF 0) = rows.map fun r => .t (rowT r) := by
    apply List.ext_getElem?
    intro i
    simp only [List.getElem?_mapIdx, List.getElem?_map]
    cases rows[i]? with
    | none => rfl
    | some r =>
      simp only [Option.map_some, rowF, rowT, Nat.zero_le, ↓reduceIte]
      split <;> rfl
  have := frz_all (rows := rows) he 16384
  rw [h2] at this
  simp only [Gh.run, h1, rowsH]
  exact this
end Go.Lg
namespace Go.Lg
open Go Go.Proofs
variable {Γ : Tables}
theorem rowsC_len {rows : List Row} : (rowsC rows).length = rows.length := by simp [rowsC]
theorem rowsC_at {rows : List Row} {n : Nat} (h : n < rows.length) : ((rowsC rows).drop n).take 1 = [rowC n (rows.getD n [])] := by
  have : (rowsC rows).drop n = rowC n (rows.getD n []) :: (rowsC rows).drop (n + 1) := by
    rw [List.drop_eq_getElem_cons (by rw [rowsC_len]; exact h)]
    simp [rowsC, h]
  rw [this]; rfl
theorem tLn_wid {l : Row} : wid 2 (encN tLn l) := encN_wid fun _ => rfl
theorem r10_ok {Q : AX → St → Prop} (rows : List Row) (n : Nat) (hn : n < rows.length) (hn2 : rows.length ≤ 16384) (i k : Int) (hr : (rows.getD n []).length ≤ 1000000000) (t4 t18 t19 t20 t26 t27 t28 t36 : T) (m : Nat) (hm : m = rows.length)
    (h : Q .normal ⟨[(3, .lb 14 m), (4, .t t4), (5, .t (tI i)), (18, .t t18), (19, .t t19), (20, .t t20), (26, .t t26), (27, .t t27), (28, .t t28)], (14, .bx (rowsC (addRow rows n (i, k)))) :: rowsH (addRow rows n (i, k))⟩) :
    stepsK Tryz.prog Γ netlists_Fanout_r10 ⟨[(3, .lb 14 m), (4, .t t4), (5, .t (tI i)), (7, .t (tI k)), (8, .t (tI n)), (18, .t t18), (19, .t t19), (20, .t t20), (26, .t t26), (27, .t t27), (28, .t t28), (36, .t t36)], (14, .bx (rowsC rows)) :: rowsH rows⟩
      (fun s1 => Q .normal (ghs [.renS 47 100000 8, .keepB [3, 4, 5, 18, 19, 20, 26, 27, 28] [14] 100000 16384] s1)) ⟨⟩ := by
  subst hm
  have hw : wid 2 [[tI i, tI k]] := by intro e he; simp at he; subst he; rfl
  have hlk47 : look (rowsH rows) 47 = none := by rw [rowsH, look_rowsK, if_neg (by omega)]
  have hat := rowsC_at hn
  have hlk : look (rowsH rows) (100000 + n) = if rows.getD n [] = [] then none else some (.sl 205 2 (encN tLn (rows.getD n []))) := by
    rw [rowsH, look_rowsK, if_pos (by omega)]
    unfold rowR
    rw [show 100000 + n - 100000 = n by omega, List.getElem?_eq_getElem hn]
    simp [hn]
  have hadd : addRow rows n (i, k) = rows.set n (rows.getD n [] ++ [(i, k)]) := rfl
  have fin := @keepB_add
  generalize hrow : rows.getD n [] = row at hr hat hlk hadd
  have hlen1 : n + 1 ≤ rows.length := hn
  have hset : ∀ (j : Nat), j ≠ n → ∀ (l : List AV) (x : AV), l.length = rows.length → (l.take n ++ x :: l.drop (n + 1))[j]? = l[j]? := by
    intro j hj l x hl
    rw [List.getElem?_append]
    by_cases hlt : j < n
    · rw [if_pos (by simp; omega), List.getElem?_take, if_pos hlt]
    · rw [if_neg (by simp; omega)]
      have e : (l.take n).length = n := by simp; omega
      rw [e, show j - n = (j - n - 1) + 1 by omega, List.getElem?_cons_succ, List.getElem?_drop]
      congr 1; omega
  have hseta : ∀ (l : List AV) (x : AV), l.length = rows.length → (l.take n ++ x :: l.drop (n + 1))[n]? = some x := by
    intro l x hl
    rw [List.getElem?_append, if_neg (by simp; omega)]
    have e : (l.take n).length = n := by simp; omega
    rw [e]; simp
  by_cases h0 : row = []
  · subst h0
    simp only [rowC, ↓reduceIte] at hat hlk
    simp (disch := omega) [-Gh.run, ghs_cons', hat, rowsC_len, hn, hw, hlk47, hlen1]
    rw [show ∀ st, look st.env 8 = some (.t (tI n)) → (Gh.renS 47 100000 8).run st = renSt 47 (100000 + n) st from fun st hs => by simp [Gh.run, hs]]
    rw [fin (p := (i, k)) hn hn2 (by simp [rowsC_len]; omega) (fun j hj => hset j hj _ _ rowsC_len) (by rw [hseta _ _ rowsC_len, hrow]; first | done | rfl) (by rw [hrow]; first | done | rfl) (by simp [look]) (by rw [look, if_neg (by omega), look, if_neg (by omega)]; exact hlk) (fun t h1 h2 h3 => ?_) (fun q hq => ?_)]
    · simpa [renRef, ren1, ren0, toName] using h
    · rw [look, if_neg (by omega), look, if_neg (by omega), rowsH, look_rowsK, if_pos (by omega)]
    · rcases List.mem_cons.1 hq with rfl | hq
      · exact .inl rfl
      · rcases List.mem_cons.1 hq with rfl | hq
        · exact .inr (.inl rfl)
        · have := mem_rowsK q hq; exact .inr (.inr (by omega))
    · rfl
  · simp only [rowC, h0, ↓reduceIte] at hat hlk
    have h14 : ¬ 14 = 100000 + n := by omega
    have htl : ∀ t, look ((rowsH rows).filter fun p => p.1 != 100000 + n) t = if t = 100000 + n then none else look (rowsH rows) t := fun t => look_del (100000 + n) (rowsH rows) t
    have hkl : ∀ l : List (Nat × Reg), (∀ p ∈ l, p ∈ rowsH rows) → l.map (fun p => (p.1, killReg (100000 + n) p.2)) = l := by
      intro l hl
      conv => rhs; rw [← List.map_id l]
      refine List.map_congr_left fun p hp => ?_
      obtain ⟨id, hid, hee⟩ := List.mem_filterMap.1 (hl p hp)
      cases hg : rowR rows id with
      | none => rw [hg] at hee; cases hee
      | some q =>
        rw [hg] at hee
        simp only [Option.map_some, Option.some.injEq] at hee; subst hee
        unfold rowR at hg
        split at hg
        · split at hg
          · cases hg
          · simp only [Option.some.injEq] at hg; subst hg; rfl
        · cases hg
    have hk : (del (100000 + n) ((14, Reg.bx (rowsC rows)) :: rowsH rows)).map (fun p => (p.1, killReg (100000 + n) p.2)) = (14, .bx ((rowsC rows).map (killRef (100000 + n)))) :: (rowsH rows).filter fun p => p.1 != 100000 + n := by
      have e : del (100000 + n) ((14, Reg.bx (rowsC rows)) :: rowsH rows) = (14, Reg.bx (rowsC rows)) :: (rowsH rows).filter fun p => p.1 != 100000 + n := by
        unfold del
        rw [List.filter_cons, if_pos (by simp; omega)]
      rw [e, List.map_cons, hkl _ (fun p hp => (List.mem_filter.1 hp).1)]
      rfl
    have hl47 : look ((rowsH rows).filter fun p => p.1 != 100000 + n) 47 = none := by rw [htl, if_neg (by omega)]; exact hlk47
    generalize htail : (rowsH rows).filter (fun p => p.1 != 100000 + n) = tl at htl hk hl47
    have hkeys : ∀ q ∈ tl, 100000 ≤ q.1 ∧ q.1 < 116384 := by
      intro q hq
      rw [← htail] at hq
      have := mem_rowsK q (List.mem_filter.1 hq).1
      omega
    have hcs : ∀ j, j ≠ n → ((rowsC rows).map (killRef (100000 + n)))[j]? = (rowsC rows)[j]? := by
      intro j hj
      simp only [rowsC, List.getElem?_map, List.getElem?_mapIdx, Option.map_map]
      cases rows[j]? with
      | none => rfl
      | some r =>
        simp only [Option.map_some, Function.comp_def, rowC]
        split
        · rfl
        · simp only [killRef, kill1]; rw [if_neg (by omega)]
    have hcl : ((rowsC rows).map (killRef (100000 + n))).length = rows.length := by simp [rowsC_len]
    simp (disch := omega) [-Gh.run, ghs_cons', -del, -killReg, hat, rowsC_len, hn, hw, hlk, hlen1, encN_len, tLn_wid, h14, hk, hl47]
    refine ⟨by omega, ?_⟩
    rw [show ∀ st, look st.env 8 = some (.t (tI n)) → (Gh.renS 47 100000 8).run st = renSt 47 (100000 + n) st from fun st hs => by simp [Gh.run, hs]]
    · rw [fin (p := (i, k)) hn hn2 (by simp [hcl]; omega) (fun j hj => (hset j hj _ _ hcl).trans (hcs j hj)) (by rw [hseta _ _ hcl, hrow]) (by rw [hrow]; simp [look]; rw [show [tI i, tI k] = tLn (i, k) from rfl, encN_snoc]) (by simp [look]) (by rw [look, if_neg (by omega), look, if_neg (by omega), htl, if_pos rfl]) (fun t h1 h2 h3 => ?_) (fun q hq => ?_)]
      · simpa [renRef, ren1, ren0, toName] using h
      · rw [look, if_neg (by omega), look, if_neg (by omega), htl, if_neg h3, rowsH, look_rowsK, if_pos (by omega)]
      · rcases List.mem_cons.1 hq with rfl | hq
        · exact .inl rfl
        · rcases List.mem_cons.1 hq with rfl | hq
          · exact .inr (.inl rfl)
          · exact .inr (.inr (hkeys q hq))
    · rfl
end Go.Lg
namespace Go.Lg
open Go Go.Proofs
variable {Γ : Tables}
def fanPins (c : Cir) (i : Nat) : List Int → Nat → List Row → List Row
  | [], _, rows => rows
  | n :: l, k, rows => fanPins c i l (k + 1) (if outP c n then rows else addRow rows n.toNat (i, k))
def fanNodes (c : Cir) : List Nd → Nat → List Row → List Row
  | [], _, rows => rows
  | x :: l, i, rows => fanNodes c l (i + 1) (fanPins c i x.inn.l 0 rows)
def RB (rows : List Row) (B : Nat) : Prop := ∀ r ∈ rows, r.length ≤ B
theorem RB.add {rows : List Row} {B n : Nat} {p : Int × Int} (h : RB rows B) : RB (addRow rows n p) (B + 1) := by
  intro r hr
  unfold addRow at hr
  by_cases hn : n < rows.length
  · rcases List.mem_or_eq_of_mem_set hr with hr | rfl
    · have := h r hr; omega
    · have : (rows.getD n []).length ≤ B := by
        have e : rows.getD n [] = rows[n] := by simp [hn]
        rw [e]; exact h _ (List.getElem_mem hn)
      simp at this ⊢; omega
  · rw [List.set_eq_of_length_le (by omega)] at hr
    have := h r hr; omega
theorem RB.mono {rows : List Row} {B C : Nat} (h : RB rows B) (hc : B ≤ C) : RB rows C := fun r hr => Nat.le_trans (h r hr) hc
theorem RB.at {rows : List Row} {B : Nat} (h : RB rows B) (n : Nat) : (rows.getD n []).length ≤ B := by
  by_cases hn : n < rows.length
  · have e : rows.getD n [] = rows[n] := by simp [hn]
    rw [e]; exact h _ (List.getElem_mem hn)
  · simp [List.getD, List.getElem?_eq_none (Nat.not_lt.1 hn)]
theorem fanPins_ok (c : Cir) (i : Nat) : ∀ (l : List Int) (k : Nat) (rows : List Row) (B : Nat), RB rows B → (fanPins c i l k rows).length = rows.length ∧ RB (fanPins c i l k rows) (B + l.length)
  | [], k, rows, B, h => ⟨rfl, h⟩
  | n :: l, k, rows, B, h => by
    simp only [fanPins, List.length_cons]
    split
    · have := fanPins_ok c i l (k + 1) rows B h
      exact ⟨this.1, this.2.mono (by omega)⟩
    · have := fanPins_ok c i l (k + 1) _ (B + 1) (h.add (n := n.toNat) (p := (i, k)))
      exact ⟨this.1.trans addRow_len, this.2.mono (by omega)⟩
theorem pins_loop {Q : AX → St → Prop} (c : Cir) (hn : c.nodes.l.length ≤ 16384) (i : Nat) (s : Sl Int) (hs : s.l.length ≤ 1000000000) (R : List Row)
    (h0 : Q (.exit 2) ⟨[(3, .lb 14 c.nodes.l.length), (4, .t (.fn 195 [.ip (tC c) 0])), (5, .t (tI i)), (18, .t (tNodes c.nodes)), (19, .t (tI c.nodes.l.length)), (20, .t (tI i)), (26, .t (tSl s)), (27, .t (tI s.l.length)), (28, .t (tI s.l.length)), (29, .t (tB false))], (14, .bx (rowsC R)) :: rowsH R⟩) :
    ∀ (kk k : Nat) (rows : List Row), kk + k = s.l.length → rows.length = c.nodes.l.length → (∀ n, (rows.getD n []).length + kk ≤ 1000000000) → fanPins c i (s.l.drop k) k rows = R →
    run Tryz.prog Γ netlists_Fanout_l1 Q ⟨[(3, .lb 14 c.nodes.l.length), (4, .t (.fn 195 [.ip (tC c) 0])), (5, .t (tI i)), (18, .t (tNodes c.nodes)), (19, .t (tI c.nodes.l.length)), (20, .t (tI i)), (26, .t (tSl s)), (27, .t (tI s.l.length)), (28, .t (tI k))], (14, .bx (rowsC rows)) :: rowsH rows⟩
  | 0, k, rows, h, hl, hb, hR => by
    refine netlists_Fanout_l1_run fun K hK => ?_
    have h2 : ¬ k < s.l.length := by omega
    have h3 : k = s.l.length := by omega
    simp [h2, -Gh.run, ghs_cons', keepB_S]
    subst h3
    rw [List.drop_of_length_le (Nat.le_refl _)] at hR
    simp only [fanPins] at hR
    subst hR
    exact h0
  | kk + 1, k, rows, h, hl, hb, hR => by
    refine netlists_Fanout_l1_run fun K hK => ?_
    have h2 : k < s.l.length := by omega
    rw [List.drop_eq_getElem_cons h2] at hR
    simp only [fanPins] at hR
    have e := outside1_spec (Γ := Γ) c s.l[k] (by omega)
    simp (disch := omega) [h2, -Gh.run, ghs_cons', keepB_S, -netlists_Fanout_r10, tSl, enc1_len, enc1_get (0 : Int), enc1_wid]
    refine callK_clos e ?_
    by_cases ho : outP c s.l[k] = true
    · rw [if_pos ho] at hR
      simp (disch := omega) [ho, -Gh.run, ghs_cons', keepB_S, -netlists_Fanout_r10, wrap_i64]
      rw [hK]
      have := pins_loop c hn i s hs R h0 kk (k + 1) rows (by omega) hl (fun n => by have := hb n; omega) hR
      simpa [tSl] using this
    · have ho' : outP c s.l[k] = false := by simpa using ho
      rw [if_neg ho] at hR
      have hr := any_out (c := c) (l := [s.l[k]]) (by simp [ho']) s.l[k] (by simp)
      simp (disch := omega) [ho', -Gh.run, ghs_cons', keepB_S, -netlists_Fanout_r10]
      have hz : ((s.l[k]).toNat : Int) = s.l[k] := by omega
      have := r10_ok (Γ := Γ) (Q := blockX 3 (thenX (run Tryz.prog Γ (.reg netlists_Fanout_r11 [.keepB [3, 4, 5, 18, 19, 20, 26, 27, 28] [14] 100000 16384]) (thenX (fun s => thenX K Q .normal (ghs [.keepB [3, 4, 5, 18, 19, 20, 26, 27, 28] [14] 100000 16384] s)) (thenX K Q))) (thenX (fun s => thenX K Q .normal (ghs [.keepB [3, 4, 5, 18, 19, 20, 26, 27, 28] [14] 100000 16384] s)) (thenX K Q)))) rows (s.l[k]).toNat (by omega) (by omega) i k (by have := hb (s.l[k]).toNat; omega)
        (.fn 195 [.ip (tC c) 0]) (tNodes c.nodes) (tI c.nodes.l.length) (tI i) (.sl (ints s.l) s.cap s.nl) (tI s.l.length) (tI k) (tB true) c.nodes.l.length hl.symm ?_
      · rw [hz] at this; exact this
      · simp (disch := omega) [-Gh.run, ghs_cons', keepB_S, wrap_i64]
        rw [hK]
        have hbb : ∀ n, ((addRow rows (s.l[k]).toNat (i, k)).getD n []).length + kk ≤ 1000000000 := by
          intro n
          unfold addRow
          have h5 := hb n
          have h6 := hb (s.l[k]).toNat
          by_cases hq : n = (s.l[k]).toNat
          · subst hq
            have hlt : (s.l[k]).toNat < rows.length := by omega
            simp [List.getD, List.getElem?_set, hlt] at h6 ⊢
            omega
          · have : ¬ (s.l[k]).toNat = n := fun e => hq e.symm
            simp [List.getD, List.getElem?_set, this] at h5 ⊢
            omega
        have := pins_loop c hn i s hs R h0 kk (k + 1) (addRow rows (s.l[k]).toNat (i, k)) (by omega) (addRow_len.trans hl) hbb hR
        simpa [tSl] using this
end Go.Lg
namespace Go.Lg
open Go Go.Proofs
variable {Γ : Tables}
theorem gh_keep {ks rs : List Nat} {st : St} : Gh.run (.keep ks rs) st = ⟨(killAll ((st.hp.map (·.1)).filter fun id => !rs.contains id) ⟨Lg.keep ks st.env, st.hp⟩).env, Lg.keep rs (killAll ((st.hp.map (·.1)).filter fun id => !rs.contains id) ⟨Lg.keep ks st.env, st.hp⟩).hp⟩ := rfl
theorem keepB_6k {env : List (Nat × AV)} {ks : List Nat} {rows : List Row} {q : Reg} : Gh.run (.keepB ks [6, 14] 100000 16384) ⟨env, (6, q) :: (14, .bx (rowsC rows)) :: rowsH rows⟩ = ⟨Lg.keep ks env, (6, q) :: (14, .bx (rowsC rows)) :: rowsH rows⟩ := by
  have hk : (((6, q) :: (14, Reg.bx (rowsC rows)) :: rowsH rows).map (·.1)).filter (fun id => !([6, 14] : List Nat).contains id && !(decide (100000 ≤ id) && decide (id < 100000 + 16384))) = [] := by
    rw [List.filter_eq_nil_iff]
    intro id hid
    simp only [List.map_cons, List.mem_cons] at hid
    rcases hid with rfl | rfl | hid
    · simp
    · simp
    · obtain ⟨p, hp, rfl⟩ := List.mem_map.1 hid
      have := mem_rowsK p hp
      simp; omega
  simp only [Gh.run, keepBSt, hk, killAll, keep_cons, keep_nil, look, ↓reduceIte]
  simp only [show ¬ (6 = 14) by omega, ↓reduceIte, List.cons_append, List.nil_append]
  congr 3
  refine keep_rows fun t ht => ?_
  rw [List.mem_range'_1] at ht
  rw [look, if_neg (by omega), look_rows, if_neg (by omega), if_pos ⟨ht.1, by omega⟩]
theorem nodes_loop {Q : AX → St → Prop} (c : Cir) (hn : c.nodes.l.length ≤ 16384) (hi : ∀ x ∈ c.nodes.l, x.inn.l.length ≤ 16) (R : List Row)
    (h0 : Q (.exit 0) ⟨[(3, .lb 14 c.nodes.l.length), (4, .t (.fn 195 [.ip (tC c) 0])), (18, .t (tNodes c.nodes)), (19, .t (tI c.nodes.l.length)), (20, .t (tI c.nodes.l.length)), (21, .t (tB false))], (14, .bx (rowsC R)) :: rowsH R⟩) :
    ∀ (kk i : Nat) (rows : List Row), kk + i = c.nodes.l.length → rows.length = c.nodes.l.length → RB rows (16 * i) → fanNodes c (c.nodes.l.drop i) i rows = R →
    run Tryz.prog Γ netlists_Fanout_l3 Q ⟨[(3, .lb 14 c.nodes.l.length), (4, .t (.fn 195 [.ip (tC c) 0])), (18, .t (tNodes c.nodes)), (19, .t (tI c.nodes.l.length)), (20, .t (tI i))], (14, .bx (rowsC rows)) :: rowsH rows⟩
  | 0, i, rows, h, hl, hb, hR => by
    refine netlists_Fanout_l3_run fun K hK => ?_
    have h2 : ¬ i < c.nodes.l.length := by omega
    have h3 : i = c.nodes.l.length := by omega
    simp [h2, -Gh.run, ghs_cons', keepB_S]
    subst h3
    rw [List.drop_of_length_le (Nat.le_refl _)] at hR
    simp only [fanNodes] at hR
    subst hR
    exact h0
  | kk + 1, i, rows, h, hl, hb, hR => by
    refine netlists_Fanout_l3_run fun K hK => ?_
    have h2 : i < c.nodes.l.length := by omega
    rw [List.drop_eq_getElem_cons h2] at hR
    simp only [fanNodes] at hR
    have hx := hi _ (List.getElem_mem h2)
    have hlk6 : look (rowsH rows) 6 = none := by rw [rowsH, look_rowsK, if_neg (by omega)]
    simp (disch := omega) [h2, -Gh.run, ghs_cons', keepB_S, keepB_6, keepB_6k, tNodes, encN_len, encN_get Nd.d, tNd_wid, tNd, tSl, hlk6, enc1_len]
    refine pins_loop c hn i c.nodes.l[i].inn (by omega) _ ?_ c.nodes.l[i].inn.l.length 0 rows (by omega) hl (fun n => by have := hb.at n; omega) rfl
    obtain ⟨hf1, hf2⟩ := fanPins_ok c i c.nodes.l[i].inn.l 0 rows (16 * i) hb
    simp (disch := omega) [-Gh.run, ghs_cons', keepB_S, wrap_i64, List.drop_zero]
    rw [hK]
    have := nodes_loop c hn hi R h0 kk (i + 1) _ (by omega) (hf1.trans hl) (hf2.mono (by omega)) hR
    simpa [tNodes] using this
def rowTC (r : Row) : T := .sl (encN tLn r) (some r.length) (if r = [] then some true else none)
theorem clip_row (r : Row) : PureCalls Tryz.prog Γ 176 [rowT r] (rowTC r) := by
  unfold rowT rowTC
  by_cases h : r = []
  · subst h; simpa [encN] using clip_line (Γ := Γ) [] (some 0) (some true) wid_nil
  · rw [if_neg h, if_neg h]
    have := clip_line (Γ := Γ) (encN tLn r) none none tLn_wid
    rwa [encN_len] at this
def mixC (rows : List Row) (i : Nat) : List AV := rows.mapIdx fun j r => .t (if j < i then rowTC r else rowT r)
theorem mixC_len {rows : List Row} {i : Nat} : (mixC rows i).length = rows.length := by simp [mixC]
theorem mixC_at {rows : List Row} {i : Nat} (h : i < rows.length) : ((mixC rows i).drop i).take 1 = [.t (rowT rows[i])] := by
  rw [List.drop_eq_getElem_cons (by rw [mixC_len]; exact h)]
  simp [mixC]
theorem mixC_next {rows : List Row} {i : Nat} (h : i < rows.length) : (mixC rows i).take i ++ .t (rowTC rows[i]) :: (mixC rows i).drop (i + 1) = mixC rows (i + 1) := by
  apply List.ext_getElem?
  intro j
  rw [List.getElem?_append]
  have e : ((mixC rows i).take i).length = i := by simp [mixC_len]; omega
  rw [e]
  by_cases h1 : j < i
  · rw [if_pos h1, List.getElem?_take, if_pos h1]
    simp only [mixC, List.getElem?_mapIdx]
    cases rows[j]? with
    | none => rfl
    | some r => simp only [Option.map_some]; rw [if_pos h1, if_pos (by omega)]
  · rw [if_neg h1]
    by_cases h2 : j = i
    · subst h2
      simp [mixC, List.getElem?_eq_getElem h]
    · rw [show j - i = (j - i - 1) + 1 by omega, List.getElem?_cons_succ, List.getElem?_drop]
      rw [show i + 1 + (j - i - 1) = j by omega]
      simp only [mixC, List.getElem?_mapIdx]
      cases rows[j]? with
      | none => rfl
      | some r => simp only [Option.map_some]; rw [if_neg h1, if_neg (by omega)]
theorem clip_loop {Q : AX → St → Prop} (rows : List Row) (hn : rows.length ≤ 16384)
    (h0 : Q (.exit 4) ⟨[(3, .lb 14 rows.length), (51, .lb 14 rows.length), (52, .t (tI rows.length)), (53, .t (tI rows.length)), (54, .t (tB false))], [(14, .bx (mixC rows rows.length))]⟩) :
    ∀ (kk i : Nat), kk + i = rows.length →
    run Tryz.prog Γ netlists_Fanout_l5 Q ⟨[(3, .lb 14 rows.length), (51, .lb 14 rows.length), (52, .t (tI rows.length)), (53, .t (tI i))], [(14, .bx (mixC rows i))]⟩
  | 0, i, h => by
    refine netlists_Fanout_l5_run fun K hK => ?_
    have h2 : ¬ i < rows.length := by omega
    have h3 : i = rows.length := by omega
    simp [h2]
    subst h3
    exact h0
  | kk + 1, i, h => by
    refine netlists_Fanout_l5_run fun K hK => ?_
    have h2 : i < rows.length := by omega
    have h3 : i + 1 ≤ rows.length := h2
    have e := clip_row (Γ := Γ) rows[i]
    have ho : (rowT rows[i]).one = true := by unfold rowT; split <;> rfl
    simp (disch := omega) [h2, h3, mixC_at h2, mixC_len]
    refine callK_pure e rfl ?_
    simp (disch := omega) [h2, h3, mixC_len, wrap_i64, rowTC]
    rw [hK]
    have := clip_loop rows hn h0 kk (i + 1) (by omega)
    rw [← mixC_next h2] at this
    simpa [rowTC] using this
def fanRows (c : Cir) : List Row := fanNodes c c.nodes.l 0 (List.replicate c.nodes.l.length [])
def tFan (rows : List Row) : T := .sl (enc1 rowTC rows) (some rows.length) none
theorem fanNodes_len (c : Cir) : ∀ (l : List Nd) (i : Nat) (rows : List Row), (fanNodes c l i rows).length = rows.length
  | [], _, _ => rfl
  | x :: l, i, rows => by
    simp only [fanNodes]
    rw [fanNodes_len c l]
    exact (fanPins_ok c i x.inn.l 0 rows (rows.foldr (fun r m => r.length + m) 0) (by
      intro r hr
      induction rows with
      | nil => cases hr
      | cons y ys ih =>
        simp only [List.foldr_cons]
        rcases List.mem_cons.1 hr with rfl | hr
        · omega
        · have := ih hr; omega)).1
theorem fanRows_len (c : Cir) : (fanRows c).length = c.nodes.l.length := by rw [fanRows, fanNodes_len]; simp
theorem fanout_spec (c : Cir) (hn : c.nodes.l.length ≤ 16384) (hi : ∀ x ∈ c.nodes.l, x.inn.l.length ≤ 16) : PureCalls Tryz.prog Γ 149 [.agg (tC c)] (tFan (fanRows c)) := by
  refine run_pureQ netlists_Fanout_chk rfl ?_
  have eo := outside_spec (Γ := Γ) c
  have hR := fanRows_len c
  have hk1 : ∀ (env : List (Nat × AV)) (ks : List Nat), Gh.run (.keepB ks [14] 100000 16384) ⟨env, [(14, .bx (List.replicate c.nodes.l.length (.t (.sl [] (some 0) (some true)))))]⟩ = ⟨Lg.keep ks env, (14, .bx (rowsC (List.replicate c.nodes.l.length []))) :: rowsH (List.replicate c.nodes.l.length [])⟩ := by
    intro env ks
    have hc : rowsC (List.replicate c.nodes.l.length []) = List.replicate c.nodes.l.length (.t (.sl [] (some 0) (some true))) := by
      apply List.ext_getElem?
      intro j
      simp only [rowsC, List.getElem?_mapIdx, List.getElem?_replicate]
      split <;> simp [rowC]
    refine keepB_gen (by simp) (by simp [look, hc]) fun t h1 h2 => ?_
    rw [look, if_neg (by omega)]
    unfold rowR
    rw [List.getElem?_replicate]
    split <;> rename_i hq
    · split at hq
      · simp only [Option.some.injEq] at hq; subst hq; rfl
      · cases hq
    · rfl
  simp (disch := omega) [netlists_Fanout_ic, tC, tNodes, tNames, tMems, tSl, encN_len, -Gh.run, ghs_cons', gh_keep, hk1, wrap_i64]
  refine ⟨by omega, ?_⟩
  refine callK_pure eo rfl ?_
  simp (disch := omega) [-Gh.run, ghs_cons', keepB_S, encN_len]
  have hp0 : RB (List.replicate c.nodes.l.length []) (16 * 0) := by
    intro r hr; rw [List.eq_of_mem_replicate hr]; simp
  refine nodes_loop c hn hi (fanRows c) ?_ c.nodes.l.length 0 (List.replicate c.nodes.l.length []) (by omega) (by simp) hp0 rfl
  generalize fanRows c = R at hR
  rw [← hR]
  simp (disch := omega) [-Gh.run, ghs_cons']
  rw [frz_rows (by omega) (fun id r h p hp => by
    simp only [List.mem_cons, List.not_mem_nil, or_false] at hp
    have h14 : ¬ 14 = id := by omega
    rcases hp with rfl | rfl | rfl | rfl | rfl | rfl | rfl | rfl | rfl <;> simp [frzRef, frz1, frz0, h14])]
  have hmix : (R.map fun r => AV.t (rowT r)) = mixC R 0 := by
    apply List.ext_getElem?
    intro j
    simp only [List.getElem?_map, mixC, List.getElem?_mapIdx]
    cases R[j]? <;> simp
  rw [hmix]
  simp
  refine clip_loop R (by omega) ?_ R.length 0 (by omega)
  have hfin : mixC R R.length = (R.map rowTC).map .t := by
    apply List.ext_getElem?
    intro j
    simp only [List.getElem?_map, mixC, List.getElem?_mapIdx, Option.map_map]
    cases hj : R[j]? with
    | none => rfl
    | some r =>
      have := (List.getElem?_eq_some_iff.1 hj).1
      simp only [Option.map_some, Function.comp_def]
      rw [if_pos this]
  have hopt : optAll ((mixC R R.length).map (reify [(14, .bx (mixC R R.length))] 3)) = some (R.map rowTC) := by
    conv => lhs; rw [hfin]
    rw [List.map_map]
    have : (R.map rowTC).map (reify [(14, .bx ((R.map rowTC).map .t))] 3 ∘ AV.t) = (R.map rowTC).map fun t => some t := List.map_congr_left fun t _ => by simp [reify]
    rw [this]; exact optAll_some
  simp [netlists_Fanout_rv, tFan, hopt, enc1]
end Go.Lg
namespace Go.Lg
open Go Go.Proofs
def LinesIn (N : Nat) (rows : List Row) : Prop := ∀ r ∈ rows, ∀ p ∈ r, ∃ i : Nat, i < N ∧ p.1 = i
theorem LinesIn.add {N : Nat} {rows : List Row} {n i : Nat} {k : Int} (h : LinesIn N rows) (hi : i < N) : LinesIn N (addRow rows n (i, k)) := by
  intro r hr p hp
  unfold addRow at hr
  by_cases hn : n < rows.length
  · rcases List.mem_or_eq_of_mem_set hr with hr | rfl
    · exact h r hr p hp
    · rcases List.mem_append.1 hp with hp | hp
      · have e : rows.getD n [] = rows[n] := by simp [hn]
        rw [e] at hp
        exact h _ (List.getElem_mem hn) p hp
      · simp at hp; subst hp; exact ⟨i, hi, rfl⟩
  · rw [List.set_eq_of_length_le (by omega)] at hr
    exact h r hr p hp
theorem fanPins_in {N : Nat} (c : Cir) (i : Nat) (hi : i < N) : ∀ (l : List Int) (k : Nat) (rows : List Row), LinesIn N rows → LinesIn N (fanPins c i l k rows)
  | [], _, _, h => h
  | n :: l, k, rows, h => by
    simp only [fanPins]
    split
    · exact fanPins_in c i hi l (k + 1) rows h
    · exact fanPins_in c i hi l (k + 1) _ (h.add hi)
theorem fanNodes_in {N : Nat} (c : Cir) : ∀ (l : List Nd) (i : Nat) (rows : List Row), i + l.length ≤ N → LinesIn N rows → LinesIn N (fanNodes c l i rows)
  | [], _, _, _, h => h
  | x :: l, i, rows, hl, h => by
    simp only [fanNodes]
    simp at hl
    exact fanNodes_in c l (i + 1) _ (by omega) (fanPins_in c i (by omega) _ _ _ h)
theorem fanRows_in (c : Cir) : LinesIn c.nodes.l.length (fanRows c) := by
  refine fanNodes_in c c.nodes.l 0 _ (by omega) fun r hr p hp => ?_
  rw [List.eq_of_mem_replicate hr] at hp; cases hp
theorem fanNodes_rb (c : Cir) : ∀ (l : List Nd) (i B : Nat) (rows : List Row), (∀ x ∈ l, x.inn.l.length ≤ 16) → RB rows B → RB (fanNodes c l i rows) (B + 16 * l.length)
  | [], _, _, _, _, h => h
  | x :: l, i, B, rows, hl, h => by
    simp only [fanNodes, List.length_cons]
    have h1 := (fanPins_ok c i x.inn.l 0 rows B h).2
    have h2 := hl x List.mem_cons_self
    exact (fanNodes_rb c l (i + 1) (B + 16) _ (fun y hy => hl y (List.mem_cons_of_mem _ hy)) (h1.mono (by omega))).mono (by omega)
theorem fanRows_rb (c : Cir) (hn : c.nodes.l.length ≤ 16384) (hi : ∀ x ∈ c.nodes.l, x.inn.l.length ≤ 16) : RB (fanRows c) 262144 := by
  refine (fanNodes_rb c c.nodes.l 0 0 _ hi fun r hr => ?_).mono (by omega)
  rw [List.eq_of_mem_replicate hr]; simp
structure LS where
  out : List Int
  left : List Int
  rdy : List Int
def combB (k : Int) : Bool := decide (1 ≤ k ∧ k ≤ 13)
def kindAt (c : Cir) (j : Nat) : Int := (c.nodes.l.getD j Nd.d).k
def stepL (c : Cir) (n : Nat) (s : LS) (p : Int × Int) : LS :=
  if combB (kindAt c p.1.toNat) then
    ⟨s.out.set p.1.toNat (max (s.out.getD p.1.toNat 0) (s.out.getD n 0 + 1)), s.left.set p.1.toNat (s.left.getD p.1.toNat 0 - 1), if s.left.getD p.1.toNat 0 - 1 = 0 then s.rdy ++ [p.1] else s.rdy⟩
  else s
def rowOf (c : Cir) (n : Nat) : Row := (fanRows c).getD n []
def mainL (c : Cir) : Nat → Nat → LS → Nat × LS
  | 0, d, s => (d, s)
  | f + 1, d, s => if d < s.rdy.length then mainL c f (d + 1) ((rowOf c (s.rdy.getD d 0).toNat).foldl (stepL c (s.rdy.getD d 0).toNat) s) else (d, s)
def leftOf (x : Nd) : Int := if combB x.k then x.inn.l.length else 0
def rdyFrom : List Nd → Nat → List Int
  | [], _ => []
  | x :: l, i => if leftOf x = 0 then (i : Int) :: rdyFrom l (i + 1) else rdyFrom l (i + 1)
def initL (c : Cir) : LS := ⟨List.replicate c.nodes.l.length 0, c.nodes.l.map leftOf, rdyFrom c.nodes.l 0⟩
def endL (c : Cir) : Nat × LS := mainL c (c.nodes.l.length + 1) 0 (initL c)
structure LI (N M : Nat) (s : LS) : Prop where
  lo : s.out.length = N
  ll : s.left.length = N
  rd : ∀ j ∈ s.rdy, ∃ i : Nat, i < N ∧ j = i ∧ s.left.getD i 0 ≤ 0
  nd : s.rdy.Nodup
  bo : ∀ i, 0 ≤ s.out.getD i 0 ∧ s.out.getD i 0 ≤ M
  bl : ∀ i, -(M : Int) ≤ s.left.getD i 0 ∧ s.left.getD i 0 ≤ 1000
theorem nodup_len {N : Nat} {l : List Int} (h : l.Nodup) (hb : ∀ j ∈ l, ∃ i : Nat, i < N ∧ j = i) : l.length ≤ N := by
  have h1 : (l.map Int.toNat).Nodup := by
    rw [List.nodup_iff_pairwise_ne] at h ⊢
    rw [List.pairwise_map]
    refine h.imp_of_mem fun {a b} ha hb' hne e => hne ?_
    obtain ⟨i, _, rfl⟩ := hb a ha
    obtain ⟨j, _, rfl⟩ := hb b hb'
    have : i = j := by simpa using e
    rw [this]
  have h2 : (l.map Int.toNat) ⊆ List.range N := by
    intro j hj
    obtain ⟨a, ha, rfl⟩ := List.mem_map.1 hj
    obtain ⟨i, hi, rfl⟩ := hb a ha
    simpa using hi
  have := (List.Nodup.length_le_of_subset h1 h2)
  simpa using this
theorem LI.len {N M : Nat} {s : LS} (h : LI N M s) : s.rdy.length ≤ N := nodup_len h.nd fun j hj => by obtain ⟨i, h1, h2, _⟩ := h.rd j hj; exact ⟨i, h1, h2⟩
theorem getD_set {l : List Int} {j i : Nat} {v : Int} (hj : j < l.length) : (l.set j v).getD i 0 = if i = j then v else l.getD i 0 := by
  simp only [List.getD, List.getElem?_set]
  by_cases h : j = i
  · subst h; simp [hj]
  · simp [h, Ne.symm h]
theorem LI.step {N M : Nat} {c : Cir} {s : LS} {n i : Nat} {k : Int} (h : LI N M s) (hi : i < N) : LI N (M + 1) (stepL c n s (i, k)) := by
  unfold stepL
  simp only [Int.toNat_natCast]
  split
  case isFalse => exact ⟨h.lo, h.ll, h.rd, h.nd, fun j => ⟨(h.bo j).1, by have := (h.bo j).2; omega⟩, fun j => ⟨by have := (h.bl j).1; omega, (h.bl j).2⟩⟩
  refine ⟨by simp [h.lo], by simp [h.ll], ?_, ?_, ?_, ?_⟩
  · intro j hj
    have old : ∀ j ∈ s.rdy, ∃ i0 : Nat, i0 < N ∧ j = i0 ∧ (s.left.set i (s.left.getD i 0 - 1)).getD i0 0 ≤ 0 := by
      intro j hj
      obtain ⟨i0, h1, h2, h3⟩ := h.rd j hj
      refine ⟨i0, h1, h2, ?_⟩
      rw [getD_set (by rw [h.ll]; exact hi)]
      split
      · rename_i e; subst e; omega
      · exact h3
    split at hj
    · rename_i hz
      rcases List.mem_append.1 hj with hj | hj
      · exact old j hj
      · simp at hj; subst hj
        refine ⟨i, hi, rfl, ?_⟩
        rw [getD_set (by rw [h.ll]; exact hi), if_pos rfl]; omega
    · exact old j hj
  · split
    · rename_i hz
      rw [List.nodup_append]
      refine ⟨h.nd, by simp, ?_⟩
      intro a ha b hb e
      simp at hb; subst hb; subst e
      obtain ⟨i0, h1, h2, h3⟩ := h.rd _ ha
      have : i = i0 := by omega
      subst this
      omega
    · exact h.nd
  · intro j
    rw [getD_set (by rw [h.lo]; exact hi)]
    have h1 := h.bo j
    have h2 := h.bo i
    have h3 := h.bo n
    split
    · rename_i e
      omega
    · omega
  · intro j
    rw [getD_set (by rw [h.ll]; exact hi)]
    have h1 := h.bl j
    have h2 := h.bl i
    split <;> omega
theorem LI.fold {N : Nat} {c : Cir} {n : Nat} : ∀ {r : Row} {s : LS} {M : Nat}, LI N M s → (∀ p ∈ r, ∃ i : Nat, i < N ∧ p.1 = i) → LI N (M + r.length) (r.foldl (stepL c n) s)
  | [], _, _, h, _ => h
  | p :: r, s, M, h, hr => by
    obtain ⟨i, hi, he⟩ := hr p List.mem_cons_self
    obtain ⟨p1, p2⟩ := p
    simp only at he; subst he
    have := LI.fold (c := c) (n := n) (h.step (c := c) (n := n) (k := p2) hi) fun q hq => hr q (List.mem_cons_of_mem _ hq)
    simp only [List.foldl_cons, List.length_cons]
    rw [show M + (r.length + 1) = M + 1 + r.length by omega]
    exact this
theorem rdyFrom_in : ∀ (l : List Nd) (i : Nat), (∀ j ∈ rdyFrom l i, ∃ a : Nat, i ≤ a ∧ a < i + l.length ∧ j = a ∧ (l.map leftOf).getD (a - i) 0 = 0) ∧ (rdyFrom l i).Nodup
  | [], _ => ⟨fun j h => (by cases h), List.nodup_nil⟩
  | x :: l, i => by
    obtain ⟨h1, h2⟩ := rdyFrom_in l (i + 1)
    have h3 : ∀ j ∈ rdyFrom l (i + 1), ∃ a : Nat, i ≤ a ∧ a < i + (l.length + 1) ∧ j = a ∧ ((x :: l).map leftOf).getD (a - i) 0 = 0 := by
      intro j hj
      obtain ⟨a, e1, e2, e3, e4⟩ := h1 j hj
      refine ⟨a, by omega, by omega, e3, ?_⟩
      rw [show a - i = (a - (i + 1)) + 1 by omega]
      simpa using e4
    simp only [rdyFrom, List.length_cons]
    split
    · rename_i hz
      refine ⟨fun j hj => ?_, ?_⟩
      · rcases List.mem_cons.1 hj with rfl | hj
        · exact ⟨i, by omega, by omega, rfl, by simp [hz]⟩
        · exact h3 j hj
      · rw [List.nodup_cons]
        refine ⟨fun hm => ?_, h2⟩
        obtain ⟨a, e1, _, e3, _⟩ := h1 _ hm
        omega
    · exact ⟨h3, h2⟩
theorem initL_ok (c : Cir) (hi : ∀ x ∈ c.nodes.l, x.inn.l.length ≤ 16) : LI c.nodes.l.length 0 (initL c) := by
  obtain ⟨h1, h2⟩ := rdyFrom_in c.nodes.l 0
  refine ⟨by simp [initL], by simp [initL], fun j hj => ?_, h2, fun i => ?_, fun i => ?_⟩
  · obtain ⟨a, _, e2, e3, e4⟩ := h1 j hj
    exact ⟨a, by omega, e3, by simp only [Nat.sub_zero] at e4; simp only [initL]; omega⟩
  · simp only [initL, List.getD, List.getElem?_replicate]
    split <;> simp
  · simp only [initL, List.getD, List.getElem?_map]
    cases hx : c.nodes.l[i]? with
    | none => simp
    | some x =>
      have := hi x (List.mem_of_getElem? hx)
      simp only [Option.map_some, Option.getD_some, leftOf]
      split <;> simp <;> omega
end Go.Lg
namespace Go.Lg
open Go Go.Proofs
variable {Γ : Tables}
theorem enc1_get_set {α : Type} {f : α → T} {l : List α} {j : Nat} {x : α} (h : j < l.length) : (enc1 f (l.set j x))[j]?.getD [] = [f x] := by simp [enc1, h]
theorem tLn_get {r : Row} {i : Nat} (h : i < r.length) : (encN tLn r)[i]?.getD [] = tLn r[i] := by simp [encN, h]
def lsH (s : LS) : List (Nat × Reg) := [(23, .sl 3 1 (ints s.out)), (27, .sl 3 1 (ints s.left)), (53, .sl 3 1 (ints s.rdy))]
theorem lines_loop {Q : AX → St → Prop} (c : Cir) (hc : CirOk c) (hn : c.nodes.l.length ≤ 16384) (n : Nat) (hnn : n < c.nodes.l.length) (d : Int) (r : Row) (nl : Option Bool) (hr : r.length ≤ 262144) (hin : ∀ p ∈ r, ∃ i : Nat, i < c.nodes.l.length ∧ p.1 = i) (fan : T) (S : LS)
    (h0 : Q (.exit 4) ⟨[(1, .t (.ip (tC c) 0)), (5, .ls 23 0 c.nodes.l.length none), (6, .ls 27 0 c.nodes.l.length none), (7, .ls 53 0 S.rdy.length none), (10, .t fan), (11, .t (tI d)), (12, .t (tI n)), (76, .t (.sl (encN tLn r) (some r.length) nl)), (77, .t (tI r.length)), (78, .t (tI r.length)), (79, .t (tB false))], lsH S⟩) :
    ∀ (kk k : Nat) (s : LS) (M : Nat), kk + k = r.length → LI c.nodes.l.length M s → M + kk ≤ 4611686018427387904 → (r.drop k).foldl (stepL c n) s = S →
    run Tryz.prog Γ netlists_Levels_l3 Q ⟨[(1, .t (.ip (tC c) 0)), (5, .ls 23 0 c.nodes.l.length none), (6, .ls 27 0 c.nodes.l.length none), (7, .ls 53 0 s.rdy.length none), (10, .t fan), (11, .t (tI d)), (12, .t (tI n)), (76, .t (.sl (encN tLn r) (some r.length) nl)), (77, .t (tI r.length)), (78, .t (tI k))], lsH s⟩
  | 0, k, s, M, h, hI, hM, hS => by
    refine netlists_Levels_l3_run fun K hK => ?_
    have h2 : ¬ k < r.length := by omega
    have h3 : k = r.length := by omega
    simp [h2, lsH]
    subst h3
    rw [List.drop_of_length_le (Nat.le_refl _)] at hS
    simp only [List.foldl_nil] at hS
    subst hS
    exact h0
  | kk + 1, k, s, M, h, hI, hM, hS => by
    refine netlists_Levels_l3_run fun K hK => ?_
    have h2 : k < r.length := by omega
    rw [List.drop_eq_getElem_cons h2] at hS
    simp only [List.foldl_cons] at hS
    obtain ⟨j, hj, hpj⟩ := hin _ (List.getElem_mem h2)
    have hstep := hI.step (c := c) (n := n) (k := r[k].2) hj
    have hpair : r[k] = ((j : Int), r[k].2) := by rw [← hpj]
    rw [hpair] at hS
    generalize r[k].2 = q at hS hstep hpair
    have e := comb_spec (Γ := Γ) c.nodes.l[j].k
    have hkind : kindAt c j = c.nodes.l[j].k := by simp [kindAt, hj]
    simp (disch := omega) [h2, lsH, encN_len, tLn_get h2, tLn_wid, hpair, tLn, tC, tNodes, encN_get Nd.d, tNd_wid, tNd, tSl, hj]
    refine callK_fresh e rfl ?_
    by_cases hcb : combB c.nodes.l[j].k = true
    case neg =>
      have hcb' : decide (1 ≤ c.nodes.l[j].k ∧ c.nodes.l[j].k ≤ 13) = false := by simpa [combB] using hcb
      have hcb2 : combB (kindAt c j) = false := by rw [hkind]; exact hcb'
      have hst : stepL c n s ((j : Int), q) = s := by unfold stepL; simp [hcb2]
      rw [hst] at hS hstep
      rw [hcb']
      simp (disch := omega) [wrap_i64]
      rw [hK]
      have := lines_loop c hc hn n hnn d r nl hr hin fan S h0 kk (k + 1) s (M + 1) (by omega) hstep (by omega) hS
      simpa [lsH, tC, tNodes, tSl] using this
    have hcb' : decide (1 ≤ c.nodes.l[j].k ∧ c.nodes.l[j].k ≤ 13) = true := by simpa [combB] using hcb
    have hcb2 : combB (kindAt c j) = true := by rw [hkind]; exact hcb'
    rw [hcb']
    have ho := hI.lo
    have hll := hI.ll
    have b1 := hI.bo n
    have b2 := hI.bo j
    have b3 := hI.bl j
    have hrl := hI.len
    have hst : stepL c n s ((j : Int), q) = ⟨s.out.set j (max (s.out.getD j 0) (s.out.getD n 0 + 1)), s.left.set j (s.left.getD j 0 - 1), if s.left.getD j 0 - 1 = 0 then s.rdy ++ [(j : Int)] else s.rdy⟩ := by
      unfold stepL; simp [hcb2]
    have hw : wid 1 [[tI (j : Int)]] := by intro e he; simp at he; subst he; rfl
    have hmax : max (s.out.getD j 0) (s.out.getD n 0 + 1) = if s.out.getD j 0 < s.out.getD n 0 + 1 then s.out.getD n 0 + 1 else s.out.getD j 0 := by
      split <;> omega
    have ih := fun S2 (e : S2 = stepL c n s ((j : Int), q)) => lines_loop c hc hn n hnn d r nl hr hin fan S h0 kk (k + 1) S2 (M + 1) (by omega) (e ▸ hstep) (by omega) (e ▸ hS)
    have ljo : j < s.out.length := by omega
    have lno : n < s.out.length := by omega
    have ljl : j < s.left.length := by omega
    simp only [List.getD, List.getElem?_eq_getElem ljo, List.getElem?_eq_getElem lno, List.getElem?_eq_getElem ljl, Option.getD_some] at b1 b2 b3 hst hmax
    have b1a := b1.1
    have b1b := b1.2
    have b2a := b2.1
    have b2b := b2.2
    have b3a := b3.1
    have b3b := b3.2
    simp (disch := omega) [wrap_i64, enc1_len, enc1_get (0 : Int), enc1_wid, enc1_set, ljo, lno, ljl, hj, hnn]
    rw [show (if s.out[j] < s.out[n] + 1 then s.out[n] + 1 else s.out[j]) = max s.out[j] (s.out[n] + 1) from hmax.symm]
    by_cases hz : s.left[j] - 1 = 0
    · rw [if_pos hz] at hst
      have ih' := ih _ hst.symm
      simp (disch := omega) [hz, wrap_i64, enc1_len, enc1_wid, hw, enc1_get_set]
      refine ⟨by omega, ?_⟩
      rw [hK]
      rw [enc1_snoc (f := tI) (x := (j : Int))]
      simpa [lsH, tC, tNodes, tSl, hz] using ih'
    · rw [if_neg hz] at hst
      have ih' := ih _ hst.symm
      simp (disch := omega) [hz, wrap_i64, enc1_get_set, enc1_wid]
      rw [hK]
      simpa [lsH, tC, tNodes, tSl] using ih'
end Go.Lg
namespace Go.Lg
open Go Go.Proofs
variable {Γ : Tables}
theorem main_loop {Q : AX → St → Prop} (c : Cir) (hc : CirOk c) (hn : c.nodes.l.length ≤ 16384) (hi : ∀ x ∈ c.nodes.l, x.inn.l.length ≤ 16) (R : Nat × LS)
    (h0 : Q (.exit 2) ⟨[(1, .t (.ip (tC c) 0)), (5, .ls 23 0 c.nodes.l.length none), (6, .ls 27 0 c.nodes.l.length none), (7, .ls 53 0 R.2.rdy.length none), (10, .t (tFan (fanRows c))), (11, .t (tI R.1)), (60, .t (tB false))], lsH R.2⟩) :
    ∀ (f d : Nat) (s : LS) (M : Nat), f + d = c.nodes.l.length + 1 → LI c.nodes.l.length M s → M = d * 262144 → mainL c f d s = R →
    run Tryz.prog Γ netlists_Levels_l5 Q ⟨[(1, .t (.ip (tC c) 0)), (5, .ls 23 0 c.nodes.l.length none), (6, .ls 27 0 c.nodes.l.length none), (7, .ls 53 0 s.rdy.length none), (10, .t (tFan (fanRows c))), (11, .t (tI d))], lsH s⟩
  | 0, d, s, M, h, hI, hM, hR => by
    refine netlists_Levels_l5_run fun K hK => ?_
    have hlen := hI.len
    have h2 : ¬ d < s.rdy.length := by omega
    simp [h2, lsH]
    simp only [mainL] at hR
    subst hR
    exact h0
  | f + 1, d, s, M, h, hI, hM, hR => by
    refine netlists_Levels_l5_run fun K hK => ?_
    have hlen := hI.len
    by_cases h2 : d < s.rdy.length
    case neg =>
      simp [h2, lsH]
      simp only [mainL, h2, ↓reduceIte] at hR
      subst hR
      exact h0
    simp only [mainL, h2, ↓reduceIte] at hR
    obtain ⟨j, hj, he, hz⟩ := hI.rd _ (List.getElem_mem h2)
    have hgd : s.rdy.getD d 0 = (j : Int) := by simp [h2, he]
    rw [hgd] at hR
    simp only [Int.toNat_natCast] at hR
    have hfr := fanRows_len c
    have hrl : rowOf c j ∈ fanRows c := by
      have e : rowOf c j = (fanRows c)[j]'(by omega) := by simp [rowOf, hfr, hj]
      rw [e]; exact List.getElem_mem _
    have hin := fanRows_in c _ hrl
    have hrb := fanRows_rb c hn hi _ hrl
    have hfold := hI.fold (c := c) (n := j) hin
    have hel : (fanRows c)[j]? = some (rowOf c j) := by
      have hlt : j < (fanRows c).length := by omega
      simp [rowOf, hlt]
    have hrt : rowTC (rowOf c j) = .sl (encN tLn (rowOf c j)) (some (rowOf c j).length) (if rowOf c j = [] then some true else none) := rfl
    have hg1 : (enc1 rowTC (fanRows c))[j]?.getD [] = [rowTC (rowOf c j)] := by simp [enc1, hel]
    have hM2 : LI c.nodes.l.length ((d + 1) * 262144) ((rowOf c j).foldl (stepL c j) s) := ⟨hfold.lo, hfold.ll, hfold.rd, hfold.nd, fun i => ⟨(hfold.bo i).1, by have := (hfold.bo i).2; omega⟩, fun i => ⟨by have := (hfold.bl i).1; omega, (hfold.bl i).2⟩⟩
    have ih := main_loop c hc hn hi R h0 f (d + 1) _ _ (by omega) hM2 rfl hR
    have hrdy : (s.rdy)[d]?.getD 0 = (j : Int) := by simpa using hgd
    simp (disch := omega) [h2, lsH, enc1_len, enc1_get (0 : Int), enc1_wid, wrap_i64, he, tFan, hfr, hj, hg1, hrt, encN_len]
    by_cases hr0 : (rowOf c j).length = 0
    · have hr0' : rowOf c j = [] := List.eq_nil_of_length_eq_zero hr0
      simp [hr0', Later]
      rw [hK]
      rw [hr0'] at ih
      simp only [List.foldl_nil, tFan, hfr, lsH] at ih
      exact_mod_cast ih
    · have hr0' : ¬ rowOf c j = [] := fun e => hr0 (by simp [e])
      simp (disch := omega) [Later, hr0', lsH, enc1_len, enc1_get (0 : Int), enc1_wid, wrap_i64, he, tFan, hfr, hj, hg1, hrt, encN_len]
      refine lines_loop c hc hn j hj ((d : Int) + 1) (rowOf c j) _ (by omega) hin _ _ ?_ (rowOf c j).length 0 s M (by omega) hI (by omega) rfl
      simp [lsH]
      rw [hK]
      simp only [tFan, hfr, lsH] at ih
      exact_mod_cast ih
theorem rdyFrom_snoc (x : Nd) : ∀ (l : List Nd) (i : Nat), rdyFrom (l ++ [x]) i = if leftOf x = 0 then rdyFrom l i ++ [((i + l.length : Nat) : Int)] else rdyFrom l i
  | [], i => by simp [rdyFrom]
  | y :: l, i => by
    have := rdyFrom_snoc x l (i + 1)
    simp only [List.cons_append, rdyFrom, this, List.length_cons]
    rw [show i + 1 + l.length = i + (l.length + 1) by omega]
    split <;> split <;> rfl
theorem rdyFrom_len : ∀ (l : List Nd) (i : Nat), (rdyFrom l i).length ≤ l.length
  | [], _ => by simp [rdyFrom]
  | x :: l, i => by
    have := rdyFrom_len l (i + 1)
    simp only [rdyFrom]
    split <;> simp <;> omega
def leftAt (c : Cir) (i : Nat) : List Int := (c.nodes.l.take i).map leftOf ++ List.replicate (c.nodes.l.length - i) 0
theorem leftAt_len {c : Cir} {i : Nat} (h : i ≤ c.nodes.l.length) : (leftAt c i).length = c.nodes.l.length := by simp [leftAt]; omega
theorem leftAt_set {c : Cir} {i : Nat} (h : i < c.nodes.l.length) : (leftAt c i).set i (leftOf c.nodes.l[i]) = leftAt c (i + 1) := by
  unfold leftAt
  have e1 : ((c.nodes.l.take i).map leftOf).length = i := by simp; omega
  rw [List.set_append_right _ _ (by rw [e1]; exact Nat.le_refl i), e1, Nat.sub_self]
  rw [show c.nodes.l.length - i = (c.nodes.l.length - (i + 1)) + 1 by omega, List.replicate_succ, List.set_cons_zero]
  have e3 : (c.nodes.l.map leftOf).take (i + 1) = (c.nodes.l.map leftOf).take i ++ [leftOf c.nodes.l[i]] := by rw [List.take_add_one]; simp [h]
  simp [e3]
theorem leftAt_same {c : Cir} {i : Nat} (h : i < c.nodes.l.length) (h0 : leftOf c.nodes.l[i] = 0) : leftAt c i = leftAt c (i + 1) := by
  unfold leftAt
  rw [show c.nodes.l.length - i = (c.nodes.l.length - (i + 1)) + 1 by omega, List.replicate_succ]
  have e3 : (c.nodes.l.map leftOf).take (i + 1) = (c.nodes.l.map leftOf).take i ++ [leftOf c.nodes.l[i]] := by rw [List.take_add_one]; simp [h]
  simp [e3, h0]
theorem init_loop {Q : AX → St → Prop} (c : Cir) (hn : c.nodes.l.length ≤ 16384) (hi : ∀ x ∈ c.nodes.l, x.inn.l.length ≤ 16) (out : List Int)
    (h0 : Q (.exit 0) ⟨[(1, .t (.ip (tC c) 0)), (5, .ls 23 0 c.nodes.l.length none), (6, .ls 27 0 c.nodes.l.length none), (7, .ls 53 0 (rdyFrom c.nodes.l 0).length none), (29, .t (tNodes c.nodes)), (30, .t (tI c.nodes.l.length)), (31, .t (tI c.nodes.l.length)), (32, .t (tB false))], [(23, .sl 3 1 (ints out)), (27, .sl 3 1 (ints (c.nodes.l.map leftOf))), (53, .sl 3 1 (ints (rdyFrom c.nodes.l 0)))]⟩) :
    ∀ (kk i : Nat), kk + i = c.nodes.l.length →
    run Tryz.prog Γ netlists_Levels_l1 Q ⟨[(1, .t (.ip (tC c) 0)), (5, .ls 23 0 c.nodes.l.length none), (6, .ls 27 0 c.nodes.l.length none), (7, .ls 53 0 (rdyFrom (c.nodes.l.take i) 0).length none), (29, .t (tNodes c.nodes)), (30, .t (tI c.nodes.l.length)), (31, .t (tI i))], [(23, .sl 3 1 (ints out)), (27, .sl 3 1 (ints (leftAt c i))), (53, .sl 3 1 (ints (rdyFrom (c.nodes.l.take i) 0)))]⟩
  | 0, i, h => by
    refine netlists_Levels_l1_run fun K hK => ?_
    have h2 : ¬ i < c.nodes.l.length := by omega
    have h3 : i = c.nodes.l.length := by omega
    simp [h2]
    subst h3
    simpa [leftAt] using h0
  | kk + 1, i, h => by
    refine netlists_Levels_l1_run fun K hK => ?_
    have h2 : i < c.nodes.l.length := by omega
    have hx := hi _ (List.getElem_mem h2)
    have ht : c.nodes.l.take (i + 1) = c.nodes.l.take i ++ [c.nodes.l[i]] := by rw [List.take_add_one]; simp [h2]
    have htl : (c.nodes.l.take i).length = i := by simp; omega
    have hrl := rdyFrom_len (c.nodes.l.take i) 0
    have hll := leftAt_len (c := c) (i := i) (by omega)
    have hll1 := leftAt_len (c := c) (i := i + 1) (by omega)
    have hsn := rdyFrom_snoc c.nodes.l[i] (c.nodes.l.take i) 0
    rw [← ht, htl, Nat.zero_add] at hsn
    have e := comb_spec (Γ := Γ) c.nodes.l[i].k
    have ih := init_loop c hn hi out h0 kk (i + 1) (by omega)
    have hw : wid 1 [[tI (i : Int)]] := by intro e he; simp at he; subst he; rfl
    simp (disch := omega) [h2, encN_len, encN_get Nd.d, tNd_wid, tNodes, tNd, tSl, -netlists_Levels_r12]
    refine callK_fresh e rfl ?_
    have tail : ∀ (lf : List Int), lf = leftAt c (i + 1) → run Tryz.prog Γ (.seq (.reg netlists_Levels_r12 [.keep [1, 5, 6, 7, 8, 29, 30, 31, 49] [23, 27, 53]]) (.cond (.tmp 49) (.reg netlists_Levels_r13 [.keep [1, 5, 6, 7, 29, 30, 31] [23, 27, 53]]) .skip))
        (blockX 1 (thenX (run Tryz.prog Γ (.reg netlists_Levels_r14 [.keep [1, 5, 6, 7, 29, 30, 31] [23, 27, 53]]) (thenX (fun s => thenX K Q .normal (ghs [.keep [1, 5, 6, 7, 29, 30, 31] [23, 27, 53]] s)) (thenX K Q))) (thenX (fun s => thenX K Q .normal (ghs [.keep [1, 5, 6, 7, 29, 30, 31] [23, 27, 53]] s)) (thenX K Q))))
        ⟨[(1, .t (.ip (tC c) 0)), (5, .ls 23 0 c.nodes.l.length none), (6, .ls 27 0 c.nodes.l.length none), (7, .ls 53 0 (rdyFrom (c.nodes.l.take i) 0).length none), (8, .t (tI i)), (29, .t (tNodes c.nodes)), (30, .t (tI c.nodes.l.length)), (31, .t (tI i))], [(23, .sl 3 1 (ints out)), (27, .sl 3 1 (ints lf)), (53, .sl 3 1 (ints (rdyFrom (c.nodes.l.take i) 0)))]⟩ := by
      rintro lf rfl
      have hget : (leftAt c (i + 1))[i]?.getD 0 = leftOf c.nodes.l[i] := by
        rw [← leftAt_set h2]
        simp [hll, h2]
      have hge := hget
      rw [List.getElem?_eq_getElem (by rw [hll1]; exact h2), Option.getD_some] at hge
      by_cases hz : leftOf c.nodes.l[i] = 0
      · rw [if_pos hz] at hsn
        simp (disch := omega) [h2, enc1_len, enc1_get (0 : Int), enc1_wid, hll1, hge, hz, hw, wrap_i64]
        refine ⟨by omega, ?_⟩
        rw [hK]
        rw [hsn] at ih
        rw [enc1_snoc (f := tI) (x := (i : Int))]
        simpa using ih
      · rw [if_neg hz] at hsn
        simp (disch := omega) [h2, enc1_len, enc1_get (0 : Int), enc1_wid, hll1, hge, hz, wrap_i64]
        rw [hK]
        rw [hsn] at ih
        exact_mod_cast ih
    by_cases hcb : combB c.nodes.l[i].k = true
    · have hcb' : decide (1 ≤ c.nodes.l[i].k ∧ c.nodes.l[i].k ≤ 13) = true := by simpa [combB] using hcb
      have hlo : leftOf c.nodes.l[i] = c.nodes.l[i].inn.l.length := by simp [leftOf, hcb]
      rw [hcb']
      have := tail ((leftAt c i).set i c.nodes.l[i].inn.l.length) (by rw [← hlo]; exact leftAt_set h2)
      simp (disch := omega) [h2, enc1_len, enc1_wid, hll, enc1_set, -netlists_Levels_r12]
      exact this
    · have hcb' : decide (1 ≤ c.nodes.l[i].k ∧ c.nodes.l[i].k ≤ 13) = false := by simpa [combB] using hcb
      have hlo : leftOf c.nodes.l[i] = 0 := by simp [leftOf, hcb]
      rw [hcb', leftAt_same h2 hlo]
      rw [if_pos hlo] at hsn
      have hge : (leftAt c (i + 1))[i]'(by rw [hll1]; exact h2) = 0 := by
        have hget : (leftAt c (i + 1))[i]?.getD 0 = leftOf c.nodes.l[i] := by
          rw [← leftAt_set h2]
          simp [hll, h2]
        rw [List.getElem?_eq_getElem (by rw [hll1]; exact h2), Option.getD_some] at hget
        rw [hget, hlo]
      simp (disch := omega) [h2, enc1_len, enc1_get (0 : Int), enc1_wid, hll1, hge, hw, wrap_i64]
      refine ⟨by omega, ?_⟩
      rw [hK]
      rw [hsn] at ih
      rw [enc1_snoc (f := tI) (x := (i : Int))]
      simpa [tNodes] using ih
def levErr (c : Cir) : Int := if shapeErr c ≠ 0 then shapeErr c else if (endL c).1 < c.nodes.l.length then 6 else 0
theorem fan_le (k : Int) : (fan k).2 ≤ 16 := by
  unfold fan
  split
  · decide
  · have : ∀ n : Nat, (fanL.getD n (0, 0)).2 ≤ 16 := by
      intro n
      by_cases h : n < 16
      · have : n = 0 ∨ n = 1 ∨ n = 2 ∨ n = 3 ∨ n = 4 ∨ n = 5 ∨ n = 6 ∨ n = 7 ∨ n = 8 ∨ n = 9 ∨ n = 10 ∨ n = 11 ∨ n = 12 ∨ n = 13 ∨ n = 14 ∨ n = 15 := by omega
        rcases this with rfl | rfl | rfl | rfl | rfl | rfl | rfl | rfl | rfl | rfl | rfl | rfl | rfl | rfl | rfl | rfl <;> decide
      · rw [List.getD, List.getElem?_eq_none (by simp [fanL]; omega)]; decide
    exact this _
theorem firstErr_zero {α : Type} {f : α → Int} : ∀ {l : List α}, firstErr (l.map f) = 0 → ∀ x ∈ l, f x = 0
  | [], _, x, h => by cases h
  | y :: l, h, x, hx => by
    simp only [List.map_cons, firstErr] at h
    split at h
    · rename_i hy; exact absurd h hy
    · rename_i hy
      rcases List.mem_cons.1 hx with rfl | hx
      · simpa using hy
      · exact firstErr_zero h x hx
theorem shape_facts {c : Cir} (h : shapeErr c = 0) : c.nodes.l.length ≤ 16384 ∧ (∀ x ∈ c.nodes.l, x.inn.l.length ≤ 16) ∧ (∀ x ∈ c.nodes.l, nodeErr c x = 0) ∧ c.mems.l.length ≤ 16 := by
  unfold shapeErr at h
  split at h
  · cases h
  rename_i h1
  split at h
  · cases h
  split at h
  · rename_i h2; exact absurd h h2
  rename_i h2
  have h3 := firstErr_zero (by simpa using h2)
  refine ⟨by omega, fun x hx => ?_, h3, by omega⟩
  have h4 := h3 x hx
  have h5 := fan_le x.k
  unfold nodeErr at h4
  split at h4
  · cases h4
  split at h4
  · cases h4
  rename_i h6
  omega
theorem levels_spec (hΓ : GOk Γ) (c : Cir) (hc : CirOk c) (ha : ∀ s ∈ c.names.l, ∀ b ∈ s, b < 128) :
    FreshCalls Tryz.prog Γ 109 [.agg (tC c)] (.tup [if levErr c = 0 then .sl (ints (endL c).2.out) none none else .sl [] (some 0) (some true), tI (levErr c)]) := by
  refine run_freshQ netlists_Levels_chk rfl ?_
  have e1 := shape_spec hΓ c hc ha
  simp [netlists_Levels_ic, tC, tNodes, tNames, tMems, tSl]
  refine callK_fresh e1 rfl ?_
  by_cases h1 : shapeErr c = 0
  case neg =>
    have : levErr c = shapeErr c := by unfold levErr; rw [if_pos h1]
    simp [h1, netlists_Levels_rv, this]
  obtain ⟨hn, hi, _⟩ := shape_facts h1
  have e2 := fanout_spec (Γ := Γ) c hn hi
  have hl0 : levErr c = if (endL c).1 < c.nodes.l.length then 6 else 0 := by unfold levErr; rw [if_neg (show ¬ (shapeErr c ≠ 0) by simp [h1])]
  simp (disch := omega) [h1, encN_len, wrap_i64]
  refine ⟨by omega, ?_⟩
  have e0 : List.replicate c.nodes.l.length [T.v (Value.int .i64 0)] = ints (List.replicate c.nodes.l.length 0) := by simp [enc1]
  rw [e0]
  have hl := fun Q h0 => init_loop (Γ := Γ) (Q := Q) c hn hi (List.replicate c.nodes.l.length 0) h0 c.nodes.l.length 0 (by omega)
  have el0 : leftAt c 0 = List.replicate c.nodes.l.length 0 := by simp [leftAt]
  simp only [el0, rdyFrom, List.take_zero, List.length_nil] at hl
  refine hl _ ?_
  simp [tC, tNodes, tNames, tMems, tSl]
  refine callK_pure e2 rfl ?_
  have hI := initL_ok c hi
  have hm := fun Q h0 => main_loop (Γ := Γ) (Q := Q) c hc hn hi (endL c) h0 (c.nodes.l.length + 1) 0 (initL c) 0 (by omega) hI (by omega) rfl
  simp
  refine hm _ ?_
  have hend : (endL c).1 < c.nodes.l.length ↔ ((endL c).1 : Int) < c.nodes.l.length := by omega
  have hol : (endL c).2.out.length = c.nodes.l.length := by
    have : ∀ (f d : Nat) (s : LS), s.out.length = c.nodes.l.length → (mainL c f d s).2.out.length = c.nodes.l.length := by
      intro f
      induction f with
      | zero => intro d s h; exact h
      | succ f ih =>
        intro d s h
        simp only [mainL]
        split
        · refine ih _ _ ?_
          have : ∀ (r : Row) (n : Nat) (s : LS), s.out.length = c.nodes.l.length → (r.foldl (stepL c n) s).out.length = c.nodes.l.length := by
            intro r n
            induction r with
            | nil => intro s h; exact h
            | cons p r ih2 =>
              intro s h
              rw [List.foldl_cons]
              refine ih2 _ ?_
              unfold stepL
              split
              · simp [h]
              · exact h
          exact this _ _ _ h
        · exact h
    exact this _ _ _ hI.lo
  by_cases h2 : (endL c).1 < c.nodes.l.length
  · rw [if_pos h2] at hl0
    have h2' := hend.1 h2
    simp [lsH, tC, tNodes, encN_len, h2', netlists_Levels_rv, hl0]
  · rw [if_neg h2] at hl0
    have h2' : ¬ ((endL c).1 : Int) < c.nodes.l.length := fun h => h2 (hend.2 h)
    have ht : (ints (endL c).2.out).take c.nodes.l.length = ints (endL c).2.out := by rw [← hol]; simp
    simp [lsH, tC, tNodes, encN_len, h2, h2', netlists_Levels_rv, hl0, ht]
end Go.Lg
namespace Go.Lg
open Go Go.Proofs
variable {Γ : Tables}
structure COk (c : Cir) : Prop extends CirOk c where
  asc : ∀ s ∈ c.names.l, ∀ b ∈ s, b < 128
theorem check_spec (hΓ : GOk Γ) (c : Cir) (hc : COk c) : FreshCalls Tryz.prog Γ 129 [.agg (tC c)] (tI (levErr c)) := by
  refine run_freshQ netlists_Check_chk rfl ?_
  have e := levels_spec hΓ c hc.toCirOk hc.asc
  simp [netlists_Check_ic, tC, tNodes, tNames, tMems, tSl]
  refine callK_fresh e rfl ?_
  simp
  simp [netlists_Check_rv]
def states (c : Cir) : List Int := ofL [14] c.nodes.l 0
def mems (c : Cir) : List Int := ofL [15] c.nodes.l 0
theorem of_one (c : Cir) (hc : COk c) (k : Int) : FreshCalls Tryz.prog Γ 80 [.agg (tC c), .sl [[tK k]] (some 1) (some false)] (.sl (ints (ofL [k] c.nodes.l 0)) (some (ofL [k] c.nodes.l 0).length) none) := by
  have := of_spec (Γ := Γ) c hc.toCirOk [k] (some 1) (some false) (by simp)
  simpa [enc1] using this
theorem states_spec (c : Cir) (hc : COk c) : PureCalls Tryz.prog Γ 27 [.agg (tC c)] (.sl (ints (states c)) (some (states c).length) none) := by
  refine run_pureQ netlists_States_chk rfl ?_
  simp [netlists_States_ic, tC, tNodes, tNames, tMems, tSl]
  refine callK_fresh (of_one c hc 14) rfl ?_
  simp [netlists_States_rv, states]
def plainErr (c : Cir) : Int := if levErr c ≠ 0 then levErr c else if 0 < c.mems.l.length ∨ 0 < (mems c).length then 7 else 0
theorem plain_spec (hΓ : GOk Γ) (c : Cir) (hc : COk c) : FreshCalls Tryz.prog Γ 132 [.agg (tC c)] (tI (plainErr c)) := by
  refine run_freshQ scans_plain_chk rfl ?_
  simp [scans_plain_ic, tC, tNodes, tNames, tMems, tSl]
  refine callK_fresh (check_spec hΓ c hc) rfl ?_
  by_cases h1 : levErr c = 0
  case neg =>
    have : plainErr c = levErr c := by unfold plainErr; rw [if_pos h1]
    simp [h1, scans_plain_rv, this]
  have hp : plainErr c = if 0 < c.mems.l.length ∨ 0 < (mems c).length then 7 else 0 := by unfold plainErr; rw [if_neg (show ¬ (levErr c ≠ 0) by simp [h1])]
  by_cases h2 : 0 < c.mems.l.length
  · rw [if_pos (.inl h2)] at hp
    have h2' : (0 : Int) < c.mems.l.length := by omega
    simp [h1, encN_len, h2, h2', scans_plain_rv, hp]
  · have h2' : ¬ (0 : Int) < c.mems.l.length := by omega
    simp [h1, encN_len, h2, h2']
    refine callK_fresh (of_one c hc 15) rfl ?_
    have hml : c.mems.l = [] := List.eq_nil_of_length_eq_zero (by omega)
    by_cases h3 : 0 < (ofL [15] c.nodes.l 0).length
    · rw [if_pos (show 0 < c.mems.l.length ∨ 0 < (mems c).length from .inr h3)] at hp
      have h3' : (0 : Int) < (ofL [15] c.nodes.l 0).length := by omega
      have h4 : ¬ ofL [15] c.nodes.l 0 = [] := fun e => by rw [e] at h3; simp at h3
      simp [enc1_len]
      simp [h3, h4, Later, scans_plain_rv, hp]
    · have h3m : ¬ 0 < (mems c).length := h3
      rw [if_neg (show ¬ (0 < c.mems.l.length ∨ 0 < (mems c).length) by omega)] at hp
      have h4 : ofL [15] c.nodes.l 0 = [] := List.eq_nil_of_length_eq_zero (by omega)
      simp [enc1_len, h4]
      simp [h4, Later, scans_plain_rv, hp]
end Go.Lg
namespace Go.Lg
open Go Go.Proofs
def tChs (s : Sl (Sl Int)) : T := .sl (enc1 tSl s.l) s.cap s.nl
def Sl.d : Sl Int := ⟨[], none, none⟩
def swapL (l : List Int) (a b : Nat) : List Int := (l.set a (l.getD b 0)).set b (l.getD a 0)
theorem swapL_len {l : List Int} {a b : Nat} : (swapL l a b).length = l.length := by simp [swapL]
theorem getD_eq {l : List Int} {i : Nat} (h : i < l.length) : l.getD i 0 = l[i] := by simp [List.getD_eq_getElem?_getD, h]
theorem swapL_get {l : List Int} {a b q : Nat} (ha : a < l.length) (hb : b < l.length) (hq : q < l.length) : (swapL l a b).getD q 0 = if q = b then l.getD a 0 else if q = a then l.getD b 0 else l.getD q 0 := by
  unfold swapL
  rw [getD_set (by simp; exact hb)]
  split
  · rfl
  · rw [getD_set ha]
theorem swapL_perm {l : List Int} {a b : Nat} (ha : a < l.length) (hb : b < l.length) : (swapL l a b).Perm l := by
  unfold swapL
  rw [getD_eq ha, getD_eq hb]
  exact List.set_set_perm ha hb
theorem ofL_nodup (ks : List Int) : ∀ (l : List Nd) (i : Nat), (∀ j ∈ ofL ks l i, (i : Int) ≤ j) ∧ (ofL ks l i).Nodup
  | [], _ => ⟨fun j h => (by cases h), List.nodup_nil⟩
  | x :: l, i => by
    obtain ⟨h1, h2⟩ := ofL_nodup ks l (i + 1)
    simp only [ofL]
    split
    · refine ⟨fun j hj => ?_, List.nodup_cons.2 ⟨fun hm => ?_, h2⟩⟩
      · rcases List.mem_cons.1 hj with rfl | hj
        · omega
        · have := h1 j hj; omega
      · have := h1 _ hm; omega
    · exact ⟨fun j hj => by have := h1 j hj; omega, h2⟩
theorem ofL_kind (ks : List Int) : ∀ (l : List Nd) (i : Nat), ∀ n ∈ ofL ks l i, (i : Int) ≤ n ∧ n < i + l.length ∧ ks.contains (l.getD (n.toNat - i) Nd.d).k = true
  | [], _, n, h => by cases h
  | x :: l, i, n, h => by
    have tail : n ∈ ofL ks l (i + 1) → (i : Int) ≤ n ∧ n < i + (x :: l).length ∧ ks.contains ((x :: l).getD (n.toNat - i) Nd.d).k = true := fun h => by
      obtain ⟨h1, h2, h3⟩ := ofL_kind ks l (i + 1) n h
      refine ⟨by omega, by simp only [List.length_cons]; omega, ?_⟩
      have e : n.toNat - i = (n.toNat - (i + 1)) + 1 := by omega
      rw [e, List.getD_cons_succ]
      exact h3
    simp only [ofL] at h
    split at h
    · rename_i hk
      rcases List.mem_cons.1 h with rfl | h
      · refine ⟨by omega, by simp only [List.length_cons]; omega, ?_⟩
        have e : ((i : Int).toNat - i) = 0 := by omega
        rw [e, List.getD_cons_zero]
        exact hk
      · exact tail h
    · exact tail h
end Go.Lg
namespace Go.Lg
open Go
section
variable {P : Program} {Γ : Tables} {Q : AX → St → Prop} {s : St}
/- (probecard/probecardlaw03.C).Of (function 13) -/
abbrev law03_C_Of_g0 : IC := .gh (.seq (.seq (.reg [om 13 4, od 14 (fa 0 1), od 15 (ld 1 14), od 16 (.bin .rem (tm 15) (ku 4)), od 17 (.conv .i64 (tm 16)), od 18 (.bin .leq (tm 13) (tm 17))] [kp [1, 2, 3, 4, 18] [2, 3, 25, 144, 168]]) (.cond (tm 18) .skip
 (.exit 0))) (.seq (.block 1 (.reg [od 21 (fa 0 3), od 22 (ld 1 21), od 23 (.build [(1, (ku 0)), (1, kN), (1, (ki 0)), (1, (ki 0))]), od 24 (.bsl true 104 4 [(tm 23)]), od 25 (.app false 104 4 (tm 22) (tm 24)), od 26 (fa 0 3), on
 (.store 1 (tm 26) (tm 25))] [kp [1, 2, 3, 4] [2, 3, 25, 144, 168]])) (.reg [om 19 4, od 20 (.bin .add (tm 19) (ki 1)), om 4 20] [kp [1, 2, 3, 4] [2, 3, 25, 144, 168]]))) [kp [1, 2, 3, 4] [2, 3, 25, 144, 168]]
def law03_C_Of_l1 : IC := .loop law03_C_Of_g0
abbrev law03_C_Of_g2 : IC := .gh (.seq (.seq (.reg [om 34 7, om 35 6, od 36 (.bin .lss (tm 34) (tm 35))] [kp [1, 2, 3, 5, 6, 7, 36] [2, 3, 25, 144, 168]]) (.cond (tm 36) .skip (.exit 2))) (.seq (.block 3 (.reg [od 39 (fa 0 3), od 40 (ld 1 39), od 41 (.bsl true
 3 1 [(ki 0)]), od 42 (.build [(1, (ku 14)), (1, (tm 41)), (1, (ki 0)), (1, (ki 0))]), od 43 (.bsl true 104 4 [(tm 42)]), oz 44 (.app false 104 4 (tm 40) (tm 43)) 25, od 45 (fa 0 3), on (.store 1 (tm 45) (tm 44))] [kp [1, 2, 3, 5,
 6, 7] [2, 3, 25, 144, 168]])) (.reg [om 37 7, od 38 (.bin .add (tm 37) (ki 1)), om 7 38] [kp [1, 2, 3, 5, 6, 7] [2, 3, 25, 144, 168]]))) [kp [1, 2, 3, 5, 6, 7] [2, 3, 25, 144, 168]]
def law03_C_Of_l3 : IC := .loop law03_C_Of_g2
abbrev law03_C_Of_g4 : IC := .gh (.seq (.seq (.reg [om 55 8, od 56 (fa 10 1), od 57 (ld 1 56), od 58 (le 0 57), od 59 (.bin .lss (tm 55) (tm 58)), om 60 59, oT 61 (.mv (tm 8)) 60, oT 62 (.bin .lss (tm 61) (ki 8)) 60, od 63 (.pick (tm 60) (tm 62) kF)] [kp [1,
 2, 3, 5, 6, 8, 63] [2, 3, 25, 144, 168]]) (.cond (tm 63) .skip (.exit 4))) (.seq (.block 5 (.reg [od 66 (fa 0 3), od 67 (.ldR 3 1 false (tm 66)), od 68 (.ldT 12 true (tm 1)), od 69 (fa 10 1), od 70 (.ldT 1 false (tm 69)), om 71 8,
 od 72 (ia 4 70 71), od 73 (.ldT 4 true (tm 72)), od 74 (fa 0 3), od 75 (.ldR 3 1 false (tm 74)), od 76 (.call 49 [(tm 68), (tm 73), (tm 75)]), od 77 (.bsl true 104 4 [(tm 76)]), oz 78 (.app false 104 4 (tm 67) (tm 77)) 25, od 79
 (fa 0 3), on (.stR 3 1 (tm 79) (tm 78))] [kp [1, 2, 3, 5, 6, 8] [2, 3, 25, 144, 168]])) (.reg [om 64 8, od 65 (.bin .add (tm 64) (ki 1)), om 8 65] [kp [1, 2, 3, 5, 6, 8] [2, 3, 25, 144, 168]]))) [kp [1, 2, 3, 5, 6, 8] [2, 3, 25,
 144, 168]]
def law03_C_Of_l5 : IC := .loop law03_C_Of_g4
abbrev law03_C_Of_g6 : IC := .gh (.seq (.seq (.reg [om 83 10, om 84 6, od 85 (.bin .lss (tm 83) (tm 84))] [kp [1, 2, 3, 5, 6, 9, 10, 85] [2, 3, 25, 144, 168]]) (.cond (tm 85) .skip (.exit 6))) (.seq (.block 7 (.reg [od 88 (fa 0 3), od 89 (.ldR 3 1 false (tm
 88)), om 90 5, om 91 10, od 92 (.bin .add (tm 90) (tm 91)), om 93 10, od 94 (fa 2 1), od 95 (.iadrA 2 1 (tm 94) (tm 93)), od 96 (.ldT 1 false (tm 95)), od 97 (.conv .i64 (tm 96)), om 98 9, od 99 (.bin .rem (tm 97) (tm 98)), od 100
 (.bsl true 3 1 [(tm 99)]), od 101 (ia 4 89 92), od 102 (fa 1 101), on (.store 1 (tm 102) (tm 100))] [kp [1, 2, 3, 5, 6, 9, 10] [2, 3, 25, 144, 168]])) (.reg [om 86 10, od 87 (.bin .add (tm 86) (ki 1)), om 10 87] [kp [1, 2, 3, 5, 6,
 9, 10] [2, 3, 25, 144, 168]]))) [kp [1, 2, 3, 5, 6, 9, 10] [2, 3, 25, 144, 168]]
def law03_C_Of_l7 : IC := .loop law03_C_Of_g6
abbrev law03_C_Of_g8 : IC := .gh (.seq (.seq (.reg [om 134 11, om 135 9, od 136 (.bin .lss (tm 134) (tm 135))] [kp [1, 2, 3, 9, 11, 136] [2, 3, 25, 144, 168]]) (.cond (tm 136) .skip (.exit 8))) (.seq (.block 9 (.reg [od 139 (fa 1 3), od 140 (.ldR 3 1 false (tm
 139)), om 141 11, od 142 (.call 50 [(tm 141)]), od 143 (.bsl true 9 1 [(tm 142)]), od 144 (.app false 9 1 (tm 140) (tm 143)), od 145 (fa 1 3), on (.stR 3 1 (tm 145) (tm 144))] [kp [1, 2, 3, 9, 11] [2, 3, 25, 144, 168]])) (.reg [om
 137 11, od 138 (.bin .add (tm 137) (ki 1)), om 11 138] [kp [1, 2, 3, 9, 11] [2, 3, 25, 144, 168]]))) [kp [1, 2, 3, 9, 11] [2, 3, 25, 144, 168]]
def law03_C_Of_l9 : IC := .loop law03_C_Of_g8
abbrev law03_C_Of_g10 : IC := .gh (.seq (.seq (.reg [om 146 12, od 147 (fa 11 1), od 148 (ld 1 147), od 149 (le 0 148), od 150 (.bin .lss (tm 146) (tm 149)), om 151 150, oT 152 (.mv (tm 12)) 151, oT 153 (.bin .lss (tm 152) (ki 3)) 151, od 154 (.pick (tm 151)
 (tm 153) kF)] [kp [1, 2, 3, 9, 12, 154] [2, 3, 25, 144, 168]]) (.cond (tm 154) .skip (.exit 10))) (.seq (.block 11 (.reg [od 157 (fa 3 3), od 158 (.ldR 3 1 false (tm 157)), od 159 (fa 11 1), od 160 (.ldT 1 false (tm 159)), om 161
 12, od 162 (ia 1 160 161), od 163 (.ldT 1 false (tm 162)), od 164 (.conv .i64 (tm 163)), om 165 9, od 166 (.bin .rem (tm 164) (tm 165)), od 167 (.bsl true 3 1 [(tm 166)]), od 168 (.app false 3 1 (tm 158) (tm 167)), od 169 (fa 3 3),
 on (.stR 3 1 (tm 169) (tm 168))] [kp [1, 2, 3, 9, 12] [2, 3, 25, 144, 168]])) (.reg [om 155 12, od 156 (.bin .add (tm 155) (ki 1)), om 12 156] [kp [1, 2, 3, 9, 12] [2, 3, 25, 144, 168]]))) [kp [1, 2, 3, 9, 12] [2, 3, 25, 144, 168]]
def law03_C_Of_l11 : IC := .loop law03_C_Of_g10
abbrev law03_C_Of_ic : IC := (.seq (.reg [od 1 (.box true (tm 0)), od 2 (.alloc false [(.slice none 0 0), (.slice none 0 0), (.slice none 0 0), (.slice none 0 0)])] [kp [1, 2] [2, 25, 144, 168]]) (.seq (.reg [od 3 (.alloc false [(.slice none 0 0), (.slice none
 0 0), (.slice none 0 0), (.slice none 0 0)])] [.nlb 3 0 25 104 4, .nlb 3 1 144 9 1, .nlb 3 3 168 3 1, kp [1, 2, 3] [2, 3, 25, 144, 168]]) (.seq (.seq (.reg [od 4 (.mv (ki 0))] [kp [1, 2, 3, 4] [2, 3, 25, 144, 168]]) (.block 0
 law03_C_Of_l1)) (.seq (.reg [od 27 (fa 0 3), od 28 (ld 1 27), od 29 (le 0 28), om 5 29] [kp [1, 2, 3, 5] [2, 3, 25, 144, 168]]) (.seq (.reg [od 30 (fa 1 1), od 31 (ld 1 30), od 32 (.bin .rem (tm 31) (ku 3)), od 33 (.conv .i64 (tm
 32)), om 6 33] [kp [1, 2, 3, 5, 6] [2, 3, 25, 144, 168]]) (.seq (.seq (.reg [od 7 (.mv (ki 0))] [kp [1, 2, 3, 5, 6, 7] [2, 3, 25, 144, 168]]) (.block 2 law03_C_Of_l3)) (.seq (.seq (.reg [od 46 (fa 5 1), od 47 (ld 1 46)] [kp [1, 2,
 3, 5, 6, 47] [2, 3, 25, 144, 168]]) (.cond (tm 47) (.reg [od 48 (fa 0 3), od 49 (ld 1 48), od 50 (.build [(1, (ku 15)), (1, kN), (1, (ki 0)), (1, (ki 0))]), od 51 (.build [(1, (ku 15)), (1, kN), (1, (ki 0)), (1, (ki 1))]), od 52
 (.bsl true 104 4 [(tm 50), (tm 51)]), oz 53 (.app false 104 4 (tm 49) (tm 52)) 25, od 54 (fa 0 3), on (.store 1 (tm 54) (tm 53))] [kp [1, 2, 3, 5, 6] [2, 3, 25, 144, 168]]) .skip)) (.seq (.seq (.reg [od 8 (.mv (ki 0))] [kp [1, 2,
 3, 5, 6, 8] [2, 3, 25, 144, 168]]) (.block 4 law03_C_Of_l5)) (.seq (.reg [od 80 (fa 0 3), od 81 (ld 1 80), od 82 (le 0 81), om 9 82] [kp [1, 2, 3, 5, 6, 9] [2, 3, 25, 144, 168]]) (.seq (.seq (.reg [od 10 (.mv (ki 0))] [kp [1, 2, 3,
 5, 6, 9, 10] [2, 3, 25, 144, 168]]) (.block 6 law03_C_Of_l7)) (.seq (.seq (.reg [od 103 (fa 5 1), od 104 (ld 1 103)] [kp [1, 2, 3, 9, 104] [2, 3, 25, 144, 168]]) (.cond (tm 104) (.reg [od 105 (fa 6 1), od 106 (.iadrA 4 1 (tm 105)
 (ki 0)), od 107 (.ldT 1 false (tm 106)), od 108 (.conv .i64 (tm 107)), om 109 9, od 110 (.bin .rem (tm 108) (tm 109)), od 111 (.bsl true 3 1 [(tm 110)]), od 112 (fa 6 1), od 113 (.iadrA 4 1 (tm 112) (ki 1)), od 114 (.ldT 1 false
 (tm 113)), od 115 (.conv .i64 (tm 114)), om 116 9, od 117 (.bin .rem (tm 115) (tm 116)), od 118 (fa 6 1), od 119 (.iadrA 4 1 (tm 118) (ki 2)), od 120 (.ldT 1 false (tm 119)), od 121 (.conv .i64 (tm 120)), om 122 9, od 123 (.bin
 .rem (tm 121) (tm 122)), od 124 (.bsl true 3 1 [(tm 117), (tm 123)]), od 125 (fa 6 1), od 126 (.iadrA 4 1 (tm 125) (ki 3)), od 127 (.ldT 1 false (tm 126)), od 128 (.conv .i64 (tm 127)), om 129 9, od 130 (.bin .rem (tm 128) (tm
 129)), od 131 (.build [(1, (tm 111)), (1, (tm 124)), (1, (tm 130))]), od 132 (.bsl true 110 3 [(tm 131)]), od 133 (fa 2 3), on (.stR 3 1 (tm 133) (tm 132))] [kp [1, 2, 3, 9] [2, 3, 25, 144, 168]]) .skip)) (.seq (.seq (.reg [od 11
 (.mv (ki 0))] [kp [1, 2, 3, 9, 11] [2, 3, 25, 144, 168]]) (.block 8 law03_C_Of_l9)) (.seq (.seq (.reg [od 12 (.mv (ki 0))] [kp [1, 2, 3, 9, 12] [2, 3, 25, 144, 168]]) (.block 10 law03_C_Of_l11)) (.seq (.reg [od 170 (fa 3 3), od 171
 (ld 1 170), om 172 9, od 173 (.bin .sub (tm 172) (ki 1)), od 174 (.bsl true 3 1 [(tm 173)]), oz 175 (.app false 3 1 (tm 171) (tm 174)) 168, od 176 (fa 3 3), on (.store 1 (tm 176) (tm 175))] [kp [2, 3] [2, 3, 25, 144, 168]]) (.seq
 (.reg [od 177 (lG 4 3), on (.store 4 (tm 2) (tm 177))] [kp [2] [2, 25, 144, 168]]) .ret)))))))))))))))
theorem law03_C_Of_l1_run (h : ∀ K : St → Prop, K = run P Γ law03_C_Of_l1 Q → run P Γ law03_C_Of_g0 (thenX K Q) s) : run P Γ law03_C_Of_l1 Q s := run_loop h
theorem law03_C_Of_l3_run (h : ∀ K : St → Prop, K = run P Γ law03_C_Of_l3 Q → run P Γ law03_C_Of_g2 (thenX K Q) s) : run P Γ law03_C_Of_l3 Q s := run_loop h
theorem law03_C_Of_l5_run (h : ∀ K : St → Prop, K = run P Γ law03_C_Of_l5 Q → run P Γ law03_C_Of_g4 (thenX K Q) s) : run P Γ law03_C_Of_l5 Q s := run_loop h
theorem law03_C_Of_l7_run (h : ∀ K : St → Prop, K = run P Γ law03_C_Of_l7 Q → run P Γ law03_C_Of_g6 (thenX K Q) s) : run P Γ law03_C_Of_l7 Q s := run_loop h
theorem law03_C_Of_l9_run (h : ∀ K : St → Prop, K = run P Γ law03_C_Of_l9 Q → run P Γ law03_C_Of_g8 (thenX K Q) s) : run P Γ law03_C_Of_l9 Q s := run_loop h
theorem law03_C_Of_l11_run (h : ∀ K : St → Prop, K = run P Γ law03_C_Of_l11 Q → run P Γ law03_C_Of_g10 (thenX K Q) s) : run P Γ law03_C_Of_l11 Q s := run_loop h
def law03_C_Of_rv : List RV := [.cell 2 4 true]
/- (probecard/probecardlaw03.C).gate (function 49) -/
abbrev law03_C_gate_g0 : IC := .gh (.seq (.seq (.reg [om 37 12, om 38 7, od 39 (.bin .lss (tm 37) (tm 38))] [kp [2, 3, 4, 6, 7, 8, 9, 10, 11, 12, 39] [6, 51, 70, 79, 86, 94, 105, 126, 142, 156]]) (.cond (tm 39) .skip (.exit 0))) (.seq (.block 1 (.seq (.reg [om
 42 2, om 43 12, od 44 (ia 4 42 43), od 45 (fa 0 44), od 46 (ld 1 45), od 47 (.bin .eql (tm 46) (ku 12))] [kp [2, 3, 4, 6, 7, 8, 9, 10, 11, 12, 47] [6, 51, 70, 79, 86, 94, 105, 126, 142, 156]]) (.cond (tm 47) (.reg [om 48 11, om 49
 12, od 50 (.bsl true 3 1 [(tm 49)]), od 51 (.app false 3 1 (tm 48) (tm 50)), om 11 51] [kp [2, 3, 4, 6, 7, 8, 9, 10, 11, 12] [6, 51, 70, 79, 86, 94, 105, 126, 142, 156]]) .skip))) (.reg [om 40 12, od 41 (.bin .add (tm 40) (ki 1)),
 om 12 41] [kp [2, 3, 4, 6, 7, 8, 9, 10, 11, 12] [6, 51, 70, 79, 86, 94, 105, 126, 142, 156]]))) [kp [2, 3, 4, 6, 7, 8, 9, 10, 11, 12] [6, 51, 70, 79, 86, 94, 105, 126, 142, 156]]
def law03_C_gate_l1 : IC := .loop law03_C_gate_g0
abbrev law03_C_gate_ic : IC := (.seq (.reg [od 3 (.box true (tm 0)), od 4 (.box true (tm 1)), od 6 (.alloc false [(.int .u8 0), (.slice none 0 0), (.int .i64 0), (.int .i64 0)])] [kp [2, 3, 4, 6] [6, 70, 79, 86, 94, 105, 126, 142, 156]]) (.seq (.reg [om 17 2, od
 18 (le 0 17), om 7 18] [kp [2, 3, 4, 6, 7] [6, 70, 79, 86, 94, 105, 126, 142, 156]]) (.seq (.reg [od 19 (fa 1 4), od 20 (.iadrA 3 1 (tm 19) (ki 0)), od 21 (ld 1 20), od 22 (.conv .i64 (tm 21)), om 23 7, od 24 (.bin .rem (tm 22) (tm
 23)), od 25 (fa 1 4), od 26 (.iadrA 3 1 (tm 25) (ki 1)), od 27 (ld 1 26), od 28 (.conv .i64 (tm 27)), om 29 7, od 30 (.bin .rem (tm 28) (tm 29)), od 31 (fa 1 4), od 32 (.iadrA 3 1 (tm 31) (ki 2)), od 33 (ld 1 32), od 34 (.conv .i64
 (tm 33)), om 35 7, od 36 (.bin .rem (tm 34) (tm 35)), om 8 24, om 9 30, om 10 36] [kp [2, 3, 4, 6, 7, 8, 9, 10] [6, 70, 79, 86, 94, 105, 126, 142, 156]]) (.seq (.reg [od 11 (.mv kN)] [.nl 11 51 3 1, kp [2, 3, 4, 6, 7, 8, 9, 10, 11]
 [6, 51, 70, 79, 86, 94, 105, 126, 142, 156]]) (.seq (.seq (.reg [od 12 (.mv (ki 0))] [kp [2, 3, 4, 6, 7, 8, 9, 10, 11, 12] [6, 51, 70, 79, 86, 94, 105, 126, 142, 156]]) (.block 0 law03_C_gate_l1)) (.seq (.reg [od 52 (fa 0 4), od 53
 (ld 1 52), od 54 (.bin .rem (tm 53) (ku 9)), od 55 (.conv .i64 (tm 54)), om 13 55] [kp [3, 4, 6, 8, 9, 10, 11, 13] [6, 51, 70, 79, 86, 94, 105, 126, 142, 156]]) (.seq (.seq (.reg [od 56 (fa 4 3), od 57 (ld 1 56)] [kp [4, 6, 8, 9,
 10, 11, 13, 57] [6, 51, 70, 79, 86, 94, 105, 126, 142, 156]]) (.cond (tm 57) (.reg [od 58 (fa 0 4), od 59 (ld 1 58), od 60 (.bin .rem (tm 59) (ku 13)), od 61 (.conv .i64 (tm 60)), om 13 61] [kp [4, 6, 8, 9, 10, 11, 13] [6, 51, 70,
 79, 86, 94, 105, 126, 142, 156]]) .skip)) (.seq (.block 2 (.seq (.reg [om 63 13, od 64 (.bin .lss (tm 63) (ki 6)), om 62 64] [kp [4, 6, 8, 9, 10, 11, 13, 62] [6, 51, 70, 79, 86, 94, 105, 126, 142, 156]]) (.cond (tm 62) (.seq (.reg
 [om 65 13, od 66 (.conv .u8 (tm 65)), od 67 (.bin .add (ku 5) (tm 66)), om 68 8, om 69 9, od 70 (.bsl false 3 1 [(tm 68), (tm 69)]), od 71 (.build [(1, (tm 67)), (1, (tm 70)), (1, (ki 0)), (1, (ki 0))]), od 14 (.alloc false [(.int
 .u8 0), (.slice none 0 0), (.int .i64 0), (.int .i64 0)]), on (.store 4 (tm 14) (tm 71))] [kp [4, 6, 10, 14] [6, 14, 70, 79, 86, 94, 105, 126, 142, 156]]) (.seq (.seq (.reg [od 72 (fa 0 4), od 73 (ld 1 72), od 74 (.bin .geq (tm 73)
 (ku 128))] [kp [6, 10, 14, 74] [6, 14, 70, 79, 86, 94, 105, 126, 142, 156]]) (.cond (tm 74) (.reg [od 75 (fa 1 14), od 76 (ld 1 75), om 77 10, od 78 (.bsl true 3 1 [(tm 77)]), od 79 (.app false 3 1 (tm 76) (tm 78)), od 80 (fa 1
 14), on (.store 1 (tm 80) (tm 79))] [kp [6, 14] [6, 14, 70, 79, 86, 94, 105, 126, 142, 156]]) .skip)) (.seq (.reg [od 81 (lG 4 14), on (.store 4 (tm 6) (tm 81))] [kp [6] [6, 70, 79, 86, 94, 105, 126, 142, 156]]) .ret))) (.seq (.reg
 [om 83 13, od 84 (.bin .eql (tm 83) (ki 6)), om 82 84] [kp [4, 6, 8, 9, 10, 11, 13, 82] [6, 51, 70, 79, 86, 94, 105, 126, 142, 156]]) (.cond (tm 82) (.seq (.reg [om 85 8, od 86 (.bsl false 3 1 [(tm 85)]), od 87 (.build [(1, (ku
 4)), (1, (tm 86)), (1, (ki 0)), (1, (ki 0))]), on (.store 4 (tm 6) (tm 87))] [kp [6] [6, 70, 79, 86, 94, 105, 126, 142, 156]]) .ret) (.seq (.reg [om 89 13, od 90 (.bin .eql (tm 89) (ki 7)), om 88 90] [kp [4, 6, 8, 9, 10, 11, 13,
 88] [6, 51, 70, 79, 86, 94, 105, 126, 142, 156]]) (.cond (tm 88) (.seq (.reg [om 91 8, om 92 9, om 93 10, od 94 (.bsl false 3 1 [(tm 91), (tm 92), (tm 93)]), od 95 (.build [(1, (ku 11)), (1, (tm 94)), (1, (ki 0)), (1, (ki 0))]), on
 (.store 4 (tm 6) (tm 95))] [kp [6] [6, 70, 79, 86, 94, 105, 126, 142, 156]]) .ret) (.seq (.reg [om 97 13, od 98 (.bin .eql (tm 97) (ki 9)), om 99 98, oF 100 (.mv (tm 13)) 99, oF 101 (.bin .eql (tm 100) (ki 10)) 99, od 102 (.pick
 (tm 99) kT (tm 101)), om 96 102] [kp [4, 6, 8, 9, 11, 13, 96] [6, 51, 70, 79, 86, 94, 105, 126, 142, 156]]) (.cond (tm 96) (.seq (.reg [om 103 8, om 104 9, od 105 (.bsl false 3 1 [(tm 103), (tm 104)]), od 106 (.build [(1, (ku 12)),
 (1, (tm 105)), (1, (ki 0)), (1, (ki 0))]), on (.store 4 (tm 6) (tm 106))] [kp [6] [6, 70, 79, 86, 94, 105, 126, 142, 156]]) .ret) (.seq (.reg [om 108 13, od 109 (.bin .gtr (tm 108) (ki 10)), om 110 109, oT 111 (.mv (tm 11)) 110, oT
 112 (le 0 111) 110, oT 113 (.bin .gtr (tm 112) (ki 0)) 110, od 114 (.pick (tm 110) (tm 113) kF), om 107 114] [kp [4, 6, 8, 11, 107] [6, 51, 70, 79, 86, 94, 105, 126, 142, 156]]) (.cond (tm 107) (.seq (.reg [od 115 (fa 1 4), od 116
 (.iadrA 3 1 (tm 115) (ki 0)), od 117 (ld 1 116), od 118 (.conv .i64 (tm 117)), om 119 11, od 120 (le 0 119), od 121 (.bin .rem (tm 118) (tm 120)), om 15 121] [kp [6, 11, 15] [6, 51, 70, 79, 86, 94, 105, 126, 142, 156]]) (.seq (.reg
 [om 122 11, om 123 15, od 124 (ia 1 122 123), od 125 (ld 1 124), od 126 (.bsl false 3 1 [(tm 125)]), od 127 (.build [(1, (ku 13)), (1, (tm 126)), (1, (ki 0)), (1, (ki 0))]), od 16 (.alloc false [(.int .u8 0), (.slice none 0 0),
 (.int .i64 0), (.int .i64 0)]), on (.store 4 (tm 16) (tm 127))] [kp [6, 11, 15, 16] [6, 16, 51, 70, 79, 86, 94, 105, 126, 142, 156]]) (.seq (.seq (.reg [om 128 11, od 129 (le 0 128), od 130 (.bin .gtr (tm 129) (ki 1))] [kp [6, 11,
 15, 16, 130] [6, 16, 51, 70, 79, 86, 94, 105, 126, 142, 156]]) (.cond (tm 130) (.reg [od 131 (fa 1 16), od 132 (.ldR 16 1 false (tm 131)), om 133 11, om 134 15, od 135 (.bin .add (tm 134) (ki 1)), om 136 11, od 137 (le 0 136), od
 138 (.bin .rem (tm 135) (tm 137)), od 139 (ia 1 133 138), od 140 (.ldR 51 1 false (tm 139)), od 141 (.bsl true 3 1 [(tm 140)]), od 142 (.app false 3 1 (tm 132) (tm 141)), od 143 (fa 1 16), on (.stR 16 1 (tm 143) (tm 142))] [kp [6,
 16] [6, 16, 70, 79, 86, 94, 105, 126, 142, 156]]) .skip)) (.seq (.reg [od 144 (lG 4 16), on (.store 4 (tm 6) (tm 144))] [kp [6] [6, 70, 79, 86, 94, 105, 126, 142, 156]]) .ret)))) (.seq (.reg [od 146 (fa 0 4), od 147 (ld 1 146), od
 148 (.bin .gtr (tm 147) (ku 240)), om 145 148] [kp [4, 6, 8, 145] [6, 70, 79, 86, 94, 105, 126, 142, 156]]) (.cond (tm 145) (.seq (.reg [od 149 (fa 1 4), od 150 (.iadrA 3 1 (tm 149) (ki 0)), od 151 (ld 1 150), od 152 (.bin .rem (tm
 151) (ku 2)), od 153 (.bin .add (ku 1) (tm 152)), od 154 (.build [(1, (tm 153)), (1, kN), (1, (ki 0)), (1, (ki 0))]), on (.store 4 (tm 6) (tm 154))] [kp [6] [6, 70, 79, 86, 94, 105, 126, 142, 156]]) .ret) .skip))))))))))))) (.seq
 (.reg [om 155 8, od 156 (.bsl false 3 1 [(tm 155)]), od 157 (.build [(1, (ku 3)), (1, (tm 156)), (1, (ki 0)), (1, (ki 0))]), on (.store 4 (tm 6) (tm 157))] [kp [6] [6, 70, 79, 86, 94, 105, 126, 142, 156]]) .ret)))))))))
theorem law03_C_gate_l1_run (h : ∀ K : St → Prop, K = run P Γ law03_C_gate_l1 Q → run P Γ law03_C_gate_g0 (thenX K Q) s) : run P Γ law03_C_gate_l1 Q s := run_loop h
def law03_C_gate_rv : List RV := [.cell 6 4 true]
/- probecard/probecardlaw03.name (function 50) -/
abbrev law03_name_ic : IC := (.seq (.reg [od 2 (.mv (.const (sV [])))] [kp [0] []]) (.seq (.reg [om 3 0, od 4 (.bin .quo (tm 3) (ki 10)), od 5 (.bin .add (ki 48) (tm 4)), od 6 (.conv .u8 (tm 5)), om 7 0, od 8 (.bin .rem (tm 7) (ki 10)), od 9 (.bin .add (ki 48)
 (tm 8)), od 10 (.conv .u8 (tm 9)), od 11 (.bsl true 5 1 [(ku 110), (tm 6), (tm 10)]), od 12 (.bytesStr (tm 11)), om 2 12] [kp [2] []]) .ret))
def law03_name_rv : List RV := [.tmp 2]
end
end Go.Lg
namespace Go.Lg
open Go Go.Proofs
theorem law03_C_Of_chk : chkF Tryz.prog 13 law03_C_Of_ic 178 1 law03_C_Of_rv = true := by kernel_rfl
theorem law03_C_gate_chk : chkF Tryz.prog 49 law03_C_gate_ic 158 3 law03_C_gate_rv = true := by kernel_rfl
theorem law03_name_chk : chkF Tryz.prog 50 law03_name_ic 13 1 law03_name_rv = true := by kernel_rfl
end Go.Lg
namespace Go.Lg
open Go Go.Proofs
variable {Γ : Tables}
structure Gd where
  k : Int
  a : Int
  b : Int
  d : Int
def tGd (g : Gd) : List T := [tK g.k, tK g.a, tK g.b, tK g.d]
structure CD where
  i : Int
  f : Int
  d0 : Int
  d1 : Int
  bus : Bool
  mem : Bool
  p0 : Int
  p1 : Int
  p2 : Int
  p3 : Int
  gates : Sl Gd
  outs : Sl Int
def tCD (x : CD) : List T := [tK x.i, tK x.f, tK x.d0, tK x.d1, tB x.bus, tB x.mem, tK x.p0, tK x.p1, tK x.p2, tK x.p3, .sl (encN tGd x.gates.l) x.gates.cap x.gates.nl, .sl (enc1 tK x.outs.l) x.outs.cap x.outs.nl]
def Byt (n : Int) : Prop := 0 ≤ n ∧ n ≤ 255
def GdOk (g : Gd) : Prop := Byt g.k ∧ Byt g.a ∧ Byt g.b ∧ Byt g.d
def nameL (i : Nat) : List UInt8 := [110, UInt8.ofNat (48 + i / 10), UInt8.ofNat (48 + i % 10)]
theorem name_spec (i : Nat) (hi : i < 100) : FreshCalls Tryz.prog Γ 50 [tI i] (tS (nameL i)) := by
  refine run_freshQ law03_name_chk rfl ?_
  have h1 : (i : Int).tdiv 10 = ((i / 10 : Nat) : Int) := by rw [Int.tdiv_eq_ediv_of_nonneg (by omega)]; omega
  have h2 : (i : Int).tmod 10 = ((i % 10 : Nat) : Int) := by rw [Int.tmod_eq_emod_of_nonneg (by omega)]; omega
  have h3 : i / 10 < 10 := by omega
  have h4 : i % 10 < 10 := by omega
  generalize hq : i / 10 = q at *
  generalize hr : i % 10 = r at *
  have e1 : (48 + (q : Int)).toNat = 48 + q := by omega
  have e2 : (48 + (r : Int)).toNat = 48 + r := by omega
  simp (disch := omega) [law03_name_ic, sV, h1, h2, wrap_i64, wrap_u8, bytesOf]
  simp [law03_name_rv, nameL, hq, hr, tS, sV, e1, e2]
def triL (nodes : List Nd) : List Int := ofL [12] nodes 0
def gateT (bus : Bool) (g : Gd) (a b d : Int) (t : List Int) : Nd :=
  let kind := if bus then g.k.tmod 13 else g.k.tmod 9
  if kind < 6 then ⟨5 + kind, if 128 ≤ g.k then ⟨[a, b, d], none, none⟩ else ⟨[a, b], none, none⟩, 0, 0⟩
  else if kind = 6 then ⟨4, ⟨[a], none, none⟩, 0, 0⟩
  else if kind = 7 then ⟨11, ⟨[a, b, d], none, none⟩, 0, 0⟩
  else if kind = 9 ∨ kind = 10 then ⟨12, ⟨[a, b], none, none⟩, 0, 0⟩
  else if 10 < kind ∧ 0 < t.length then
    let k := g.a.tmod t.length
    ⟨13, if 1 < t.length then ⟨[t.getD k.toNat 0, t.getD ((k + 1).tmod t.length).toNat 0], none, none⟩ else ⟨[t.getD k.toNat 0], none, none⟩, 0, 0⟩
  else if 240 < g.k then ⟨1 + g.a.tmod 2, ⟨[], some 0, some true⟩, 0, 0⟩
  else ⟨3, ⟨[a], none, none⟩, 0, 0⟩
def gateN (bus : Bool) (g : Gd) (nodes : List Nd) : Nd := gateT bus g (g.a.tmod nodes.length) (g.b.tmod nodes.length) (g.d.tmod nodes.length) (triL nodes)
theorem gate_loop {Q : AX → St → Prop} (nodes : List Nd) (cap : Option Nat) (nl : Option Bool) (hl : nodes.length ≤ 100) (a3 a4 a8 a9 a10 : T) (r6 : List T)
    (h0 : Q (.exit 0) ⟨[(2, .t (.sl (encN tNd nodes) cap nl)), (3, .t a3), (4, .t a4), (6, .lp 6 0 0), (7, .t (tI nodes.length)), (8, .t a8), (9, .t a9), (10, .t a10), (11, .ls 51 0 (triL nodes).length none), (12, .t (tI nodes.length)), (39, .t (tB false))], [(6, .bx (r6.map AV.t)), (51, .sl 3 1 (ints (triL nodes)))]⟩) : ∀ (k i : Nat), k + i = nodes.length →
    run Tryz.prog Γ law03_C_gate_l1 Q ⟨[(2, .t (.sl (encN tNd nodes) cap nl)), (3, .t a3), (4, .t a4), (6, .lp 6 0 0), (7, .t (tI nodes.length)), (8, .t a8), (9, .t a9), (10, .t a10), (11, .ls 51 0 (triL (nodes.take i)).length none), (12, .t (tI i))], [(6, .bx (r6.map AV.t)), (51, .sl 3 1 (ints (triL (nodes.take i))))]⟩
  | 0, i, h => by
    refine law03_C_gate_l1_run fun K hK => ?_
    have h2 : ¬ i < nodes.length := by omega
    have h3 : i = nodes.length := by omega
    simp [h2]
    subst h3
    simpa using h0
  | k + 1, i, h => by
    refine law03_C_gate_l1_run fun K hK => ?_
    have h2 : i < nodes.length := by omega
    have ht : nodes.take (i + 1) = nodes.take i ++ [nodes[i]] := by rw [List.take_add_one]; simp [h2]
    have hlen := ofL_len [12] (nodes.take i) 0
    have htl : (nodes.take i).length = i := by simp; omega
    have hal : triL (nodes.take (i + 1)) = if nodes[i].k = 12 then triL (nodes.take i) ++ [(i : Int)] else triL (nodes.take i) := by
      simp only [triL]
      rw [ht, ofL_app, htl]
      simp only [ofL, Nat.zero_add, List.contains_cons, List.contains_nil, Bool.or_false, int_beq, decide_eq_true_eq]
      split <;> simp
    have ih := gate_loop nodes cap nl hl a3 a4 a8 a9 a10 r6 h0 k (i + 1) (by omega)
    rw [hal] at ih
    simp only [triL] at ih ⊢
    by_cases h5 : nodes[i].k = 12
    · rw [if_pos h5] at ih
      have hw : wid 1 [[tI (i : Int)]] := by intro e he; simp at he; subst he; rfl
      simp (disch := omega) [h2, encN_len, encN_get Nd.d, tNd_wid, tNd, tSl, h5, wrap_i64, enc1_len, enc1_wid, hw]
      rw [hK]
      simp at ih
      rw [enc1_snoc (f := tI) (x := (i : Int))]
      exact ⟨by omega, ih⟩
    · rw [if_neg h5] at ih
      simp (disch := omega) [h2, encN_len, encN_get Nd.d, tNd_wid, tNd, tSl, h5, wrap_i64]
      rw [hK]
      simpa using ih
theorem tmod_lt {a : Int} {n : Nat} (h0 : 0 ≤ a) (h1 : 0 < n) : 0 ≤ a.tmod n ∧ a.tmod n < n := by
  rw [Int.tmod_eq_emod_of_nonneg h0]
  exact ⟨Int.emod_nonneg _ (by omega), Int.emod_lt_of_pos _ (by omega)⟩
theorem flatReg_sl {ty s : Nat} {es : List (List T)} : flatReg (.sl ty s es) = ∀ e ∈ es, ∀ t ∈ e, flatT t = true := rfl
set_option maxHeartbeats 4000000 in
theorem gate_spec (x : CD) (g : Gd) (hg : GdOk g) (nodes : List Nd) (cap : Option Nat) (nl : Option Bool) (h0 : 1 ≤ nodes.length) (h1 : nodes.length ≤ 100) :
    FreshCalls Tryz.prog Γ 49 [.agg (tCD x), .agg (tGd g), .sl (encN tNd nodes) cap nl] (.agg (tNd (gateN x.bus g nodes))) := by
  refine run_freshQ law03_C_gate_chk rfl ?_
  obtain ⟨⟨hk0, hk1⟩, ⟨ha0, ha1⟩, ⟨hb0, hb1⟩, ⟨hd0, hd1⟩⟩ := hg
  have hn0 : ¬ (nodes.length : Int) = 0 := by omega
  have hn1 : (nodes.length : Int) ≠ 0 := by omega
  have hne : ¬ nodes = [] := fun e => by subst e; simp at h0
  have hlp := fun Q a3 a4 a8 a9 a10 r6 h0 => gate_loop (Γ := Γ) (Q := Q) nodes cap nl h1 a3 a4 a8 a9 a10 r6 h0 nodes.length 0 (by omega)
  have ht := ofL_len [12] nodes 0
  simp only [triL, List.take_zero, ofL, List.length_nil, enc1_nil] at hlp
  simp (disch := omega) [law03_C_gate_ic, tCD, tGd, encN_len, wrap_i64, hn0]
  refine ⟨hne, hlp _ _ _ _ _ _ [_, _, _, _] ?_⟩
  clear hlp
  unfold gateN
  simp only [triL]
  generalize ofL [12] nodes 0 = t at *
  have m13 : 0 ≤ g.k.tmod 13 ∧ g.k.tmod 13 < 13 := tmod_lt (n := 13) hk0 (by omega)
  have m9 : 0 ≤ g.k.tmod 9 ∧ g.k.tmod 9 < 9 := tmod_lt (n := 9) hk0 (by omega)
  have ma : 0 ≤ g.a.tmod 2 ∧ g.a.tmod 2 < 2 := tmod_lt (n := 2) ha0 (by omega)
  generalize g.a.tmod nodes.length = a
  generalize g.b.tmod nodes.length = b
  generalize g.d.tmod nodes.length = d
  unfold gateT
  cases x.bus
  · generalize hkk : g.k.tmod 9 = kk at *
    by_cases k1 : kk < 6
    · by_cases k2 : 128 ≤ g.k
      · simp (disch := omega) [hkk, k1, k2, wrap_i64, wrap_u8, Later, law03_C_gate_rv, tNd, tSl, enc1, wid, reify, flatReg_sl]
      · simp (disch := omega) [hkk, k1, k2, wrap_i64, wrap_u8, Later, law03_C_gate_rv, tNd, tSl, enc1, wid, reify, flatReg_sl]
    by_cases k3 : kk = 6
    · simp (disch := omega) [hkk, k1, k3, wrap_i64, wrap_u8, Later, law03_C_gate_rv, tNd, tSl, enc1, wid, reify, flatReg_sl]
    by_cases k4 : kk = 7
    · simp (disch := omega) [hkk, k1, k4, wrap_i64, wrap_u8, Later, law03_C_gate_rv, tNd, tSl, enc1, wid, reify, flatReg_sl]
    have k5 : kk = 8 := by omega
    by_cases k6 : 240 < g.k
    · simp (disch := omega) [hkk, k5, k6, wrap_i64, wrap_u8, Later, law03_C_gate_rv, tNd, tSl, enc1, wid, reify, flatReg_sl]
    · simp (disch := omega) [hkk, k5, k6, wrap_i64, wrap_u8, Later, law03_C_gate_rv, tNd, tSl, enc1, wid, reify, flatReg_sl]
  · generalize hkk : g.k.tmod 13 = kk at *
    by_cases k1 : kk < 6
    · by_cases k2 : 128 ≤ g.k
      · simp (disch := omega) [hkk, k1, k2, wrap_i64, wrap_u8, Later, law03_C_gate_rv, tNd, tSl, enc1, wid, reify, flatReg_sl]
      · simp (disch := omega) [hkk, k1, k2, wrap_i64, wrap_u8, Later, law03_C_gate_rv, tNd, tSl, enc1, wid, reify, flatReg_sl]
    by_cases k3 : kk = 6
    · simp (disch := omega) [hkk, k1, k3, wrap_i64, wrap_u8, Later, law03_C_gate_rv, tNd, tSl, enc1, wid, reify, flatReg_sl]
    by_cases k4 : kk = 7
    · simp (disch := omega) [hkk, k1, k4, wrap_i64, wrap_u8, Later, law03_C_gate_rv, tNd, tSl, enc1, wid, reify, flatReg_sl]
    by_cases k8 : kk = 9
    · simp (disch := omega) [hkk, k8, wrap_i64, wrap_u8, Later, law03_C_gate_rv, tNd, tSl, enc1, wid, reify, flatReg_sl]
    by_cases k9 : kk = 10
    · simp (disch := omega) [hkk, k9, wrap_i64, wrap_u8, Later, law03_C_gate_rv, tNd, tSl, enc1, wid, reify, flatReg_sl]
    by_cases k10 : 10 < kk ∧ 0 < t.length
    · obtain ⟨k11, k10⟩ := k10
      have htn : ¬ (t.length : Int) = 0 := by omega
      have htne : ¬ t = [] := fun e => by subst e; simp at k10
      have htp : (0 : Int) < t.length := by omega
      have mt := tmod_lt (n := t.length) ha0 k10
      generalize hq : g.a.tmod t.length = q at *
      have mt2 := tmod_lt (a := q + 1) (n := t.length) (by omega) k10
      have hq0 : q.toNat < t.length := by omega
      generalize hq2 : (q + 1).tmod t.length = q2 at *
      have hq20 : q2.toNat < t.length := by omega
      have e1 := enc1_get (f := tI) 0 hq0
      have e2 := enc1_get (f := tI) 0 hq20
      by_cases k12 : 1 < t.length
      · have k12' : (1 : Int) < t.length := by omega
        simp (disch := omega) [hkk, k1, k3, k4, k8, k9, k11, k10, htp, htn, k12, k12', hq, hq2, e1, e2, hq0, hq20, mt.1, mt.2, mt2.1, mt2.2, htne, enc1_len, enc1_wid, wrap_i64, wrap_u8, Later, tNd, tSl, reify, flatReg_sl, law03_C_gate_rv]
        simp [wid, enc1]
      · have k12' : ¬ (1 : Int) < t.length := by omega
        simp (disch := omega) [hkk, k1, k3, k4, k8, k9, k11, k10, htp, htn, k12, k12', hq, hq2, e1, e2, hq0, hq20, mt.1, mt.2, mt2.1, mt2.2, htne, enc1_len, enc1_wid, wrap_i64, wrap_u8, Later, tNd, tSl, reify, flatReg_sl, law03_C_gate_rv]
        simp [wid, enc1]
    · by_cases k11 : 10 < kk
      · have k10' : t = [] := List.eq_nil_of_length_eq_zero (by omega)
        subst k10'
        by_cases k6 : 240 < g.k
        · simp (disch := omega) [hkk, k1, k3, k4, k8, k9, k11, k6, wrap_i64, wrap_u8, Later, law03_C_gate_rv, tNd, tSl, enc1, wid, reify, flatReg_sl]
        · simp (disch := omega) [hkk, k1, k3, k4, k8, k9, k11, k6, wrap_i64, wrap_u8, Later, law03_C_gate_rv, tNd, tSl, enc1, wid, reify, flatReg_sl]
      · have k5 : kk = 8 := by omega
        by_cases k6 : 240 < g.k
        · simp (disch := omega) [hkk, k5, k6, wrap_i64, wrap_u8, Later, law03_C_gate_rv, tNd, tSl, enc1, wid, reify, flatReg_sl]
        · simp (disch := omega) [hkk, k5, k6, wrap_i64, wrap_u8, Later, law03_C_gate_rv, tNd, tSl, enc1, wid, reify, flatReg_sl]
end Go.Lg
namespace Go.Lg
open Go Go.Proofs
variable {Γ : Tables}
def tNil : T := .sl [] (some 0) (some true)
def hpO (nodes : List Nd) (names : List (List UInt8)) (m : T) (outs : List Int) : List (Nat × Reg) :=
  [(2, .bx [.t tNil, .t tNil, .t tNil, .t tNil]), (3, .bx [.ls 25 0 nodes.length none, .ls 144 0 names.length none, .t m, .ls 168 0 outs.length none]), (25, .sl 104 4 (encN tNd nodes)), (144, .sl 9 1 (enc1 tS names)), (168, .sl 3 1 (ints outs))]
def inpN : Nd := ⟨0, ⟨[], some 0, some true⟩, 0, 0⟩
def dffN (l : Int) : Nd := ⟨14, ⟨[l], some 1, some false⟩, 0, 0⟩
def memN (b : Int) : Nd := ⟨15, ⟨[], some 0, some true⟩, 0, b⟩
theorem of_inputs {Q : AX → St → Prop} (x : CD) (hx : Byt x.i) (R : List Nd)
    (h0 : Q (.exit 0) ⟨[(1, .t (.ip (tCD x) 0)), (2, .lp 2 0 0), (3, .lp 3 0 0), (4, .t (tI (x.i.tmod 4 + 1))), (18, .t (tB false))], hpO R [] tNil []⟩) : ∀ (k : Nat) (i : Int) (ns : List Nd), k + i = x.i.tmod 4 + 1 → ns ++ List.replicate k inpN = R → ns.length + k ≤ 100 →
    run Tryz.prog Γ law03_C_Of_l1 Q ⟨[(1, .t (.ip (tCD x) 0)), (2, .lp 2 0 0), (3, .lp 3 0 0), (4, .t (tI i))], hpO ns [] tNil []⟩
  | 0, i, ns, h, hR, hl => by
    refine law03_C_Of_l1_run fun K hK => ?_
    have m4 : 0 ≤ x.i.tmod 4 ∧ x.i.tmod 4 < 4 := tmod_lt (n := 4) hx.1 (by omega)
    have h2 : ¬ i ≤ x.i.tmod 4 := by omega
    have h3 : i = x.i.tmod 4 + 1 := by omega
    simp only [List.replicate_zero, List.append_nil] at hR
    subst hR
    simp (disch := omega) [h2, tCD, hpO, wrap_i64, wrap_u8]
    subst h3
    simpa [tCD, hpO] using h0
  | k + 1, i, ns, h, hR, hl => by
    refine law03_C_Of_l1_run fun K hK => ?_
    have m4 : 0 ≤ x.i.tmod 4 ∧ x.i.tmod 4 < 4 := tmod_lt (n := 4) hx.1 (by omega)
    have h2 : i ≤ x.i.tmod 4 := by omega
    have ih := of_inputs x hx R h0 k (i + 1) (ns ++ [inpN]) (by omega) (by rw [← hR]; simp [List.replicate_succ]) (by simp; omega)
    have q : encN tNd ns ++ [[tK 0, .sl [] (some 0) (some true), tI 0, tI 0]] = encN tNd (ns ++ [inpN]) := encN_snoc (f := tNd) (x := inpN)
    have hw4 : wid 4 [[tK 0, .sl [] (some 0) (some true), tI 0, tI 0]] := by intro e he; simp at he; subst he; rfl
    have ht : (encN tNd ns).take ns.length = encN tNd ns := List.take_of_length_le (by simp [encN])
    simp (disch := omega) [h2, tCD, hpO, wrap_i64, wrap_u8, encN_len, hw4, tNd_wid, ht, q]
    rw [hK]
    simp [tCD, hpO] at ih
    exact ⟨by omega, ih⟩
theorem of_dffs {Q : AX → St → Prop} (x : CD) (hx : Byt x.f) (first : Int) (R : List Nd)
    (h0 : Q (.exit 2) ⟨[(1, .t (.ip (tCD x) 0)), (2, .lp 2 0 0), (3, .lp 3 0 0), (5, .t (tI first)), (6, .t (tI (x.f.tmod 3))), (7, .t (tI (x.f.tmod 3))), (36, .t (tB false))], hpO R [] tNil []⟩) : ∀ (k : Nat) (i : Int) (ns : List Nd), k + i = x.f.tmod 3 → ns ++ List.replicate k (dffN 0) = R → ns.length + k ≤ 100 →
    run Tryz.prog Γ law03_C_Of_l3 Q ⟨[(1, .t (.ip (tCD x) 0)), (2, .lp 2 0 0), (3, .lp 3 0 0), (5, .t (tI first)), (6, .t (tI (x.f.tmod 3))), (7, .t (tI i))], hpO ns [] tNil []⟩
  | 0, i, ns, h, hR, hl => by
    refine law03_C_Of_l3_run fun K hK => ?_
    have m3 : 0 ≤ x.f.tmod 3 ∧ x.f.tmod 3 < 3 := tmod_lt (n := 3) hx.1 (by omega)
    have h2 : ¬ i < x.f.tmod 3 := by omega
    have h3 : i = x.f.tmod 3 := by omega
    simp only [List.replicate_zero, List.append_nil] at hR
    subst hR
    simp (disch := omega) [h2, tCD, hpO, wrap_i64, wrap_u8]
    subst h3
    simpa [tCD, hpO] using h0
  | k + 1, i, ns, h, hR, hl => by
    refine law03_C_Of_l3_run fun K hK => ?_
    have m3 : 0 ≤ x.f.tmod 3 ∧ x.f.tmod 3 < 3 := tmod_lt (n := 3) hx.1 (by omega)
    have h2 : i < x.f.tmod 3 := by omega
    have ih := of_dffs x hx first R h0 k (i + 1) (ns ++ [dffN 0]) (by omega) (by rw [← hR]; simp [List.replicate_succ]) (by simp; omega)
    have q : encN tNd ns ++ [[tK 14, .sl [[tI 0]] (some 1) (some false), tI 0, tI 0]] = encN tNd (ns ++ [dffN 0]) := encN_snoc (f := tNd) (x := dffN 0)
    have hw4 : wid 4 [[tK 14, .sl [[tI 0]] (some 1) (some false), tI 0, tI 0]] := by intro e he; simp at he; subst he; rfl
    have ht : (encN tNd ns).take ns.length = encN tNd ns := List.take_of_length_le (by simp [encN])
    simp (disch := omega) [h2, tCD, hpO, wrap_i64, wrap_u8, encN_len, hw4, tNd_wid, ht, q]
    rw [hK]
    simp [tCD, hpO] at ih
    exact ⟨by omega, ih⟩
def gatesN (bus : Bool) : List Gd → List Nd → List Nd
  | [], ns => ns
  | g :: l, ns => gatesN bus l (ns ++ [gateN bus g ns])
theorem tGd_wid {l : List Gd} : wid 4 (encN tGd l) := encN_wid fun _ => rfl
def Gd.z : Gd := ⟨0, 0, 0, 0⟩
theorem of_gates {Q : AX → St → Prop} (x : CD) (hx : ∀ g ∈ x.gates.l, GdOk g) (first dffs : Int) (R : List Nd)
    (h0 : Q (.exit 4) ⟨[(1, .t (.ip (tCD x) 0)), (2, .lp 2 0 0), (3, .lp 3 0 0), (5, .t (tI first)), (6, .t (tI dffs)), (8, .t (tI (min x.gates.l.length 8 : Nat))), (63, .t (tB false))], hpO R [] tNil []⟩) : ∀ (k i : Nat) (ns : List Nd), k + i = min x.gates.l.length 8 → gatesN x.bus ((x.gates.l.take 8).drop i) ns = R → 1 ≤ ns.length → ns.length + k ≤ 100 →
    run Tryz.prog Γ law03_C_Of_l5 Q ⟨[(1, .t (.ip (tCD x) 0)), (2, .lp 2 0 0), (3, .lp 3 0 0), (5, .t (tI first)), (6, .t (tI dffs)), (8, .t (tI i))], hpO ns [] tNil []⟩
  | 0, i, ns, h, hR, hl1, hl => by
    refine law03_C_Of_l5_run fun K hK => ?_
    rw [List.drop_of_length_le (by simp; omega)] at hR
    simp only [gatesN] at hR
    subst hR
    have hi : i = min x.gates.l.length 8 := by omega
    by_cases h2 : i < x.gates.l.length
    · have h3 : ¬ (i : Int) < 8 := by omega
      have h3' : ¬ i < 8 := by omega
      simp (disch := omega) [h2, h3, h3', tCD, hpO, encN_len]
      subst hi
      simpa [tCD, hpO] using h0
    · simp (disch := omega) [h2, tCD, hpO, encN_len]
      subst hi
      simpa [tCD, hpO] using h0
  | k + 1, i, ns, h, hR, hl1, hl => by
    refine law03_C_Of_l5_run fun K hK => ?_
    have h2 : i < x.gates.l.length := by omega
    have h3 : i < 8 := by omega
    have h3' : (i : Int) < 8 := by omega
    rw [List.drop_eq_getElem_cons (by simp; omega)] at hR
    simp only [gatesN, List.getElem_take] at hR
    have ih := of_gates x hx first dffs R h0 k (i + 1) (ns ++ [gateN x.bus x.gates.l[i] ns]) (by omega) hR (by simp) (by simp; omega)
    have hg := gate_spec (Γ := Γ) x x.gates.l[i] (hx _ (List.getElem_mem h2)) ns none none hl1 (by omega)
    generalize gateN x.bus x.gates.l[i] ns = gn at *
    have q : encN tNd ns ++ [tNd gn] = encN tNd (ns ++ [gn]) := encN_snoc (f := tNd) (x := gn)
    have hw4 : wid 4 [tNd gn] := by intro e he; simp at he; subst he; rfl
    have ht : (encN tNd ns).take ns.length = encN tNd ns := List.take_of_length_le (by simp [encN])
    have hget := encN_get (f := tGd) Gd.z h2
    simp (disch := omega) [h2, h3, h3', tCD, hpO, wrap_i64, encN_len, hget, tGd_wid, tGd]
    refine callK_fresh hg (by simp [reify, tCD, ht, tGd]) ?_
    simp [tNd] at q hw4
    simp (disch := omega) [tNd, wrap_i64, encN_len, hw4, tNd_wid, ht, q]
    rw [hK]
    simp [tCD, hpO] at ih
    exact ⟨rfl, by omega, ih⟩
def ddN (x : CD) (i : Nat) : Int := if i = 0 then x.d0 else x.d1
def setIn (ns : List Nd) (j : Nat) (v : Int) : List Nd := ns.set j ⟨(ns.getD j Nd.d).k, ⟨[v], some 1, some false⟩, (ns.getD j Nd.d).mem, (ns.getD j Nd.d).bit⟩
def dataN (x : CD) (first : Nat) : Nat → Nat → List Nd → List Nd
  | 0, _, ns => ns
  | k + 1, i, ns => dataN x first k (i + 1) (setIn ns (first + i) ((ddN x i).tmod ns.length))
theorem setIn_len {ns : List Nd} {j : Nat} {v : Int} : (setIn ns j v).length = ns.length := by simp [setIn]
theorem dataN_len {x : CD} {f : Nat} : ∀ {k i : Nat} {ns : List Nd}, (dataN x f k i ns).length = ns.length
  | 0, _, _ => rfl
  | k + 1, i, ns => by simp only [dataN]; rw [dataN_len, setIn_len]
theorem set_in {ns : List Nd} {j : Nat} {v : Int} (hj : j < ns.length) : (encN tNd ns).set j (((encN tNd ns)[j]?.getD []).take 1 ++ T.sl [[tI v]] (some 1) (some false) :: ((encN tNd ns)[j]?.getD []).drop 2) = encN tNd (setIn ns j v) := by
  rw [encN_get (f := tNd) Nd.d hj]
  unfold setIn encN
  rw [List.map_set]
  rfl
theorem of_data {Q : AX → St → Prop} (x : CD) (h0' : Byt x.d0) (h1' : Byt x.d1) (first dn n : Nat) (hdn : dn ≤ 2) (hn : 1 ≤ n ∧ n ≤ 100) (hf : first + dn ≤ n) (R : List Nd)
    (h0 : Q (.exit 6) ⟨[(1, .t (.ip (tCD x) 0)), (2, .lp 2 0 0), (3, .lp 3 0 0), (5, .t (tI first)), (6, .t (tI dn)), (9, .t (tI n)), (10, .t (tI dn)), (85, .t (tB false))], hpO R [] tNil []⟩) : ∀ (k i : Nat) (ns : List Nd), k + i = dn → dataN x first k i ns = R → ns.length = n →
    run Tryz.prog Γ law03_C_Of_l7 Q ⟨[(1, .t (.ip (tCD x) 0)), (2, .lp 2 0 0), (3, .lp 3 0 0), (5, .t (tI first)), (6, .t (tI dn)), (9, .t (tI n)), (10, .t (tI i))], hpO ns [] tNil []⟩
  | 0, i, ns, h, hR, hl => by
    refine law03_C_Of_l7_run fun K hK => ?_
    simp only [dataN] at hR
    subst hR
    have h2 : ¬ i < dn := by omega
    have h3 : i = dn := by omega
    simp (disch := omega) [h2, tCD, hpO]
    subst h3
    simpa [tCD, hpO] using h0
  | k + 1, i, ns, h, hR, hl => by
    refine law03_C_Of_l7_run fun K hK => ?_
    have h2 : i < dn := by omega
    simp only [dataN] at hR
    have ih := of_data x h0' h1' first dn n hdn hn hf R h0 k (i + 1) _ (by omega) hR (by rw [setIn_len]; exact hl)
    have hi : i = 0 ∨ i = 1 := by omega
    have hj : first + i < ns.length := by omega
    have hn0 : ¬ (n : Int) = 0 := by omega
    have hget := encN_get (f := tNd) Nd.d hj
    obtain ⟨h01, h02⟩ := h0'
    obtain ⟨h11, h12⟩ := h1'
    have hs := fun v => set_in (v := v) hj
    have hn' : ¬ n = 0 := by omega
    have hfi : first + i < n := by omega
    rcases hi with rfl | rfl
    · have hdd : ddN x 0 = x.d0 := rfl
      have h2' : (0 : Int) < dn := by omega
      rw [hdd, hl] at ih
      simp only [Nat.add_zero] at hs hfi ih
      simp (disch := omega) [h2, h2', tCD, hpO, wrap_i64, encN_len, tNd_wid, hn0, hl, hs, hn', hfi]
      rw [hK]
      simp [tCD, hpO, setIn_len, hl] at ih
      exact ih
    · have hdd : ddN x 1 = x.d1 := rfl
      have h2' : (1 : Int) < dn := by omega
      rw [hdd, hl] at ih
      have hfn : ((first : Int) + 1).toNat = first + 1 := by omega
      have hfi' : (first : Int) + 1 < n := by omega
      simp (disch := omega) [h2, h2', tCD, hpO, wrap_i64, encN_len, tNd_wid, hn0, hl, hs, hn', hfi, hfn, hfi']
      rw [hK]
      simp [tCD, hpO, setIn_len, hl] at ih
      exact ⟨by omega, ih⟩
theorem of_names {Q : AX → St → Prop} (x : CD) (n : Nat) (hn : n ≤ 100) (ns : List Nd) (m : T) (R : List (List UInt8))
    (h0 : Q (.exit 8) ⟨[(1, .t (.ip (tCD x) 0)), (2, .lp 2 0 0), (3, .lp 3 0 0), (9, .t (tI n)), (11, .t (tI n)), (136, .t (tB false))], hpO ns R m []⟩) : ∀ (k i : Nat) (nms : List (List UInt8)), k + i = n → nms ++ (List.range' i k).map nameL = R → nms.length = i →
    run Tryz.prog Γ law03_C_Of_l9 Q ⟨[(1, .t (.ip (tCD x) 0)), (2, .lp 2 0 0), (3, .lp 3 0 0), (9, .t (tI n)), (11, .t (tI i))], hpO ns nms m []⟩
  | 0, i, nms, h, hR, hl => by
    refine law03_C_Of_l9_run fun K hK => ?_
    simp only [List.range'_zero, List.map_nil, List.append_nil] at hR
    subst hR
    have h2 : ¬ i < n := by omega
    have h3 : i = n := by omega
    simp (disch := omega) [h2, tCD, hpO]
    subst h3
    simpa [tCD, hpO] using h0
  | k + 1, i, nms, h, hR, hl => by
    refine law03_C_Of_l9_run fun K hK => ?_
    have h2 : i < n := by omega
    rw [List.range'_succ, List.map_cons] at hR
    have ih := of_names x n hn ns m R h0 k (i + 1) (nms ++ [nameL i]) (by omega) (by rw [← hR]; simp) (by simp; omega)
    have e := name_spec (Γ := Γ) i (by omega)
    have q : enc1 tS nms ++ [[tS (nameL i)]] = enc1 tS (nms ++ [nameL i]) := enc1_snoc
    have ht : (enc1 tS nms).take i = enc1 tS nms := List.take_of_length_le (by simp [enc1]; omega)
    generalize nameL i = nm at *
    have hw : wid 1 [[tS nm]] := by intro e he; simp at he; subst he; rfl
    simp (disch := omega) [h2, tCD, hpO, wrap_i64, hl]
    refine callK_fresh e rfl ?_
    simp only [tS, sV] at q hw
    simp (disch := omega) [tS, sV, wrap_i64, enc1_len, hw, enc1_wid, ht, q, hl]
    rw [hK]
    simp [tCD, hpO, hl] at ih
    exact ⟨by omega, ih⟩
theorem of_outs {Q : AX → St → Prop} (x : CD) (hx : ∀ b ∈ x.outs.l, Byt b) (n : Nat) (hn : 1 ≤ n ∧ n ≤ 100) (ns : List Nd) (nms : List (List UInt8)) (m : T) (R : List Int)
    (h0 : Q (.exit 10) ⟨[(1, .t (.ip (tCD x) 0)), (2, .lp 2 0 0), (3, .lp 3 0 0), (9, .t (tI n)), (12, .t (tI (min x.outs.l.length 3 : Nat))), (154, .t (tB false))], hpO ns nms m R⟩) : ∀ (k i : Nat) (os : List Int), k + i = min x.outs.l.length 3 → os ++ ((x.outs.l.take 3).drop i).map (fun b => b.tmod n) = R → os.length = i →
    run Tryz.prog Γ law03_C_Of_l11 Q ⟨[(1, .t (.ip (tCD x) 0)), (2, .lp 2 0 0), (3, .lp 3 0 0), (9, .t (tI n)), (12, .t (tI i))], hpO ns nms m os⟩
  | 0, i, os, h, hR, hl => by
    refine law03_C_Of_l11_run fun K hK => ?_
    rw [List.drop_of_length_le (by simp; omega)] at hR
    simp only [List.map_nil, List.append_nil] at hR
    subst hR
    have hi : i = min x.outs.l.length 3 := by omega
    by_cases h2 : i < x.outs.l.length
    · have h3 : ¬ (i : Int) < 3 := by omega
      have h3' : ¬ i < 3 := by omega
      simp (disch := omega) [h2, h3, h3', tCD, hpO, enc1_len]
      subst hi
      simpa [tCD, hpO] using h0
    · simp (disch := omega) [h2, tCD, hpO, enc1_len]
      subst hi
      simpa [tCD, hpO] using h0
  | k + 1, i, os, h, hR, hl => by
    refine law03_C_Of_l11_run fun K hK => ?_
    have h2 : i < x.outs.l.length := by omega
    have h3 : i < 3 := by omega
    have h3' : (i : Int) < 3 := by omega
    rw [List.drop_eq_getElem_cons (by simp; omega)] at hR
    simp only [List.map_cons, List.getElem_take] at hR
    have hb := hx _ (List.getElem_mem h2)
    obtain ⟨hb0, hb1⟩ := hb
    have hget := enc1_get (f := tK) 0 h2
    have hg2 : x.outs.l[i]?.getD 0 = x.outs.l[i] := by simp [h2]
    rw [hg2] at hget
    generalize x.outs.l[i] = b at *
    have hn0 : ¬ (n : Int) = 0 := by omega
    have hn0' : ¬ n = 0 := by omega
    have ih := of_outs x hx n hn ns nms m R h0 k (i + 1) (os ++ [b.tmod n]) (by omega) (by rw [← hR]; simp) (by simp; omega)
    have q : enc1 tI os ++ [[tI (b.tmod n)]] = enc1 tI (os ++ [b.tmod n]) := enc1_snoc
    have ht : (enc1 tI os).take i = enc1 tI os := List.take_of_length_le (by simp [enc1]; omega)
    have hw : wid 1 [[tI (b.tmod n)]] := by intro e he; simp at he; subst he; rfl
    simp (disch := omega) [h2, h3, h3', tCD, hpO, wrap_i64, enc1_len, enc1_wid, hget, hn0, hn0', hw, ht, q, hl]
    rw [hK]
    simp [tCD, hpO, hl] at ih
    exact ⟨by omega, ih⟩
def nodes1 (x : CD) : List Nd := List.replicate (x.i.tmod 4 + 1).toNat inpN
def nodes2 (x : CD) : List Nd := nodes1 x ++ List.replicate (x.f.tmod 3).toNat (dffN 0)
def nodes3 (x : CD) : List Nd := if x.mem then nodes2 x ++ [memN 0, memN 1] else nodes2 x
def nodes4 (x : CD) : List Nd := gatesN x.bus (x.gates.l.take 8) (nodes3 x)
def nodes5 (x : CD) : List Nd := dataN x (nodes1 x).length (x.f.tmod 3).toNat 0 (nodes4 x)
def memM (x : CD) (n : Int) : List Mm := if x.mem then [⟨⟨[x.p0.tmod n], some 1, some false⟩, ⟨[x.p1.tmod n, x.p2.tmod n], some 2, some false⟩, x.p3.tmod n⟩] else []
def ofC (x : CD) : Cir :=
  ⟨⟨nodes5 x, none, none⟩, ⟨(List.range' 0 (nodes4 x).length).map nameL, none, none⟩, ⟨memM x (nodes4 x).length, some (if x.mem then 1 else 0), some (!x.mem)⟩, ⟨(x.outs.l.take 3).map (fun b => b.tmod (nodes4 x).length) ++ [((nodes4 x).length : Int) - 1], none, none⟩⟩
structure CDOk (x : CD) : Prop where
  i : Byt x.i
  f : Byt x.f
  d0 : Byt x.d0
  d1 : Byt x.d1
  p0 : Byt x.p0
  p1 : Byt x.p1
  p2 : Byt x.p2
  p3 : Byt x.p3
  gates : ∀ g ∈ x.gates.l, GdOk g
  outs : ∀ b ∈ x.outs.l, Byt b
theorem gatesN_len {bus : Bool} : ∀ {l : List Gd} {ns : List Nd}, (gatesN bus l ns).length = ns.length + l.length
  | [], ns => rfl
  | g :: l, ns => by simp only [gatesN]; rw [gatesN_len]; simp; omega
set_option maxHeartbeats 4000000 in
theorem Of_spec (x : CD) (hx : CDOk x) : PureCalls Tryz.prog Γ 13 [.agg (tCD x)] (.agg (tC (ofC x))) := by
  refine run_pureQ law03_C_Of_chk rfl ?_
  have m4 : 0 ≤ x.i.tmod 4 ∧ x.i.tmod 4 < 4 := tmod_lt (n := 4) hx.i.1 (by omega)
  have m3 : 0 ≤ x.f.tmod 3 ∧ x.f.tmod 3 < 3 := tmod_lt (n := 3) hx.f.1 (by omega)
  have l1 : (nodes1 x).length = (x.i.tmod 4 + 1).toNat := by simp [nodes1]
  have l2 : (nodes2 x).length = (x.i.tmod 4 + 1).toNat + (x.f.tmod 3).toNat := by simp [nodes2, nodes1]
  have l3 : (nodes2 x).length ≤ (nodes3 x).length ∧ (nodes3 x).length ≤ 8 := by unfold nodes3; split <;> simp <;> omega
  have l4 : (nodes4 x).length = (nodes3 x).length + min 8 x.gates.l.length := by unfold nodes4; rw [gatesN_len]; simp
  have l5 : (nodes5 x).length = (nodes4 x).length := dataN_len
  have e1 := fun Q h0 => of_inputs (Γ := Γ) (Q := Q) x hx.i (nodes1 x) h0 (x.i.tmod 4 + 1).toNat 0 [] (by omega) rfl (by simp; omega)
  have e2 := fun Q h0 => of_dffs (Γ := Γ) (Q := Q) x hx.f (nodes1 x).length (nodes2 x) h0 (x.f.tmod 3).toNat 0 (nodes1 x) (by omega) rfl (by omega)
  have e3 := fun Q h0 => of_gates (Γ := Γ) (Q := Q) x hx.gates (nodes1 x).length (x.f.tmod 3) (nodes4 x) h0 (min x.gates.l.length 8) 0 (nodes3 x) (by omega) rfl (by omega) (by omega)
  have e4 := fun Q h0 => of_data (Γ := Γ) (Q := Q) x hx.d0 hx.d1 (nodes1 x).length (x.f.tmod 3).toNat (nodes4 x).length (by omega) (by omega) (by omega) (nodes5 x) h0 (x.f.tmod 3).toNat 0 (nodes4 x) (by omega) rfl rfl
  have e5 := fun Q m h0 => of_names (Γ := Γ) (Q := Q) x (nodes4 x).length (by omega) (nodes5 x) m _ h0 (nodes4 x).length 0 [] (by omega) rfl rfl
  have e6 := fun Q nms m h0 => of_outs (Γ := Γ) (Q := Q) x hx.outs (nodes4 x).length (by omega) (nodes5 x) nms m _ h0 (min x.outs.l.length 3) 0 [] (by omega) rfl rfl
  have hc : ((x.f.tmod 3).toNat : Int) = x.f.tmod 3 := by omega
  rw [hc] at e4
  have hk1 := fun {s : Nat} {e : List (List T)} {n : Nat} (h : e.length ≤ n) => List.take_of_length_le h
  have a33 : ∀ {os : List Int}, enc1 tI os ++ [[tI (((nodes4 x).length : Int) - 1)]] = enc1 tI (os ++ [((nodes4 x).length : Int) - 1]) := enc1_snoc
  have hw1 : wid 1 [[tI (((nodes4 x).length : Int) - 1)]] := by intro e he; simp at he; subst he; rfl
  have hol : ((x.outs.l.take 3).map (fun b => b.tmod ((nodes4 x).length : Int))).length = min 3 x.outs.l.length := by simp
  have hnl : ((List.range' 0 (nodes4 x).length).map nameL).length = (nodes4 x).length := by simp
  simp only [List.nil_append, List.drop_zero] at e5 e6
  generalize hN : nodes4 x = N4 at *
  generalize hO : (x.outs.l.take 3).map (fun b => b.tmod (N4.length : Int)) = O at *
  generalize hNm : (List.range' 0 N4.length).map nameL = Nm at *
  simp (config := { maxSteps := 2000000 }) [law03_C_Of_ic, tCD]
  refine e1 _ ?_
  simp (config := { maxSteps := 2000000 }) (disch := omega) [tCD, hpO, wrap_i64, wrap_u8, encN_len]
  refine e2 _ ?_
  cases hm : x.mem
  · have h3 : nodes3 x = nodes2 x := by simp [nodes3, hm]
    rw [h3] at e3 l3 l4
    simp only [tCD, hpO, hm] at e3 e4 e5 e6
    simp (config := { maxSteps := 2000000 }) (disch := omega) [tCD, hpO, wrap_i64, wrap_u8, encN_len, enc1_len, encN_app, tNd_wid, enc1_wid, hm]
    refine e3 _ ?_
    simp (config := { maxSteps := 2000000 }) (disch := omega) [tCD, hpO, wrap_i64, wrap_u8, encN_len, enc1_len, encN_app, tNd_wid, enc1_wid, hm]
    refine e4 _ ?_
    simp (config := { maxSteps := 2000000 }) (disch := omega) [tCD, hpO, wrap_i64, wrap_u8, encN_len, enc1_len, encN_app, tNd_wid, enc1_wid, hm]
    refine e5 _ _ ?_
    simp (config := { maxSteps := 2000000 }) (disch := omega) [tCD, hpO, wrap_i64, wrap_u8, encN_len, enc1_len, encN_app, tNd_wid, enc1_wid, hm]
    refine e6 _ _ _ ?_
    have ht : (enc1 tI O).take O.length = enc1 tI O := List.take_of_length_le (by simp [enc1])
    simp (config := { maxSteps := 2000000 }) (disch := omega) [tCD, hpO, wrap_i64, wrap_u8, encN_len, enc1_len, encN_app, tNd_wid, enc1_wid, hm, ht, hw1, a33, law03_C_Of_rv, reify, tNil]
    have ht2 : (enc1 tI (O ++ [(N4.length : Int) - 1])).take (O.length + 1) = enc1 tI (O ++ [(N4.length : Int) - 1]) := List.take_of_length_le (by simp [enc1])
    refine ⟨by omega, ?_⟩
    rw [ht2]
    simp [tC, ofC, memM, hm, tNodes, tNames, tMems, tSl, hN, hO, hNm, encN]
  · have h3 : nodes3 x = nodes2 x ++ [memN 0, memN 1] := by simp [nodes3, hm]
    have l3' : (nodes3 x).length = (nodes2 x).length + 2 := by rw [h3]; simp
    have q : encN tNd (nodes2 x) ++ [[tK 15, .sl [] (some 0) (some true), tI 0, tI 0], [tK 15, .sl [] (some 0) (some true), tI 0, tI 1]] = encN tNd (nodes3 x) := by rw [h3]; simp [encN, memN, tNd, tSl, enc1]
    have hw4 : wid 4 [[tK 15, .sl [] (some 0) (some true), tI 0, tI 0], [tK 15, .sl [] (some 0) (some true), tI 0, tI 1]] := by intro e he; simp at he; rcases he with rfl | rfl <;> rfl
    have ht0 : (encN tNd (nodes2 x)).take (nodes2 x).length = encN tNd (nodes2 x) := List.take_of_length_le (by simp [encN])
    have ht : (enc1 tI O).take O.length = enc1 tI O := List.take_of_length_le (by simp [enc1])
    have hn0 : ¬ (N4.length : Int) = 0 := by omega
    have hn0' : ¬ N4 = [] := fun e => by rw [e] at l4; simp at l4; omega
    obtain ⟨b00, b01⟩ := hx.p0
    obtain ⟨b10, b11⟩ := hx.p1
    obtain ⟨b20, b21⟩ := hx.p2
    obtain ⟨b30, b31⟩ := hx.p3
    simp only [tCD, hpO, hm] at e3 e4 e5 e6
    simp (config := { maxSteps := 2000000 }) (disch := omega) [tCD, hpO, wrap_i64, wrap_u8, encN_len, enc1_len, tNd_wid, enc1_wid, hm, ht, ht0, hw1, hw4, q, hn0, hn0', a33, law03_C_Of_rv, reify, tNil]
    refine ⟨by omega, ?_⟩
    rw [← l3']
    refine e3 _ ?_
    simp (config := { maxSteps := 2000000 }) (disch := omega) [tCD, hpO, wrap_i64, wrap_u8, encN_len, enc1_len, tNd_wid, enc1_wid, hm, ht, ht0, hw1, hw4, q, hn0, hn0', a33, law03_C_Of_rv, reify, tNil]
    refine e4 _ ?_
    simp (config := { maxSteps := 2000000 }) (disch := omega) [tCD, hpO, wrap_i64, wrap_u8, encN_len, enc1_len, tNd_wid, enc1_wid, hm, ht, ht0, hw1, hw4, q, hn0, hn0', a33, law03_C_Of_rv, reify, tNil]
    refine e5 _ _ ?_
    simp (config := { maxSteps := 2000000 }) (disch := omega) [tCD, hpO, wrap_i64, wrap_u8, encN_len, enc1_len, tNd_wid, enc1_wid, hm, ht, ht0, hw1, hw4, q, hn0, hn0', a33, law03_C_Of_rv, reify, tNil]
    refine e6 _ _ _ ?_
    simp (config := { maxSteps := 2000000 }) (disch := omega) [tCD, hpO, wrap_i64, wrap_u8, encN_len, enc1_len, tNd_wid, enc1_wid, hm, ht, ht0, hw1, hw4, q, hn0, hn0', a33, law03_C_Of_rv, reify, tNil]
    have ht2 : (enc1 tI (O ++ [(N4.length : Int) - 1])).take (O.length + 1) = enc1 tI (O ++ [(N4.length : Int) - 1]) := List.take_of_length_le (by simp [enc1])
    refine ⟨by omega, ?_⟩
    rw [ht2]
    simp [tC, ofC, memM, hm, tNodes, tNames, tMems, tSl, hN, hO, hNm, encN, tMm, enc1]
end Go.Lg
namespace Go.Lg
open Go Go.Proofs
variable {Γ : Tables}
def NdOk (x : Nd) : Prop := (0 ≤ x.k ∧ x.k ≤ 255) ∧ x.inn.l.length ≤ 1000000000
theorem gateT_ok {bus : Bool} {g : Gd} {a b d : Int} {t : List Int} (hg : GdOk g) : NdOk (gateT bus g a b d t) := by
  have m13 : 0 ≤ g.k.tmod 13 ∧ g.k.tmod 13 < 13 := tmod_lt (n := 13) hg.1.1 (by omega)
  have m9 : 0 ≤ g.k.tmod 9 ∧ g.k.tmod 9 < 9 := tmod_lt (n := 9) hg.1.1 (by omega)
  have ma : 0 ≤ g.a.tmod 2 ∧ g.a.tmod 2 < 2 := tmod_lt (n := 2) hg.2.1.1 (by omega)
  have hk : 0 ≤ (if bus then g.k.tmod 13 else g.k.tmod 9) ∧ (if bus then g.k.tmod 13 else g.k.tmod 9) < 13 := by cases bus <;> simp <;> omega
  unfold gateT
  simp only
  generalize (if bus = true then g.k.tmod 13 else g.k.tmod 9) = kk at *
  unfold NdOk
  split
  · refine ⟨⟨by simp; omega, by simp; omega⟩, ?_⟩
    simp only; split <;> simp
  split
  · simp
  split
  · simp
  split
  · simp
  split
  · simp only; split <;> simp
  split
  · simp; omega
  · simp
theorem gatesN_ok {bus : Bool} : ∀ {l : List Gd} {ns : List Nd}, (∀ g ∈ l, GdOk g) → (∀ x ∈ ns, NdOk x) → ∀ x ∈ gatesN bus l ns, NdOk x
  | [], ns, _, h => h
  | g :: l, ns, hg, h => by
    simp only [gatesN]
    refine gatesN_ok (fun y hy => hg y (List.mem_cons_of_mem _ hy)) fun y hy => ?_
    rcases List.mem_append.1 hy with hy | hy
    · exact h y hy
    · simp at hy; subst hy; exact gateT_ok (hg g List.mem_cons_self)
theorem setIn_ok {ns : List Nd} {j : Nat} {v : Int} (h : ∀ x ∈ ns, NdOk x) : ∀ x ∈ setIn ns j v, NdOk x := by
  intro x hx
  unfold setIn at hx
  rcases List.mem_or_eq_of_mem_set hx with hx | rfl
  · exact h x hx
  · refine ⟨?_, by simp⟩
    simp only [List.getD_eq_getElem?_getD]
    by_cases hj : j < ns.length
    · simp only [List.getElem?_eq_getElem hj, Option.getD_some]
      exact (h _ (List.getElem_mem hj)).1
    · simp [List.getElem?_eq_none (Nat.le_of_not_lt hj), Nd.d]
theorem dataN_ok {c : CD} {f : Nat} : ∀ {k i : Nat} {ns : List Nd}, (∀ x ∈ ns, NdOk x) → ∀ x ∈ dataN c f k i ns, NdOk x
  | 0, _, _, h => h
  | k + 1, i, ns, h => by simp only [dataN]; exact dataN_ok (setIn_ok h)
theorem nodes5_ok {x : CD} (hx : CDOk x) : ∀ n ∈ nodes5 x, NdOk n := by
  have h1 : ∀ n ∈ nodes1 x, NdOk n := fun n hn => by rw [(List.mem_replicate.1 hn).2]; simp [NdOk, inpN]
  have h2 : ∀ n ∈ nodes2 x, NdOk n := fun n hn => by
    rcases List.mem_append.1 hn with hn | hn
    · exact h1 n hn
    · rw [(List.mem_replicate.1 hn).2]; simp [NdOk, dffN]
  have h3 : ∀ n ∈ nodes3 x, NdOk n := by
    unfold nodes3
    split
    · intro n hn
      rcases List.mem_append.1 hn with hn | hn
      · exact h2 n hn
      · simp at hn; rcases hn with rfl | rfl <;> simp [NdOk, memN]
    · exact h2
  exact dataN_ok (gatesN_ok (fun g hg => hx.gates g (List.mem_of_mem_take hg)) h3)
theorem nodes4_len {x : CD} (hx : CDOk x) : 1 ≤ (nodes4 x).length ∧ (nodes4 x).length ≤ 16 := by
  have m4 : 0 ≤ x.i.tmod 4 ∧ x.i.tmod 4 < 4 := tmod_lt (n := 4) hx.i.1 (by omega)
  have m3 : 0 ≤ x.f.tmod 3 ∧ x.f.tmod 3 < 3 := tmod_lt (n := 3) hx.f.1 (by omega)
  have l2 : (nodes2 x).length = (x.i.tmod 4 + 1).toNat + (x.f.tmod 3).toNat := by simp [nodes2, nodes1]
  have l3 : (nodes2 x).length ≤ (nodes3 x).length ∧ (nodes3 x).length ≤ 8 := by unfold nodes3; split <;> simp <;> omega
  have l4 : (nodes4 x).length = (nodes3 x).length + min 8 x.gates.l.length := by unfold nodes4; rw [gatesN_len]; simp
  omega
theorem nodes5_len {x : CD} (hx : CDOk x) : (nodes5 x).length = (nodes4 x).length := dataN_len
theorem ofC_ok {x : CD} (hx : CDOk x) : COk (ofC x) := by
  have l := nodes4_len hx
  have l5 := nodes5_len hx
  have hn := nodes5_ok hx
  refine ⟨⟨?_, ?_, ?_, ?_, fun n h => (hn n h).1, fun n h => (hn n h).2, ?_⟩, ?_⟩
  · simp only [ofC]; omega
  · simp [ofC]; omega
  · simp only [ofC, memM]; split <;> simp
  · simp [ofC]; omega
  · intro m hm
    simp only [ofC, memM] at hm
    split at hm
    · simp at hm; subst hm; simp
    · cases hm
  · intro s hs b hb
    simp only [ofC] at hs
    obtain ⟨i, hi, rfl⟩ := List.mem_map.1 hs
    have := (List.mem_range'_1.1 hi).2
    have h1 : i / 10 < 10 := by omega
    have h2 : i % 10 < 10 := by omega
    have key : ∀ q : Nat, q < 10 → UInt8.ofNat (48 + q) < 128 := by decide
    simp only [nameL, List.mem_cons, List.not_mem_nil, or_false] at hb
    rcases hb with rfl | rfl | rfl
    · decide
    · exact key _ h1
    · exact key _ h2
end Go.Lg
namespace Go.Lg
open Go Go.Proofs Go.Proofs.YtgnomdkcimglbaaGreatDoor
def G0 (g : Nat) : Option (List T) := if g = 0 then some fanC else none
theorem G0_ok : GOk G0 := rfl
theorem gFan : Tryz.prog.globalNamed "probecard/logic.fanins" = some 0 := by kernel_rfl
theorem gFanTy : (Tryz.prog.globals[0]?).map (·.type) = some 209 := by kernel_rfl
theorem cells3 : Tryz.prog.cellsOf 3 = 1 := by kernel_rfl
theorem cells4 : Tryz.prog.cellsOf 4 = 1 := by kernel_rfl
theorem cells5 : Tryz.prog.cellsOf 5 = 1 := by kernel_rfl
theorem cells22 : Tryz.prog.cellsOf 22 = 2 := by kernel_rfl
theorem cells23 : Tryz.prog.cellsOf 23 = 4 := by kernel_rfl
theorem cells24 : Tryz.prog.cellsOf 24 = 1 := by kernel_rfl
theorem cells25 : Tryz.prog.cellsOf 25 = 1 := by kernel_rfl
theorem cells27 : Tryz.prog.cellsOf 27 = 12 := by kernel_rfl
theorem cells33 : Tryz.prog.cellsOf 33 = 1 := by kernel_rfl
theorem cells106 : Tryz.prog.cellsOf 106 = 3 := by kernel_rfl
theorem cells108 : Tryz.prog.cellsOf 108 = 4 := by kernel_rfl
theorem cells208 : Tryz.prog.cellsOf 208 = 2 := by kernel_rfl
theorem cells209 : Tryz.prog.cellsOf 209 = 32 := by kernel_rfl
theorem fan_cells {W : World} (h : laidMet Tryz.prog [("probecard/logic.fanins", Rows.laid_probecard_logic_fanins)] W) : ∀ j, j < 32 → W.cell? ⟨0, j, none⟩ = (fanL.flatMap fun x => [Value.int .i64 x.1, Value.int .i64 x.2])[j]? := by
  obtain ⟨ps, ⟨g', t', cs, fuel, p, q, hg', ht', hvar, hd, _, _⟩, _⟩ := h
  obtain rfl := Option.some.inj (gFan.symm.trans hg')
  obtain rfl := Option.some.inj (gFanTy.symm.trans ht')
  have hc := pair_cells (l := fanL) Tryz.underlying209 Tryz.underlying208 Tryz.underlying3 cells3 cells208 cells209 hd
  intro j hj
  have := World.var?_cell gFan hvar j
  rw [this, ← hc]
  simp
theorem fan_gl {W : World} (h : laidMet Tryz.prog [("probecard/logic.fanins", Rows.laid_probecard_logic_fanins)] W) : Gl G0 W (Old W) := by
  have hc := fan_cells h
  intro g cs hg
  unfold G0 at hg
  split at hg
  case isFalse => cases hg
  rename_i h0; subst h0
  simp only [Option.some.injEq] at hg
  subst hg
  have hlen : (fanL.flatMap fun x => [Value.int .i64 x.1, Value.int .i64 x.2]).length = 32 := rfl
  have hfc : fanC = (fanL.flatMap fun x => [Value.int .i64 x.1, Value.int .i64 x.2]).map T.v := rfl
  have hfl : fanC.length = 32 := rfl
  refine .ip fanC 0 0 0 (fun j => (fanL.flatMap fun x => [Value.int .i64 x.1, Value.int .i64 x.2])[j]?.getD .nilFunc) ?_ ?_ ?_ ?_
  · intro j hj
    rw [Nat.zero_add, hc j (by omega)]
    rw [List.getElem?_eq_getElem (by omega)]; rfl
  · intro j t ht
    rw [hfc, List.getElem?_map, Option.map_eq_some_iff] at ht
    obtain ⟨v, hv, rfl⟩ := ht
    simp only [hv, Option.getD_some]
    exact .v v
  · intro j t ht
    rw [hfc, List.getElem?_map, Option.map_eq_some_iff] at ht
    obtain ⟨v, hv, rfl⟩ := ht
    have hm := List.mem_of_getElem? hv
    obtain ⟨x, _, hx⟩ := List.mem_flatMap.1 hm
    simp at hx
    rcases hx with rfl | rfl <;> rfl
  · have := hc 0 (by omega)
    rw [List.getElem?_eq_getElem (by omega)] at this
    exact cell_lt this
theorem u8_byt {n : Int} (h : (Lit.int .u8 n).wf = true) : Byt n := by
  simp [Lit.wf, IntKind.min, IntKind.max, IntKind.signed, IntKind.bits] at h
  exact ⟨h.1, by omega⟩
theorem rdU8 : Rd Tryz.prog 5 fun ts => ∃ n, ts = [tK n] ∧ Byt n := (rd_int Tryz.underlying5).mono fun ts ⟨n, h, hw⟩ => ⟨n, h, u8_byt hw⟩
theorem rdInt : Rd Tryz.prog 3 fun ts => ∃ n, ts = [tI n] := (rd_int Tryz.underlying3).mono fun ts ⟨n, h, _⟩ => ⟨n, h⟩
theorem list_of {α : Type} {f : α → List T} {Q : α → Prop} : ∀ {es : List (List T)}, (∀ x ∈ es, ∃ a, x = f a ∧ Q a) → ∃ l : List α, es = l.map f ∧ ∀ a ∈ l, Q a
  | [], _ => ⟨[], rfl, by simp⟩
  | e :: es, h => by
    obtain ⟨a, ha, hq⟩ := h e List.mem_cons_self
    obtain ⟨l, hl, hql⟩ := list_of fun x hx => h x (List.mem_cons_of_mem _ hx)
    exact ⟨a :: l, by rw [ha, hl]; rfl, fun b hb => by rcases List.mem_cons.1 hb with rfl | hb; exact hq; exact hql b hb⟩
theorem rdGd : Rd Tryz.prog 108 fun ts => ∃ g, ts = tGd g ∧ GdOk g := by
  refine (rd_struct (l := [(1, fun ts => ∃ n, ts = [tK n] ∧ Byt n), (3, Parts (List.replicate 3 (1, fun ts => ∃ n, ts = [tK n] ∧ Byt n)))]) Tryz.underlying108 cells108 (.cons rfl cells5 rdU8 (.cons rfl cells106 (rd_array Tryz.underlying106 cells5 cells106 rdU8) (.nil _)))).mono fun ts h => ?_
  obtain ⟨_, _, rfl, ⟨k, rfl, hk⟩, _, _, rfl, ⟨_, _, rfl, ⟨a, rfl, ha⟩, _, _, rfl, ⟨b, rfl, hb⟩, _, _, rfl, ⟨d, rfl, hd⟩, rfl⟩, rfl⟩ := h
  exact ⟨⟨k, a, b, d⟩, rfl, hk, ha, hb, hd⟩
theorem rdCD : Rd Tryz.prog 27 fun ts => ∃ x, ts = tCD x ∧ CDOk x := by
  refine (rd_struct (l := [(1, fun ts => ∃ n, ts = [tK n] ∧ Byt n), (1, fun ts => ∃ n, ts = [tK n] ∧ Byt n), (2, Parts (List.replicate 2 (1, fun ts => ∃ n, ts = [tK n] ∧ Byt n))), (1, fun ts => ∃ b, ts = [tB b]), (1, fun ts => ∃ b, ts = [tB b]), (4, Parts (List.replicate 4 (1, fun ts => ∃ n, ts = [tK n] ∧ Byt n))), (1, _), (1, _)]) Tryz.underlying27 cells27
    (.cons rfl cells5 rdU8 (.cons rfl cells5 rdU8 (.cons rfl cells22 (rd_array Tryz.underlying22 cells5 cells22 rdU8) (.cons rfl cells4 (rd_bool Tryz.underlying4) (.cons rfl cells4 (rd_bool Tryz.underlying4) (.cons rfl cells23 (rd_array Tryz.underlying23 cells5 cells23 rdU8)
      (.cons rfl cells24 (rd_slice Tryz.underlying24 cells108 (by decide) rdGd) (.cons rfl cells25 (rd_slice Tryz.underlying25 cells5 (by decide) rdU8) (.nil _)))))))))).mono fun ts h => ?_
  obtain ⟨_, _, rfl, ⟨i, rfl, hi⟩, _, _, rfl, ⟨f, rfl, hf⟩, _, _, rfl, ⟨_, _, rfl, ⟨d0, rfl, hd0⟩, _, _, rfl, ⟨d1, rfl, hd1⟩, rfl⟩, _, _, rfl, ⟨bus, rfl⟩, _, _, rfl, ⟨mem, rfl⟩, _, _, rfl,
    ⟨_, _, rfl, ⟨p0, rfl, h0⟩, _, _, rfl, ⟨p1, rfl, h1⟩, _, _, rfl, ⟨p2, rfl, h2⟩, _, _, rfl, ⟨p3, rfl, h3⟩, rfl⟩, _, _, rfl, ⟨es, cap, nl, rfl, _, hes⟩, _, _, rfl, ⟨os, cap2, nl2, rfl, _, hos⟩, rfl⟩ := h
  obtain ⟨gs, rfl, hgs⟩ := list_of (f := tGd) (Q := GdOk) fun x hx => (hes x hx).1
  obtain ⟨ol, rfl, hol⟩ := list_of (f := fun n => [tK n]) (Q := Byt) fun x hx => (hos x hx).1
  exact ⟨⟨i, f, d0, d1, bus, mem, p0, p1, p2, p3, ⟨gs, cap, nl⟩, ⟨ol, cap2, nl2⟩⟩, rfl, ⟨hi, hf, hd0, hd1, h0, h1, h2, h3, hgs, hol⟩⟩
theorem rdInts : Rd Tryz.prog 33 fun ts => ∃ s : Sl Int, ts = [tSl s] := by
  refine (rd_slice Tryz.underlying33 cells3 (by decide) rdInt).mono fun ts ⟨es, cap, nl, h, _, hes⟩ => ?_
  obtain ⟨l, rfl, _⟩ := list_of (f := fun n : Int => [tI n]) (Q := fun _ => True) fun x hx => by
    obtain ⟨n, hn⟩ := (hes x hx).1
    exact ⟨n, hn, trivial⟩
  exact ⟨⟨l, cap, nl⟩, h⟩
theorem rdChs : Rd Tryz.prog 56 fun ts => ∃ s : Sl (Sl Int), ts = [tChs s] := by
  refine (rd_slice Tryz.underlying56 cells33 (by decide) rdInts).mono fun ts ⟨es, cap, nl, h, _, hes⟩ => ?_
  obtain ⟨l, rfl, _⟩ := list_of (f := fun s : Sl Int => [tSl s]) (Q := fun _ => True) fun x hx => by
    obtain ⟨n, hn⟩ := (hes x hx).1
    exact ⟨n, hn, trivial⟩
  exact ⟨⟨l, cap, nl⟩, h⟩
end Go.Lg
namespace Go.Proofs.YtgnomdkcimglbaaGreatDoor
open Go Go.Lg Go.ChangeShapes Go.WideShapes Go.ChangeAt Go.RowKit
theorem own : ownKnob Tryz.prog.godebug = none := by kernel_rfl
theorem laidOut : laidOutB Tryz.prog = true := by kernel_rfl
theorem open_cd {H : Type} {enc : TypeId × Value → H} {W : World} {base : Nat} {v : Value} {d : DataW H} {p : List MemPlace} (hval : Value.okWide Tryz.prog W .any base 27 v) (h : DataW.Trod enc Tryz.prog W 0 (fun _ => true) true 27 v d p) : ∃ x, CDOk x ∧ TR W (Old W) (.agg (tCD x)) v := by
  simp only [Value.okWide, Tryz.underlying27] at hval
  obtain ⟨cs, rfl, _, _⟩ := hval
  obtain ⟨fuel, hf⟩ := h
  obtain ⟨ts, ⟨x, rfl, hx⟩, htr, ho⟩ := rdCD H enc W true fuel _ _ hf
  exact ⟨x, hx, tr_agg htr ho⟩
theorem open_chs {H : Type} {enc : TypeId × Value → H} {W : World} {base : Nat} {v : Value} {d : DataW H} {p : List MemPlace} (hval : Value.okWide Tryz.prog W .any base 56 v) (h : DataW.Trod enc Tryz.prog W 0 (fun _ => true) true 56 v d p) : ∃ s : Sl (Sl Int), TR W (Old W) (tChs s) v := by
  obtain ⟨a, len, cap, rfl⟩ := okWide_slice Tryz.underlying56 hval
  obtain ⟨fuel, hf⟩ := h
  obtain ⟨ts, ⟨s, rfl⟩, htr, _⟩ := rdChs H enc W true fuel _ _ hf
  obtain ⟨y, ys, he, hy, _⟩ := htr.cons_inv
  simp [Value.cells] at he
  exact ⟨s, by rw [he.1]; exact hy⟩
noncomputable def laidWorld (os : Os) : World :=
  { World.holding Tryz.prog os ⟨#[], #[], []⟩ with heap := (World.holding Tryz.prog os ⟨#[], #[], []⟩).heap.modify 0 fun
      | .cells _ t frozen => .cells (fanL.flatMap fun x => [Value.int .i64 x.1, Value.int .i64 x.2]).toArray t frozen
      | o => o }
def c0 : Value := .agg #[.int .u8 0, .int .u8 0, .int .u8 0, .int .u8 0, .bool false, .bool false, .int .u8 0, .int .u8 0, .int .u8 0, .int .u8 0, .slice none 0 0, .slice none 0 0]
def d0 {H : Type} : DataW H := .agg [.lit (.int .u8 0), .lit (.int .u8 0), .agg [.lit (.int .u8 0), .lit (.int .u8 0)], .lit (.bool false), .lit (.bool false), .agg [.lit (.int .u8 0), .lit (.int .u8 0), .lit (.int .u8 0), .lit (.int .u8 0)], .nil, .nil]
end Go.Proofs.YtgnomdkcimglbaaGreatDoor
namespace Go.Lg
open Go Go.Proofs
def readV (v : Int) : Int := if v < 2 then v else 2
def cleanV (v : Int) : Int := if 3 < v then 2 else v
def knownV (v : Int) : Bool := decide (v ≤ 1)
def notV (v : Int) : Int := if v ≤ 1 then 1 - v else 2
def decL (low high : Int) : Int → List Int → Int
  | out, [] => out
  | out, v :: l => if v = low then low else if v ≠ high then decL low high 2 l else decL low high out l
def xor1 (a b : Int) : Int := if a = b then 0 else 1
def xorL : Int → List Int → Int
  | out, [] => out
  | out, v :: l => if v ≤ 1 then xorL (xor1 out v) l else 2
def muxV (s a b : Int) : Int := if s = 0 then readV a else if s = 1 then readV b else if a = b then readV a else 2
def triV (e d : Int) : Int := if e = 0 then 3 else if e = 1 then readV d else 2
def conflL (l : List Int) : Bool := l.contains 0 && l.contains 1
def unkV (v : Int) : Bool := decide (cleanV v = 2)
def drvV (v : Int) : Bool := decide (v ≠ 3)
def busL (l : List Int) : Int := match l.findIdx? drvV with
  | none => 3
  | some i => if conflL l = true ∨ l.any unkV = true then 2 else l.getD i 0
def evalK (k : Int) (l : List Int) : Int :=
  if k = 1 then 0 else if k = 2 then 1 else if k = 3 then readV (l.getD 0 0) else if k = 4 then notV (l.getD 0 0) else
  if k = 5 then decL 0 1 1 l else if k = 6 then notV (decL 0 1 1 l) else if k = 7 then decL 1 0 0 l else if k = 8 then notV (decL 1 0 0 l) else
  if k = 9 then xorL 0 l else if k = 10 then notV (xorL 0 l) else if k = 11 then muxV (l.getD 0 0) (l.getD 1 0) (l.getD 2 0) else
  if k = 12 then triV (l.getD 0 0) (l.getD 1 0) else if k = 13 then busL l else 2
def widBad (k : Int) (n : Nat) : Bool := decide ((n : Int) < (fan k).1 ∨ (fan k).2 < (n : Int))
def evalL (k : Int) (l : List Int) : Int := if widBad k l.length = true then 2 else evalK k l
theorem evalK_rel (R : Int → Int → Prop) {k : Int} {l m : List Int} (h1 : k = 1 → R (0) (0)) (h2 : k = 2 → R (1) (1)) (h3 : k = 3 → R (readV (l.getD 0 0)) (readV (m.getD 0 0))) (h4 : k = 4 → R (notV (l.getD 0 0)) (notV (m.getD 0 0))) (h5 : k = 5 → R (decL 0 1 1 l) (decL 0 1 1 m)) (h6 : k = 6 → R (notV (decL 0 1 1 l)) (notV (decL 0 1 1 m))) (h7 : k = 7 → R (decL 1 0 0 l) (decL 1 0 0 m)) (h8 : k = 8 → R (notV (decL 1 0 0 l)) (notV (decL 1 0 0 m))) (h9 : k = 9 → R (xorL 0 l) (xorL 0 m)) (h10 : k = 10 → R (notV (xorL 0 l)) (notV (xorL 0 m))) (h11 : k = 11 → R (muxV (l.getD 0 0) (l.getD 1 0) (l.getD 2 0)) (muxV (m.getD 0 0) (m.getD 1 0) (m.getD 2 0))) (h12 : k = 12 → R (triV (l.getD 0 0) (l.getD 1 0)) (triV (m.getD 0 0) (m.getD 1 0))) (h13 : k = 13 → R (busL l) (busL m)) (h0 : k < 1 ∨ 13 < k → R 2 2) : R (evalK k l) (evalK k m) := by
  by_cases e1 : k = 1
  · subst e1; exact h1 rfl
  by_cases e2 : k = 2
  · subst e2; exact h2 rfl
  by_cases e3 : k = 3
  · subst e3; exact h3 rfl
  by_cases e4 : k = 4
  · subst e4; exact h4 rfl
  by_cases e5 : k = 5
  · subst e5; exact h5 rfl
  by_cases e6 : k = 6
  · subst e6; exact h6 rfl
  by_cases e7 : k = 7
  · subst e7; exact h7 rfl
  by_cases e8 : k = 8
  · subst e8; exact h8 rfl
  by_cases e9 : k = 9
  · subst e9; exact h9 rfl
  by_cases e10 : k = 10
  · subst e10; exact h10 rfl
  by_cases e11 : k = 11
  · subst e11; exact h11 rfl
  by_cases e12 : k = 12
  · subst e12; exact h12 rfl
  by_cases e13 : k = 13
  · subst e13; exact h13 rfl
  unfold evalK
  rw [if_neg e1, if_neg e2, if_neg e3, if_neg e4, if_neg e5, if_neg e6, if_neg e7, if_neg e8, if_neg e9, if_neg e10, if_neg e11, if_neg e12, if_neg e13]
  rw [if_neg e1, if_neg e2, if_neg e3, if_neg e4, if_neg e5, if_neg e6, if_neg e7, if_neg e8, if_neg e9, if_neg e10, if_neg e11, if_neg e12, if_neg e13]
  exact h0 (by omega)
def V4 (v : Int) : Prop := 0 ≤ v ∧ v ≤ 3
theorem readV_4 {v : Int} (h : V4 v) : V4 (readV v) := by unfold readV V4 at *; split <;> omega
theorem notV_4 {v : Int} (h : V4 v) : V4 (notV v) := by unfold notV V4 at *; split <;> omega
theorem decL_val {low high : Int} : ∀ {l : List Int} {out : Int}, out = 2 ∨ out = high → decL low high out l = if low ∈ l then low else if out = high ∧ ∀ v ∈ l, v = high then high else 2
  | [], out, h => by
    simp only [decL, List.not_mem_nil, if_false]
    by_cases ho : out = high
    · simp [ho]
    · simp [ho]; omega
  | v :: l, out, h => by
    simp only [decL]
    by_cases h1 : v = low
    · subst h1; simp
    have h1' : ¬ low = v := fun e => h1 e.symm
    by_cases h2 : v = high
    · subst h2
      rw [if_neg h1, if_neg (by simp), decL_val h]
      simp [h1']
    · rw [if_neg h1, if_pos h2, decL_val (.inl rfl)]
      by_cases hl : low ∈ l
      · simp [hl]
      · have : ¬ (out = high ∧ ∀ u ∈ v :: l, u = high) := fun ⟨_, h⟩ => h2 (h v List.mem_cons_self)
        have hlv : ¬ low ∈ v :: l := by simp [h1', hl]
        rw [if_neg hl, if_neg hlv, if_neg this]
        split
        · rename_i h3; exact h3.1.symm
        · rfl
theorem xorL_4 : ∀ {l : List Int} {out : Int}, V4 out → (∀ v ∈ l, V4 v) → V4 (xorL out l)
  | [], out, h, _ => h
  | v :: l, out, h, hl => by
    simp only [xorL]
    split
    · exact xorL_4 (by unfold xor1; split <;> simp [V4]) fun u hu => hl u (List.mem_cons_of_mem _ hu)
    · simp [V4]
theorem getD_4 {l : List Int} (h : ∀ v ∈ l, V4 v) (i : Nat) : V4 (l.getD i 0) := by
  rw [List.getD_eq_getElem?_getD]
  by_cases hi : i < l.length
  · rw [List.getElem?_eq_getElem hi]; exact h _ (List.getElem_mem hi)
  · rw [List.getElem?_eq_none (Nat.le_of_not_lt hi)]; simp [V4]
theorem evalL_4 {k : Int} {l : List Int} (h : ∀ v ∈ l, V4 v) : V4 (evalL k l) := by
  have g := getD_4 h
  have d1 : V4 (decL 0 1 1 l) := by rw [decL_val (.inr rfl)]; split; simp [V4]; split <;> simp [V4]
  have d2 : V4 (decL 1 0 0 l) := by rw [decL_val (.inr rfl)]; split; simp [V4]; split <;> simp [V4]
  have x := xorL_4 (out := 0) (by simp [V4]) h
  unfold evalL
  by_cases hw : widBad k l.length = true
  · rw [if_pos hw]; simp [V4]
  rw [if_neg hw]
  refine evalK_rel (fun a _ => V4 a) (l := l) (m := l) (fun _ => by simp [V4]) (fun _ => by simp [V4]) (fun _ => readV_4 (g 0)) (fun _ => notV_4 (g 0)) (fun _ => d1) (fun _ => notV_4 d1) (fun _ => d2) (fun _ => notV_4 d2) (fun _ => x) (fun _ => notV_4 x) (fun _ => ?_) (fun _ => ?_) (fun _ => ?_) (fun _ => by simp [V4])
  · unfold muxV; split
    · exact readV_4 (g 1)
    split
    · exact readV_4 (g 2)
    split
    · exact readV_4 (g 1)
    · simp [V4]
  · unfold triV; split
    · simp [V4]
    split
    · exact readV_4 (g 1)
    · simp [V4]
  · unfold busL; split
    · simp [V4]
    split
    · simp [V4]
    · exact g _
def Blw (a b : Int) : Prop := a = b ∨ a = 2
def BlwL (l m : List Int) : Prop := l.length = m.length ∧ ∀ i, Blw (l.getD i 0) (m.getD i 0)
theorem Blw.refl (a : Int) : Blw a a := .inl rfl
theorem BlwL.cons {a b : Int} {l m : List Int} (h : BlwL (a :: l) (b :: m)) : Blw a b ∧ BlwL l m :=
  ⟨by simpa using h.2 0, by simpa using h.1, fun i => by simpa using h.2 (i + 1)⟩
end Go.Lg
namespace Go.Lg
open Go Go.Proofs
def cntR (i : Nat) (r : Row) : Nat := r.countP fun p => decide (p.1 = (i : Int))
theorem cntR_app {i : Nat} {r q : Row} : cntR i (r ++ q) = cntR i r + cntR i q := by simp [cntR]
theorem addRow_cnt {rows : List Row} {n m i : Nat} {p : Int × Int} (hn : n < rows.length) : cntR i ((addRow rows n p).getD m []) = cntR i (rows.getD m []) + if m = n ∧ p.1 = (i : Int) then 1 else 0 := by
  unfold addRow
  simp only [List.getD_eq_getElem?_getD, List.getElem?_set]
  by_cases h : n = m
  · subst h
    simp only [hn, if_true, Option.getD_some, cntR_app, true_and]
    congr 1
    by_cases h2 : p.1 = (i : Int) <;> simp [cntR, h2]
  · have h' : ¬ m = n := fun e => h e.symm
    simp [h, h']
theorem fanPins_cnt (c : Cir) (j i m : Nat) : ∀ (l : List Int) (k : Nat) (rows : List Row), rows.length = c.nodes.l.length → (∀ p ∈ l, 0 ≤ p ∧ p < c.nodes.l.length) → (fanPins c j l k rows).length = c.nodes.l.length ∧ cntR i ((fanPins c j l k rows).getD m []) = cntR i (rows.getD m []) + if j = i then l.count (m : Int) else 0
  | [], k, rows, hl, _ => ⟨hl, by simp [fanPins]⟩
  | n :: l, k, rows, hl, hp => by
    have hn := hp n List.mem_cons_self
    have ho : outP c n = false := by simp [outP]; omega
    simp only [fanPins, ho, Bool.false_eq_true, if_false]
    obtain ⟨h1, h2⟩ := fanPins_cnt c j i m l (k + 1) (addRow rows n.toNat (j, k)) (by rw [addRow_len]; exact hl) (fun p h => hp p (List.mem_cons_of_mem _ h))
    refine ⟨h1, ?_⟩
    rw [h2, addRow_cnt (by omega)]
    by_cases hji : j = i
    · subst hji
      simp only [and_true, if_true, List.count_cons]
      by_cases hm : (m : Int) = n
      · have h5 : m = n.toNat := by omega
        have h6 : (n == (m : Int)) = true := by rw [hm]; simp
        rw [if_pos h5, h6]
        simp only [if_true]; omega
      · have h5 : ¬ m = n.toNat := by omega
        have h6 : (n == (m : Int)) = false := by simp; omega
        rw [if_neg h5, h6]
        simp only [Bool.false_eq_true, if_false]; omega
    · have : ¬ ((j : Int) = i) := by omega
      simp [hji, this]
theorem fanNodes_cnt (c : Cir) (i m : Nat) : ∀ (l : List Nd) (s : Nat) (rows : List Row), rows.length = c.nodes.l.length → (∀ x ∈ l, ∀ p ∈ x.inn.l, 0 ≤ p ∧ p < c.nodes.l.length) →
    cntR i ((fanNodes c l s rows).getD m []) = cntR i (rows.getD m []) + if s ≤ i then ((l.map fun x => x.inn.l.count (m : Int)).getD (i - s) 0) else 0
  | [], s, rows, hl, _ => by simp [fanNodes]
  | x :: l, s, rows, hl, hp => by
    obtain ⟨h1, h2⟩ := fanPins_cnt c s i m x.inn.l 0 rows hl (hp x List.mem_cons_self)
    simp only [fanNodes]
    rw [fanNodes_cnt c i m l (s + 1) _ h1 (fun y hy => hp y (List.mem_cons_of_mem _ hy)), h2]
    by_cases hsi : s = i
    · subst hsi
      have : ¬ s + 1 ≤ s := by omega
      simp [this]
    · by_cases hlt : s ≤ i
      · have e : i - s = (i - (s + 1)) + 1 := by omega
        have h3 : s + 1 ≤ i := by omega
        simp [hsi, hlt, h3, e]
      · have h3 : ¬ s + 1 ≤ i := by omega
        simp [hsi, hlt, h3]
def innAt (c : Cir) (i : Nat) : List Int := (c.nodes.l.getD i Nd.d).inn.l
theorem rowOf_cnt (c : Cir) (hp : ∀ x ∈ c.nodes.l, ∀ p ∈ x.inn.l, 0 ≤ p ∧ p < c.nodes.l.length) (i m : Nat) (hi : i < c.nodes.l.length) : cntR i (rowOf c m) = (innAt c i).count (m : Int) := by
  unfold rowOf fanRows
  rw [fanNodes_cnt c i m c.nodes.l 0 _ (by simp) hp]
  have h0 : cntR i ((List.replicate c.nodes.l.length ([] : Row)).getD m []) = 0 := by
    simp only [List.getD_eq_getElem?_getD, List.getElem?_replicate]
    split <;> rfl
  rw [h0]
  simp [innAt, hi]
theorem left_at (c : Cir) {i : Nat} (hi : i < c.nodes.l.length) : (c.nodes.l.map leftOf).getD i 0 = if combB (kindAt c i) then ((innAt c i).length : Int) else 0 := by
  simp [kindAt, innAt, leftOf, hi]
theorem foldL_inv {N M : Nat} {c : Cir} {n : Nat} : ∀ {r : Row} {s : LS}, s.left.length = N → (∀ p ∈ r, ∃ i : Nat, i < N ∧ p.1 = i) → (∀ i : Nat, i < N → s.left.getD i 0 ≤ 0 → (i : Int) ∈ s.rdy) →
    (∃ e, (r.foldl (stepL c n) s).rdy = s.rdy ++ e) ∧ (r.foldl (stepL c n) s).left.length = N ∧ (∀ i : Nat, i < N → (r.foldl (stepL c n) s).left.getD i 0 = s.left.getD i 0 - if combB (kindAt c i) then (cntR i r : Int) else 0) ∧ (∀ i : Nat, i < N → (r.foldl (stepL c n) s).left.getD i 0 ≤ 0 → (i : Int) ∈ (r.foldl (stepL c n) s).rdy)
  | [], s, hl, _, hb => ⟨⟨[], by simp⟩, hl, fun i hi => by simp [cntR], hb⟩
  | (p1, p2) :: r, s, hl, hr, hb => by
    obtain ⟨j, hj, he⟩ := hr (p1, p2) List.mem_cons_self
    simp only at he; subst he
    have key : (∃ e, (stepL c n s (j, p2)).rdy = s.rdy ++ e) ∧ (stepL c n s (j, p2)).left.length = N ∧ (∀ i : Nat, i < N → (stepL c n s (j, p2)).left.getD i 0 = s.left.getD i 0 - if combB (kindAt c i) then (if j = i then 1 else 0 : Int) else 0) ∧ (∀ i : Nat, i < N → (stepL c n s (j, p2)).left.getD i 0 ≤ 0 → (i : Int) ∈ (stepL c n s (j, p2)).rdy) := by
      unfold stepL
      simp only [Int.toNat_natCast]
      by_cases hc : combB (kindAt c j) = true
      · simp only [hc, if_true]
        refine ⟨?_, by simp [hl], fun i hi => ?_, fun i hi h0 => ?_⟩
        · split
          · exact ⟨_, rfl⟩
          · exact ⟨[], by simp⟩
        · rw [getD_set (by omega)]
          by_cases hij : i = j
          · subst hij; simp [hc]
          · have : ¬ j = i := fun e => hij e.symm
            simp [hij, this]
        · rw [getD_set (by omega)] at h0
          by_cases hij : i = j
          · subst hij
            simp only [if_true] at h0
            by_cases h1 : s.left.getD i 0 - 1 = 0
            · rw [if_pos h1]; simp
            · rw [if_neg h1]
              exact hb i hi (by omega)
          · simp only [hij, if_false] at h0
            have := hb i hi h0
            split
            · exact List.mem_append_left _ this
            · exact this
      · simp only [hc]
        refine ⟨⟨[], by simp⟩, hl, fun i hi => ?_, hb⟩
        by_cases hij : j = i
        · subst hij; simp [hc]
        · simp [hij]
    obtain ⟨⟨e1, h1⟩, h2, h3, h4⟩ := key
    obtain ⟨⟨e2, g1⟩, g2, g3, g4⟩ := foldL_inv (M := M) (n := n) (r := r) h2 (fun q hq => hr q (List.mem_cons_of_mem _ hq)) h4
    simp only [List.foldl_cons]
    refine ⟨⟨e1 ++ e2, by rw [g1, h1, List.append_assoc]⟩, g2, fun i hi => ?_, g4⟩
    rw [g3 i hi, h3 i hi]
    by_cases hc : combB (kindAt c i) = true
    · simp only [hc, if_true]
      have : cntR i ((↑j, p2) :: r) = cntR i r + if j = i then 1 else 0 := by
        by_cases hij : j = i
        · subst hij; simp [cntR]
        · have : ¬ ((j : Int) = i) := by omega
          simp [cntR, hij, this]
      rw [this]
      split <;> omega
    · simp [hc]
structure JI (c : Cir) (d : Nat) (s : LS) : Prop where
  li : ∃ M, LI c.nodes.l.length M s
  le : d ≤ s.rdy.length
  a : ∀ i : Nat, i < c.nodes.l.length → s.left.getD i 0 = (c.nodes.l.map leftOf).getD i 0 - if combB (kindAt c i) then (((s.rdy.take d).map fun x => (innAt c i).count x).sum : Int) else 0
  b : ∀ i : Nat, i < c.nodes.l.length → s.left.getD i 0 ≤ 0 → (i : Int) ∈ s.rdy
theorem JI.next {c : Cir} (hp : ∀ x ∈ c.nodes.l, ∀ p ∈ x.inn.l, 0 ≤ p ∧ p < c.nodes.l.length) {d : Nat} {s : LS} (h : JI c d s) (hd : d < s.rdy.length) : JI c (d + 1) ((rowOf c (s.rdy.getD d 0).toNat).foldl (stepL c (s.rdy.getD d 0).toNat) s) := by
  obtain ⟨M, hli⟩ := h.li
  have hg : s.rdy.getD d 0 = s.rdy[d] := by simp [hd]
  rw [hg]
  obtain ⟨n, hn, he, _⟩ := hli.rd _ (List.getElem_mem hd)
  rw [he]
  simp only [Int.toNat_natCast]
  have hr : ∀ p ∈ rowOf c n, ∃ i : Nat, i < c.nodes.l.length ∧ p.1 = i := by
    intro p hpp
    have hl := fanRows_len c
    have e : rowOf c n = (fanRows c)[n]'(by omega) := by simp [rowOf, List.getD, List.getElem?_eq_getElem (show n < (fanRows c).length by omega)]
    rw [e] at hpp
    exact fanRows_in c _ (List.getElem_mem _) p hpp
  obtain ⟨⟨e, h1⟩, h2, h3, h4⟩ := foldL_inv (M := M) (c := c) (n := n) (r := rowOf c n) hli.ll hr h.b
  refine ⟨⟨_, hli.fold hr⟩, by rw [h1]; simp; omega, fun i hi => ?_, h4⟩
  rw [h3 i hi, h.a i hi, h1]
  by_cases hc : combB (kindAt c i) = true
  · simp only [hc, if_true]
    have ht : (s.rdy ++ e).take (d + 1) = s.rdy.take d ++ [(n : Int)] := by
      rw [List.take_append_of_le_length (by omega), List.take_add_one, List.getElem?_eq_getElem hd, he]
      rfl
    rw [ht, rowOf_cnt c hp i n hi]
    simp
    omega
  · simp [hc]
theorem main_end {c : Cir} (hp : ∀ x ∈ c.nodes.l, ∀ p ∈ x.inn.l, 0 ≤ p ∧ p < c.nodes.l.length) : ∀ (f d : Nat) (s : LS), JI c d s → c.nodes.l.length < f + d → JI c (mainL c f d s).1 (mainL c f d s).2 ∧ (mainL c f d s).2.rdy.length ≤ (mainL c f d s).1
  | 0, d, s, h, hf => by
    obtain ⟨M, hli⟩ := h.li
    have := hli.len
    exact ⟨h, by simp only [mainL]; omega⟩
  | f + 1, d, s, h, hf => by
    simp only [mainL]
    split
    · rename_i hd
      exact main_end hp f (d + 1) _ (h.next hp hd) (by omega)
    · exact ⟨h, by simp only; omega⟩
theorem sum_count : ∀ (L R : List Int), (∀ p ∈ L, p ∈ R) → L.length ≤ (R.map fun x => L.count x).sum
  | [], R, _ => by simp
  | p :: L, R, h => by
    have ih := sum_count L R fun q hq => h q (List.mem_cons_of_mem _ hq)
    have hpR := h p List.mem_cons_self
    have key : ∀ R : List Int, (R.map fun x => (p :: L).count x).sum = (R.map fun x => L.count x).sum + R.count p := by
      intro R
      induction R with
      | nil => rfl
      | cons a R ihR =>
        simp only [List.map_cons, List.sum_cons]
        rw [ihR, List.count_cons, List.count_cons]
        by_cases hpa : p = a
        · subst hpa; simp only [BEq.rfl, if_true]; omega
        · have h1 : (p == a) = false := by simpa using hpa
          have h2 : (a == p) = false := by simpa using fun e => hpa e.symm
          rw [h1, h2]; simp only [Bool.false_eq_true, if_false]; omega
    rw [key]
    have := List.count_pos_iff.2 hpR
    simp only [List.length_cons]; omega
theorem rdyFrom_all : ∀ (l : List Nd) (s i : Nat), s ≤ i → i < s + l.length → (l.map leftOf).getD (i - s) 0 ≤ 0 → (i : Int) ∈ rdyFrom l s
  | [], s, i, h1, h2, _ => by simp at h2; omega
  | x :: l, s, i, h1, h2, h3 => by
    simp only [List.length_cons] at h2
    by_cases hsi : i = s
    · subst hsi
      simp only [Nat.sub_self, List.map_cons, List.getD_cons_zero] at h3
      have h4 : 0 ≤ leftOf x := by unfold leftOf; split <;> omega
      have h5 : leftOf x = 0 := by omega
      simp [rdyFrom, h5]
    · have e : i - s = (i - (s + 1)) + 1 := by omega
      rw [e, List.map_cons, List.getD_cons_succ] at h3
      have := rdyFrom_all l (s + 1) i (by omega) (by omega) h3
      simp only [rdyFrom]
      split
      · exact List.mem_cons_of_mem _ this
      · exact this
theorem levels_done (c : Cir) (h16 : ∀ x ∈ c.nodes.l, x.inn.l.length ≤ 16) (hp : ∀ x ∈ c.nodes.l, ∀ p ∈ x.inn.l, 0 ≤ p ∧ p < c.nodes.l.length) (ht : ∀ i : Nat, i < c.nodes.l.length → combB (kindAt c i) = true → ∀ p ∈ innAt c i, p < i) : ¬ (endL c).1 < c.nodes.l.length := by
  have h0 : JI c 0 (initL c) := by
    refine ⟨⟨0, ?_⟩, by simp, fun i hi => ?_, fun i hi h => ?_⟩
    · obtain ⟨r1, r2⟩ := rdyFrom_in c.nodes.l 0
      refine ⟨by simp [initL], by simp [initL], ?_, r2, fun i => ?_, fun i => ?_⟩
      · intro j hj
        obtain ⟨a, _, h2, h3, h4⟩ := r1 j hj
        exact ⟨a, by omega, h3, by simp only [initL]; simp only [Nat.sub_zero] at h4; omega⟩
      · simp only [initL, List.getD_eq_getElem?_getD, List.getElem?_replicate]
        split <;> simp
      · simp only [initL]
        by_cases hi : i < c.nodes.l.length
        · have := h16 _ (List.getElem_mem hi)
          simp [hi, leftOf]
          split <;> omega
        · simp [hi]
    · simp [initL]
    · simp only [initL] at h
      exact rdyFrom_all c.nodes.l 0 i (by omega) (by omega) (by simpa using h)
  obtain ⟨hJ, hle⟩ := main_end hp (c.nodes.l.length + 1) 0 (initL c) h0 (by omega)
  show ¬ (mainL c (c.nodes.l.length + 1) 0 (initL c)).1 < c.nodes.l.length
  generalize (mainL c (c.nodes.l.length + 1) 0 (initL c)).1 = d at *
  generalize (mainL c (c.nodes.l.length + 1) 0 (initL c)).2 = s at *
  have all : ∀ i : Nat, i < c.nodes.l.length → (i : Int) ∈ s.rdy := by
    intro i
    induction i using Nat.strongRecOn with
    | ind i ih =>
      intro hi
      refine hJ.b i hi ?_
      rw [hJ.a i hi, left_at c hi]
      by_cases hc : combB (kindAt c i) = true
      · simp only [hc, if_true]
        rw [List.take_of_length_le hle]
        have hm : innAt c i ∈ c.nodes.l.map fun x => x.inn.l := by
          simp only [innAt, List.getD_eq_getElem?_getD, List.getElem?_eq_getElem hi, Option.getD_some]
          exact List.mem_map_of_mem (List.getElem_mem hi)
        obtain ⟨y, hy, hye⟩ := List.mem_map.1 hm
        have := sum_count (innAt c i) s.rdy fun p hpp => by
          have h1 := ht i hi hc p hpp
          have h2 := (hp y hy p (by rw [hye]; exact hpp)).1
          obtain ⟨j, rfl⟩ : ∃ j : Nat, p = j := ⟨p.toNat, by omega⟩
          exact ih j (by omega) (by omega)
        omega
      · simp [hc]
  have hnd : ((List.range c.nodes.l.length).map fun i : Nat => (i : Int)).Nodup := by
    rw [List.nodup_iff_pairwise_ne, List.pairwise_map]
    exact (List.nodup_iff_pairwise_ne.1 List.nodup_range).imp fun h e => h (by omega)
  have hsub : ((List.range c.nodes.l.length).map fun i : Nat => (i : Int)) ⊆ s.rdy := by
    intro x hx
    obtain ⟨i, hi, rfl⟩ := List.mem_map.1 hx
    exact all i (List.mem_range.1 hi)
  have := List.Nodup.length_le_of_subset hnd hsub
  simp at this
  omega
end Go.Lg
namespace Go.Lg
open Go Go.Proofs
theorem sum_count_cons (p : Int) (L : List Int) : ∀ R : List Int, (R.map fun x => (p :: L).count x).sum = (R.map fun x => L.count x).sum + R.count p
  | [] => rfl
  | a :: R => by
    simp only [List.map_cons, List.sum_cons]
    rw [sum_count_cons p L R, List.count_cons, List.count_cons]
    by_cases hpa : p = a
    · subst hpa; simp only [BEq.rfl, if_true]; omega
    · have h1 : (p == a) = false := by simpa using hpa
      have h2 : (a == p) = false := by simpa using fun e => hpa e.symm
      rw [h1, h2]; simp only [Bool.false_eq_true, if_false]; omega
theorem sum_count_le : ∀ (L R : List Int), R.Nodup → (R.map fun x => L.count x).sum ≤ L.length
  | [], R, _ => by
    have : ∀ R : List Int, (R.map fun x => ([] : List Int).count x).sum = 0 := by
      intro R
      induction R with
      | nil => rfl
      | cons a R ih => rw [List.map_cons, List.sum_cons, ih, List.count_nil]
    rw [this]; omega
  | p :: L, R, h => by
    have ih := sum_count_le L R h
    have h1 := List.nodup_iff_count.1 h p
    rw [sum_count_cons]
    simp only [List.length_cons]; omega
theorem foldO {N n : Nat} {c : Cir} : ∀ {r : Row} {s : LS}, s.out.length = N → s.left.length = N → (∀ p ∈ r, ∃ i : Nat, i < N ∧ p.1 = i) → (∀ i : Nat, i < N → combB (kindAt c i) = true → (cntR i r : Int) ≤ s.left.getD i 0) → s.left.getD n 0 ≤ 0 →
    (∀ i : Nat, i < N → s.left.getD i 0 ≤ 0 → (r.foldl (stepL c n) s).out.getD i 0 = s.out.getD i 0) ∧ (∀ i : Nat, i < N → s.out.getD i 0 ≤ (r.foldl (stepL c n) s).out.getD i 0) ∧ (∀ i : Nat, i < N → combB (kindAt c i) = true → 0 < cntR i r → s.out.getD n 0 + 1 ≤ (r.foldl (stepL c n) s).out.getD i 0)
  | [], s, ho, hl, _, _, _ => ⟨fun _ _ _ => rfl, fun _ _ => Int.le_refl _, fun i _ _ h => by simp [cntR] at h⟩
  | (p1, p2) :: r, s, ho, hl, hr, hc, hn => by
    obtain ⟨j, hj, he⟩ := hr (p1, p2) List.mem_cons_self
    simp only at he; subst he
    have cnt : ∀ i : Nat, cntR i ((↑j, p2) :: r) = cntR i r + if j = i then 1 else 0 := fun i => by
      by_cases hij : j = i
      · subst hij; simp [cntR]
      · have : ¬ ((j : Int) = i) := by omega
        simp [cntR, hij, this]
    simp only [List.foldl_cons]
    by_cases hcj : combB (kindAt c j) = true
    case neg =>
      have hs : stepL c n s (↑j, p2) = s := by unfold stepL; simp [hcj]
      rw [hs]
      obtain ⟨a1, a2, a3⟩ := foldO (n := n) (c := c) (r := r) ho hl (fun p hp => hr p (List.mem_cons_of_mem _ hp)) (fun i hi hci => by have := hc i hi hci; rw [cnt] at this; omega) hn
      refine ⟨a1, a2, fun i hi hci h => a3 i hi hci ?_⟩
      rw [cnt] at h
      have : ¬ j = i := fun e => hcj (e ▸ hci)
      simpa [this] using h
    have hj1 := hc j hj hcj
    rw [cnt, if_pos rfl] at hj1
    have hnj : ¬ n = j := fun e => by subst e; omega
    have so : ∀ i : Nat, (stepL c n s (↑j, p2)).out.getD i 0 = if i = j then max (s.out.getD j 0) (s.out.getD n 0 + 1) else s.out.getD i 0 := fun i => by
      unfold stepL
      simp only [Int.toNat_natCast, hcj, if_true]
      rw [getD_set (by omega)]
    have sl : ∀ i : Nat, (stepL c n s (↑j, p2)).left.getD i 0 = if i = j then s.left.getD j 0 - 1 else s.left.getD i 0 := fun i => by
      unfold stepL
      simp only [Int.toNat_natCast, hcj, if_true]
      rw [getD_set (by omega)]
    have lo : (stepL c n s (↑j, p2)).out.length = N := by unfold stepL; simp [hcj, ho]
    have ll : (stepL c n s (↑j, p2)).left.length = N := by unfold stepL; simp [hcj, hl]
    obtain ⟨a1, a2, a3⟩ := foldO (n := n) (c := c) (r := r) lo ll (fun p hp => hr p (List.mem_cons_of_mem _ hp)) (fun i hi hci => by
      have := hc i hi hci
      rw [cnt] at this
      rw [sl]
      by_cases hij : i = j
      · subst hij; simp only [if_true] at this ⊢; omega
      · have h' : ¬ j = i := fun e => hij e.symm
        simp only [hij, h', if_false] at this ⊢; omega) (by rw [sl, if_neg hnj]; exact hn)
    refine ⟨fun i hi h0 => ?_, fun i hi => ?_, fun i hi hci h => ?_⟩
    · have hij : ¬ i = j := fun e => by subst e; omega
      rw [a1 i hi (by rw [sl, if_neg hij]; exact h0), so, if_neg hij]
    · have := a2 i hi
      rw [so] at this
      split at this
      · rename_i e; subst e; omega
      · exact this
    · by_cases hij : i = j
      · subst hij
        have := a2 i hi
        rw [so, if_pos rfl] at this
        omega
      · have h' : ¬ j = i := fun e => hij e.symm
        rw [cnt, if_neg h'] at h
        have := a3 i hi hci (by omega)
        rw [so, if_neg hnj] at this
        exact this
def KI (c : Cir) (d : Nat) (s : LS) : Prop := ∀ i : Nat, i < c.nodes.l.length → combB (kindAt c i) = true → ∀ q : Nat, (q : Int) ∈ innAt c i → (q : Int) ∈ s.rdy.take d → s.out.getD q 0 + 1 ≤ s.out.getD i 0
theorem KI.next {c : Cir} (hp : ∀ x ∈ c.nodes.l, ∀ p ∈ x.inn.l, 0 ≤ p ∧ p < c.nodes.l.length) {d : Nat} {s : LS} (h : JI c d s) (hk : KI c d s) (hd : d < s.rdy.length) : KI c (d + 1) ((rowOf c (s.rdy.getD d 0).toNat).foldl (stepL c (s.rdy.getD d 0).toNat) s) := by
  obtain ⟨M, hli⟩ := h.li
  have hg : s.rdy.getD d 0 = s.rdy[d] := by simp [hd]
  rw [hg]
  obtain ⟨n, hn, he, hn0⟩ := hli.rd _ (List.getElem_mem hd)
  rw [he]
  simp only [Int.toNat_natCast]
  have hr : ∀ p ∈ rowOf c n, ∃ i : Nat, i < c.nodes.l.length ∧ p.1 = i := by
    intro p hpp
    have hl := fanRows_len c
    have e : rowOf c n = (fanRows c)[n]'(by omega) := by simp [rowOf, List.getD, List.getElem?_eq_getElem (show n < (fanRows c).length by omega)]
    rw [e] at hpp
    exact fanRows_in c _ (List.getElem_mem _) p hpp
  have htk : s.rdy.take (d + 1) = s.rdy.take d ++ [(n : Int)] := by
    rw [List.take_add_one, List.getElem?_eq_getElem hd, he]; rfl
  have hnd : (s.rdy.take (d + 1)).Nodup := hli.nd.sublist (List.take_sublist _ _)
  have hcnt : ∀ i : Nat, i < c.nodes.l.length → combB (kindAt c i) = true → (cntR i (rowOf c n) : Int) ≤ s.left.getD i 0 := by
    intro i hi hci
    have := sum_count_le (innAt c i) _ hnd
    rw [htk] at this
    simp only [List.map_append, List.sum_append, List.map_cons, List.map_nil, List.sum_cons, List.sum_nil] at this
    rw [h.a i hi, left_at c hi, rowOf_cnt c hp i n hi]
    simp only [hci, if_true]
    omega
  obtain ⟨⟨e, h1⟩, _, _, _⟩ := foldL_inv (M := M) (c := c) (n := n) (r := rowOf c n) hli.ll hr h.b
  obtain ⟨a1, a2, a3⟩ := foldO (n := n) (c := c) hli.lo hli.ll hr hcnt hn0
  intro i hi hci q hq hqt
  rw [h1, List.take_append_of_le_length (by omega), htk] at hqt
  rcases List.mem_append.1 hqt with hqt | hqt
  · obtain ⟨q', hq1, hq2, hq3⟩ := hli.rd _ (List.mem_of_mem_take hqt)
    have : q = q' := by omega
    subst this
    rw [a1 q hq1 hq3]
    have h4 := hk i hi hci q hq hqt
    have h5 := a2 i hi
    omega
  · have : q = n := by simp at hqt; omega
    subst this
    rw [a1 q hn hn0]
    refine a3 i hi hci ?_
    rw [rowOf_cnt c hp i q hi]
    exact List.count_pos_iff.2 hq
theorem main_ki {c : Cir} (hp : ∀ x ∈ c.nodes.l, ∀ p ∈ x.inn.l, 0 ≤ p ∧ p < c.nodes.l.length) : ∀ (f d : Nat) (s : LS), JI c d s → KI c d s → KI c (mainL c f d s).1 (mainL c f d s).2
  | 0, d, s, _, hk => hk
  | f + 1, d, s, h, hk => by
    simp only [mainL]
    split
    · rename_i hd
      exact main_ki hp f (d + 1) _ (h.next hp hd) (hk.next hp h hd)
    · exact hk
theorem init_ji (c : Cir) (h16 : ∀ x ∈ c.nodes.l, x.inn.l.length ≤ 16) : JI c 0 (initL c) := by
  refine ⟨⟨0, initL_ok c h16⟩, by simp, fun i hi => ?_, fun i hi h => ?_⟩
  · simp [initL]
  · simp only [initL] at h
    exact rdyFrom_all c.nodes.l 0 i (by omega) (by omega) (by simpa using h)
theorem shape_in {c : Cir} (h : shapeErr c = 0) : ∀ x ∈ c.nodes.l, ∀ p ∈ x.inn.l, 0 ≤ p ∧ p < c.nodes.l.length := by
  intro x hx
  have h4 := (shape_facts h).2.2.1 x hx
  unfold nodeErr at h4
  split at h4
  · cases h4
  split at h4
  · cases h4
  split at h4
  · cases h4
  rename_i h6
  exact any_out (by simpa using h6)
def levAt (c : Cir) (i : Nat) : Int := (endL c).2.out.getD i 0
theorem levErr_zero {c : Cir} (h : levErr c = 0) : shapeErr c = 0 ∧ ¬ (endL c).1 < c.nodes.l.length := by
  unfold levErr at h
  split at h
  · rename_i h1; exact absurd h h1
  split at h
  · cases h
  · rename_i h1 h2; exact ⟨by simpa using h1, h2⟩
theorem lev_lt {c : Cir} (h : levErr c = 0) : (endL c).2.out.length = c.nodes.l.length ∧ (∀ i, 0 ≤ levAt c i) ∧ ∀ i : Nat, i < c.nodes.l.length → combB (kindAt c i) = true → ∀ p ∈ innAt c i, (0 ≤ p ∧ p < c.nodes.l.length) ∧ levAt c p.toNat < levAt c i := by
  obtain ⟨hs, hd⟩ := levErr_zero h
  have hp := shape_in hs
  have h16 := (shape_facts hs).2.1
  have h0 := init_ji c h16
  obtain ⟨hJ, hle⟩ := main_end hp (c.nodes.l.length + 1) 0 (initL c) h0 (by omega)
  have hK := main_ki hp (c.nodes.l.length + 1) 0 (initL c) h0 (fun i _ _ q _ hq => by simp at hq)
  obtain ⟨M, hli⟩ := hJ.li
  refine ⟨hli.lo, fun i => (hli.bo i).1, fun i hi hc p hpi => ?_⟩
  have hin : 0 ≤ p ∧ p < c.nodes.l.length := by
    simp only [innAt, List.getD_eq_getElem?_getD, List.getElem?_eq_getElem hi, Option.getD_some] at hpi
    exact hp _ (List.getElem_mem hi) p hpi
  refine ⟨hin, ?_⟩
  have hpe : p = (p.toNat : Int) := by omega
  have hall : p ∈ (endL c).2.rdy.take (endL c).1 := by
    have hle' : (endL c).2.rdy.length ≤ (endL c).1 := hle
    rw [List.take_of_length_le hle']
    by_cases hm : p ∈ (endL c).2.rdy
    · exact hm
    exfalso
    have := nodup_len (N := c.nodes.l.length) (List.nodup_cons.2 ⟨hm, hli.nd⟩) fun j hj => by
      rcases List.mem_cons.1 hj with rfl | hj
      · exact ⟨j.toNat, by omega, by omega⟩
      · obtain ⟨i, h1, h2, _⟩ := hli.rd j hj; exact ⟨i, h1, h2⟩
    have h3 := hJ.le
    simp only [List.length_cons] at this
    have : (endL c).1 ≤ (endL c).2.rdy.length := h3
    have : (mainL c (c.nodes.l.length + 1) 0 (initL c)).2 = (endL c).2 := rfl
    simp only [this] at *
    omega
  have := hK i hi hc p.toNat (by rw [← hpe]; exact hpi) (by rw [← hpe]; exact hall)
  show (endL c).2.out.getD p.toNat 0 < (endL c).2.out.getD i 0
  have e : (mainL c (c.nodes.l.length + 1) 0 (initL c)).2 = (endL c).2 := rfl
  rw [e] at this
  omega
theorem lev_ind {c : Cir} (h : levErr c = 0) {Q : Nat → Prop} (hq : ∀ i : Nat, i < c.nodes.l.length → (combB (kindAt c i) = true → ∀ p ∈ innAt c i, (0 ≤ p ∧ p < c.nodes.l.length) ∧ Q p.toNat) → Q i) : ∀ i : Nat, i < c.nodes.l.length → Q i := by
  obtain ⟨_, h0, h1⟩ := lev_lt h
  have : ∀ (k : Nat) (i : Nat), i < c.nodes.l.length → (levAt c i).toNat = k → Q i := by
    intro k
    induction k using Nat.strongRecOn with
    | ind k ih =>
      intro i hi hk
      refine hq i hi fun hc p hp => ?_
      obtain ⟨h2, h3⟩ := h1 i hi hc p hp
      have := h0 p.toNat
      exact ⟨h2, ih (levAt c p.toNat).toNat (by omega) p.toNat (by omega) rfl⟩
  exact fun i hi => this _ i hi rfl
end Go.Lg
namespace Go.Lg
open Go Go.Proofs
def sink (lt : Int → Int → Bool) : Nat → List Int → List Int
  | 0, l => l
  | j + 1, l => if lt (l.getD (j + 1) 0) (l.getD j 0) then sink lt j (swapL l (j + 1) j) else l
def insS (lt : Int → Int → Bool) : Nat → Nat → List Int → List Int
  | 0, _, l => l
  | f + 1, i, l => insS lt f (i + 1) (sink lt i l)
theorem sink_perm {lt : Int → Int → Bool} : ∀ {j : Nat} {l : List Int}, j < l.length → (sink lt j l).Perm l
  | 0, l, _ => List.Perm.refl l
  | j + 1, l, h => by
    simp only [sink]
    split
    · exact (sink_perm (by rw [swapL_len]; omega)).trans (swapL_perm h (by omega))
    · exact List.Perm.refl l
def SortedTo (key : Int → Int) (l : List Int) (n : Nat) : Prop := ∀ a b, a < b → b < n → key (l.getD a 0) ≤ key (l.getD b 0)
theorem sink_sorted (key : Int → Int) (i : Nat) : ∀ (j : Nat) (l : List Int), j ≤ i → i < l.length → (∀ a b, a < b → b ≤ i → a ≠ j → b ≠ j → key (l.getD a 0) ≤ key (l.getD b 0)) → (∀ b, j < b → b ≤ i → key (l.getD j 0) ≤ key (l.getD b 0)) →
    SortedTo key (sink (fun a b => decide (key a < key b)) j l) (i + 1)
  | 0, l, hj, hi, h1, h2 => by
    intro a b hab hb
    simp only [sink]
    by_cases ha : a = 0
    · subst ha; exact h2 b hab (by omega)
    · exact h1 a b hab (by omega) ha (by omega)
  | j + 1, l, hj, hi, h1, h2 => by
    simp only [sink]
    split
    · rename_i hlt
      have hlt' : key (l.getD (j + 1) 0) < key (l.getD j 0) := by simpa using hlt
      have g : ∀ q, q < l.length → (swapL l (j + 1) j).getD q 0 = if q = j then l.getD (j + 1) 0 else if q = j + 1 then l.getD j 0 else l.getD q 0 := fun q hq => swapL_get (by omega) (by omega) hq
      refine sink_sorted key i j _ (by omega) (by rw [swapL_len]; exact hi) (fun a b hab hb ha hb' => ?_) (fun b hb hbi => ?_)
      · rw [g a (by omega), g b (by omega), if_neg ha, if_neg hb']
        by_cases ha1 : a = j + 1
        · rw [if_pos ha1, if_neg (by omega)]
          exact h1 j b (by omega) hb (by omega) (by omega)
        · rw [if_neg ha1]
          by_cases hb1 : b = j + 1
          · rw [if_pos hb1]
            exact h1 a j (by omega) (by omega) ha1 (by omega)
          · rw [if_neg hb1]
            exact h1 a b hab hb ha1 hb1
      · rw [g j (by omega), g b (by omega), if_pos rfl, if_neg (by omega)]
        by_cases hb1 : b = j + 1
        · rw [if_pos hb1]; omega
        · rw [if_neg hb1]
          exact h2 b (by omega) hbi
    · rename_i hlt
      have hlt' : key (l.getD j 0) ≤ key (l.getD (j + 1) 0) := by simpa using hlt
      intro a b hab hb
      by_cases ha1 : a = j + 1
      · subst ha1; exact h2 b hab (by omega)
      · by_cases hb1 : b = j + 1
        · subst hb1
          by_cases haj : a = j
          · subst haj; exact hlt'
          · have := h1 a j (by omega) (by omega) ha1 (by omega)
            omega
        · exact h1 a b hab (by omega) ha1 hb1
theorem insS_ok (key : Int → Int) : ∀ (f i : Nat) (l : List Int), i + f = l.length → SortedTo key l i → (insS (fun a b => decide (key a < key b)) f i l).Perm l ∧ SortedTo key (insS (fun a b => decide (key a < key b)) f i l) l.length
  | 0, i, l, h, hs => ⟨List.Perm.refl l, by have : i = l.length := by omega
                                            subst this; exact hs⟩
  | f + 1, i, l, h, hs => by
    simp only [insS]
    have hp := sink_perm (lt := fun a b => decide (key a < key b)) (show i < l.length by omega)
    have hss := sink_sorted key i i l (Nat.le_refl _) (by omega) (fun a b hab hb ha hb' => hs a b hab (by omega)) (fun b h1 h2 => by omega)
    obtain ⟨a1, a2⟩ := insS_ok key f (i + 1) _ (by rw [hp.length_eq]; omega) hss
    rw [hp.length_eq] at a2
    exact ⟨a1.trans hp, a2⟩
def rng (n : Nat) : List Int := (List.range n).map fun i : Nat => (i : Int)
theorem rng_len {n : Nat} : (rng n).length = n := by simp [rng]
theorem mem_rng {n : Nat} {x : Int} : x ∈ rng n ↔ 0 ≤ x ∧ x < n := by
  simp only [rng, List.mem_map, List.mem_range]
  constructor
  · rintro ⟨i, hi, rfl⟩; omega
  · intro h; exact ⟨x.toNat, by omega, by omega⟩
theorem rng_nodup {n : Nat} : (rng n).Nodup := by
  rw [rng, List.nodup_iff_pairwise_ne, List.pairwise_map]
  exact (List.nodup_iff_pairwise_ne.1 List.nodup_range).imp fun h e => h (by omega)
def levLt (c : Cir) (a b : Int) : Bool := decide (levAt c a.toNat < levAt c b.toNat)
def orderC (c : Cir) : List Int := insS (levLt c) (c.nodes.l.length - 1) 1 (rng c.nodes.l.length)
theorem orderC_ok (c : Cir) : (orderC c).Perm (rng c.nodes.l.length) ∧ SortedTo (fun a => levAt c a.toNat) (orderC c) c.nodes.l.length := by
  by_cases h : c.nodes.l.length = 0
  · unfold orderC
    rw [h]
    exact ⟨List.Perm.refl _, fun a b hab hb => by omega⟩
  · have := insS_ok (fun a => levAt c a.toNat) (c.nodes.l.length - 1) 1 (rng c.nodes.l.length) (by rw [rng_len]; omega) (fun a b hab hb => by omega)
    rw [rng_len] at this
    exact this
def inVals (c : Cir) (nets : List Int) (i : Nat) : List Int := (innAt c i).map fun k => nets.getD k.toNat 0
def stepR (c : Cir) (nets : List Int) (n : Int) : List Int := if combB (kindAt c n.toNat) then nets.set n.toNat (evalL (kindAt c n.toNat) (inVals c nets n.toNat)) else nets
def runL (c : Cir) (order init : List Int) : List Int := order.foldl (stepR c) init
theorem stepR_len {c : Cir} {nets : List Int} {n : Int} : (stepR c nets n).length = nets.length := by unfold stepR; split <;> simp
theorem runL_len {c : Cir} : ∀ {o nets : List Int}, (runL c o nets).length = nets.length
  | [], nets => rfl
  | n :: o, nets => by
    show (runL c o (stepR c nets n)).length = _
    rw [runL_len, stepR_len]
def FixN (c : Cir) (init f : List Int) : Prop := f.length = c.nodes.l.length ∧ ∀ i : Nat, i < c.nodes.l.length → f.getD i 0 = if combB (kindAt c i) then evalL (kindAt c i) (inVals c f i) else init.getD i 0
theorem run_gen {c : Cir} : ∀ {o nets : List Int}, nets.length = c.nodes.l.length → o.Nodup → (∀ n ∈ o, 0 ≤ n ∧ n < c.nodes.l.length) → o.Pairwise (fun x y => combB (kindAt c x.toNat) = true → y ∉ innAt c x.toNat) → (∀ x ∈ o, combB (kindAt c x.toNat) = true → x ∉ innAt c x.toNat ∧ ∀ p ∈ innAt c x.toNat, 0 ≤ p) →
    (∀ i : Nat, (i : Int) ∉ o → (runL c o nets).getD i 0 = nets.getD i 0) ∧ (∀ i : Nat, (i : Int) ∈ o → (runL c o nets).getD i 0 = if combB (kindAt c i) then evalL (kindAt c i) (inVals c (runL c o nets) i) else nets.getD i 0)
  | [], nets, _, _, _, _, _ => ⟨fun i _ => rfl, fun i h => by cases h⟩
  | n :: o, nets, hl, hnd, hin, hpw, hself => by
    obtain ⟨hn1, hn2⟩ := List.nodup_cons.1 hnd
    obtain ⟨hp1, hp2⟩ := List.pairwise_cons.1 hpw
    have hnr := hin n List.mem_cons_self
    have hne : n = (n.toNat : Int) := by omega
    have key : ∀ i : Nat, i ≠ n.toNat → (stepR c nets n).getD i 0 = nets.getD i 0 := fun i hi => by
      unfold stepR
      split
      · rw [getD_set (by omega), if_neg hi]
      · rfl
    obtain ⟨a1, a2⟩ := run_gen (o := o) (nets := stepR c nets n) (by rw [stepR_len]; exact hl) hn2 (fun m hm => hin m (List.mem_cons_of_mem _ hm)) hp2 (fun x hx => hself x (List.mem_cons_of_mem _ hx))
    have hrun : runL c (n :: o) nets = runL c o (stepR c nets n) := rfl
    rw [hrun]
    refine ⟨fun i hi => ?_, fun i hi => ?_⟩
    · have h1 : ¬ i = n.toNat := fun e => hi (by rw [e, ← hne]; exact List.mem_cons_self)
      rw [a1 i fun hm => hi (List.mem_cons_of_mem _ hm), key i h1]
    · by_cases hio : (i : Int) ∈ o
      · have h1 : ¬ i = n.toNat := fun e => hn1 (by rw [hne, ← e]; exact hio)
        rw [a2 i hio, key i h1]
      · have h1 : i = n.toNat := by
          rcases List.mem_cons.1 hi with h | h
          · omega
          · exact absurd h hio
        subst h1
        rw [a1 _ hio]
        by_cases hc : combB (kindAt c n.toNat) = true
        · have h2 : (stepR c nets n).getD n.toNat 0 = evalL (kindAt c n.toNat) (inVals c nets n.toNat) := by
            unfold stepR
            rw [if_pos hc, getD_set (by omega), if_pos rfl]
          rw [h2, if_pos hc]
          congr 1
          unfold inVals
          refine List.map_congr_left fun p hp => ?_
          obtain ⟨hs1, hs2⟩ := hself n List.mem_cons_self hc
          have hp0 := hs2 p hp
          have hpe : p = (p.toNat : Int) := by omega
          have hpo : ((p.toNat : Nat) : Int) ∉ o := fun hm => hp1 _ hm hc (by rw [← hpe]; exact hp)
          have hpn : ¬ p.toNat = n.toNat := fun e => by
            have h9 : p = n := by omega
            rw [h9] at hp
            exact hs1 hp
          rw [a1 _ hpo, key _ hpn]
        · rw [if_neg hc]
          unfold stepR
          rw [if_neg hc]
theorem run_fix {c : Cir} (h : levErr c = 0) {o init : List Int} (hp : o.Perm (rng c.nodes.l.length)) (hs : SortedTo (fun a => levAt c a.toNat) o c.nodes.l.length) (hi : init.length = c.nodes.l.length) : FixN c init (runL c o init) := by
  obtain ⟨_, h0, h1⟩ := lev_lt h
  have hlen : o.length = c.nodes.l.length := by rw [hp.length_eq, rng_len]
  have hmem : ∀ n, n ∈ o ↔ 0 ≤ n ∧ n < c.nodes.l.length := fun n => by rw [hp.mem_iff, mem_rng]
  have hpw : o.Pairwise (fun x y => combB (kindAt c x.toNat) = true → y ∉ innAt c x.toNat) := by
    rw [List.pairwise_iff_getElem]
    intro i j hi hj hij hc hm
    have hx := (hmem o[i]).1 (List.getElem_mem hi)
    obtain ⟨_, h3⟩ := h1 o[i].toNat (by omega) hc _ hm
    have h4 := hs i j hij (by omega)
    simp only [getD_eq hi, getD_eq hj] at h4
    omega
  obtain ⟨_, a2⟩ := run_gen (c := c) (o := o) (nets := init) hi (hp.nodup_iff.2 rng_nodup) (fun n hn => (hmem n).1 hn) hpw (fun x hx hc => by
    have hx' := (hmem x).1 hx
    refine ⟨fun hm => ?_, fun p hpp => (h1 x.toNat (by omega) hc p hpp).1.1⟩
    have := (h1 x.toNat (by omega) hc x hm).2
    omega)
  exact ⟨by rw [runL_len]; exact hi, fun i hi => a2 i ((hmem i).2 (by omega))⟩
def loadS : List Int → List Int → List Int → List Int
  | n :: ns, v :: vs, nets => loadS ns vs (nets.set n.toNat v)
  | _, _, nets => nets
theorem loadS_len : ∀ {ns vs nets : List Int}, (loadS ns vs nets).length = nets.length
  | [], vs, nets => by cases vs <;> rfl
  | _ :: _, [], nets => rfl
  | n :: ns, v :: vs, nets => by simp only [loadS]; rw [loadS_len]; simp
theorem loadS_off : ∀ {ns vs nets : List Int} {i : Nat}, (∀ n ∈ ns, 0 ≤ n) → (i : Int) ∉ ns → (loadS ns vs nets).getD i 0 = nets.getD i 0
  | [], vs, nets, i, _, _ => by cases vs <;> rfl
  | _ :: _, [], nets, i, _, _ => rfl
  | n :: ns, v :: vs, nets, i, h0, h => by
    simp only [loadS]
    rw [loadS_off (fun m hm => h0 m (List.mem_cons_of_mem _ hm)) fun hm => h (List.mem_cons_of_mem _ hm)]
    have h1 : ¬ n.toNat = i := fun e => h (by have := h0 n List.mem_cons_self; rw [← e, Int.toNat_of_nonneg this]; exact List.mem_cons_self)
    simp [List.getD_eq_getElem?_getD, List.getElem?_set, h1]
theorem loadS_at : ∀ {ns vs nets : List Int} {j : Nat}, ns.Nodup → (∀ n ∈ ns, 0 ≤ n ∧ n < nets.length) → ns.length = vs.length → (h : j < ns.length) → (loadS ns vs nets).getD (ns[j]).toNat 0 = vs.getD j 0
  | n :: ns, v :: vs, nets, j, hnd, hr, hl, h => by
    obtain ⟨h1, h2⟩ := List.nodup_cons.1 hnd
    have hn := hr n List.mem_cons_self
    simp only [loadS]
    cases j with
    | zero =>
      simp only [List.getElem_cons_zero, List.getD_cons_zero]
      rw [loadS_off (fun m hm => (hr m (List.mem_cons_of_mem _ hm)).1) (by rw [Int.toNat_of_nonneg hn.1]; exact h1), getD_set (by omega), if_pos rfl]
    | succ j =>
      simp only [List.getElem_cons_succ, List.getD_cons_succ]
      exact loadS_at h2 (fun m hm => by have := hr m (List.mem_cons_of_mem _ hm); simpa using this) (by simpa using hl) (by simpa using h)
  | [], vs, nets, j, _, _, _, h => by simp at h
  | _ :: _, [], nets, j, _, _, hl, h => by simp at hl
def inputs (c : Cir) : List Int := ofL [0] c.nodes.l 0
def loadL (c : Cir) (pin pst : List Int) : List Int := loadS (states c) pst (loadS (inputs c) pin (List.replicate c.nodes.l.length 0))
def netsL (c : Cir) (pin pst : List Int) : List Int := runL c (orderC c) (loadL c pin pst)
theorem loadL_len {c : Cir} {pin pst : List Int} : (loadL c pin pst).length = c.nodes.l.length := by unfold loadL; rw [loadS_len, loadS_len]; simp
theorem nets_fix {c : Cir} (h : levErr c = 0) (pin pst : List Int) : FixN c (loadL c pin pst) (netsL c pin pst) := run_fix h (orderC_ok c).1 (orderC_ok c).2 loadL_len
def rankK (k : Int) (c : Cir) (i : Nat) : Nat := (ofL [k] (c.nodes.l.take i) 0).length
theorem ofL_split {k : Int} {c : Cir} {i : Nat} (hi : i < c.nodes.l.length) (hk : kindAt c i = k) : ofL [k] c.nodes.l 0 = ofL [k] (c.nodes.l.take i) 0 ++ (i : Int) :: ofL [k] (c.nodes.l.drop (i + 1)) (i + 1) := by
  have e : c.nodes.l = c.nodes.l.take i ++ c.nodes.l[i] :: c.nodes.l.drop (i + 1) := by rw [List.getElem_cons_drop, List.take_append_drop]
  have hk' : c.nodes.l[i].k = k := by simpa [kindAt, hi] using hk
  have hm : (c.nodes.l.take i).length = i := by rw [List.length_take]; omega
  conv => lhs; rw [e, ofL_app, hm]
  simp [ofL, hk']
theorem rank_at {k : Int} {c : Cir} {i : Nat} (hi : i < c.nodes.l.length) (hk : kindAt c i = k) : rankK k c i < (ofL [k] c.nodes.l 0).length ∧ (ofL [k] c.nodes.l 0).getD (rankK k c i) 0 = i := by
  have e := ofL_split hi hk
  constructor
  · rw [e]; simp [rankK]
  · rw [e]; simp [rankK, List.getD_eq_getElem?_getD]
theorem ofL_in {k : Int} {c : Cir} : ∀ n ∈ ofL [k] c.nodes.l 0, 0 ≤ n ∧ n < c.nodes.l.length ∧ kindAt c n.toNat = k := by
  intro n hn
  obtain ⟨a, b, h⟩ := ofL_kind [k] c.nodes.l 0 n hn
  refine ⟨by omega, by omega, ?_⟩
  simpa [kindAt] using h
theorem mem_ofL {k : Int} {c : Cir} {i : Nat} (hi : i < c.nodes.l.length) : (i : Int) ∈ ofL [k] c.nodes.l 0 ↔ kindAt c i = k := by
  constructor
  · intro h
    have := (ofL_in _ h).2.2
    simpa using this
  · intro h
    rw [ofL_split hi h]
    simp
theorem load_at {c : Cir} {pin pst : List Int} (h1 : pin.length = (inputs c).length) (h2 : pst.length = (states c).length) {i : Nat} (hi : i < c.nodes.l.length) :
    (loadL c pin pst).getD i 0 = if kindAt c i = 0 then pin.getD (rankK 0 c i) 0 else if kindAt c i = 14 then pst.getD (rankK 14 c i) 0 else 0 := by
  have n0 := (ofL_nodup [0] c.nodes.l 0).2
  have n14 := (ofL_nodup [14] c.nodes.l 0).2
  have r14 : ∀ n ∈ states c, 0 ≤ n := fun n hn => (ofL_in n hn).1
  have r0 : ∀ n ∈ inputs c, 0 ≤ n := fun n hn => (ofL_in n hn).1
  unfold loadL
  by_cases hk : kindAt c i = 14
  · obtain ⟨a, b⟩ := rank_at hi hk
    have e : (ofL [14] c.nodes.l 0)[rankK 14 c i] = (i : Int) := by rw [← b, getD_eq a]
    have := loadS_at (ns := states c) (vs := pst) (nets := loadS (inputs c) pin (List.replicate c.nodes.l.length 0)) (j := rankK 14 c i) n14 (fun n hn => by rw [loadS_len]; have := ofL_in n hn; simp; omega) h2.symm a
    have e' : (states c)[rankK 14 c i] = (i : Int) := e
    rw [e'] at this
    simp only [Int.toNat_natCast] at this
    rw [this, if_neg (by omega), if_pos hk]
  · have : (i : Int) ∉ states c := fun hm => hk ((mem_ofL hi).1 hm)
    rw [loadS_off r14 this]
    by_cases hk0 : kindAt c i = 0
    · obtain ⟨a, b⟩ := rank_at hi hk0
      have e : (inputs c)[rankK 0 c i]'a = (i : Int) := by show (ofL [0] c.nodes.l 0)[rankK 0 c i] = _; rw [← b, getD_eq a]
      have := loadS_at (ns := inputs c) (vs := pin) (nets := List.replicate c.nodes.l.length 0) (j := rankK 0 c i) n0 (fun n hn => by have := ofL_in n hn; simp; omega) h1.symm a
      rw [e] at this
      simp only [Int.toNat_natCast] at this
      rw [this, if_pos hk0]
    · have : (i : Int) ∉ inputs c := fun hm => hk0 ((mem_ofL hi).1 hm)
      rw [loadS_off r0 this, if_neg hk0, if_neg hk]
      simp [List.getD_eq_getElem?_getD, List.getElem?_replicate]
      split <;> rfl
end Go.Lg
