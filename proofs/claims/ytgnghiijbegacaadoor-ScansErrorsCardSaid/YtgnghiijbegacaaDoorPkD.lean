/- Plain data as trees, and how calls are taken. Conditions: none. -/
import Derived.Test.YtgnghiijbegacaaDoorPkC
import Derived.Test.YtgnghiijbegacaaDoorProg
import Derived.KernelRfl
import Derived.Lib.Bytealg
set_option linter.unusedSimpArgs false
set_option linter.unusedVariables false
namespace Go.Lg
open Go

attribute [simp] onesT onesA T.one AV.one Value.oneCell' flatSt flatL flatA flatT flat1 ret retH
@[simp] theorem int_beq (a b : Int) : (a == b) = decide (a = b) := rfl
@[simp] theorem int_bne (a b : Int) : (a != b) = !decide (a = b) := rfl

@[simp] theorem ba_size (s : List UInt8) : (ByteArray.mk s.toArray).size = s.length := by simp [ByteArray.size]

/-- Lists of one-cell data. -/
def enc1 {α : Type} (f : α → T) (l : List α) : List (List T) := l.map fun n => [f n]
theorem enc1_len {α : Type} {f : α → T} {l : List α} : (enc1 f l).length = l.length := by simp [enc1]
theorem enc1_get {α : Type} {f : α → T} {l : List α} {i : Nat} (d : α) (h : i < l.length) : (enc1 f l)[i]?.getD [] = [f (l[i]?.getD d)] := by simp [enc1, h]
theorem enc1_wid {α : Type} {f : α → T} {l : List α} : wid 1 (enc1 f l) := by
  intro e he; obtain ⟨x, _, rfl⟩ := List.mem_map.1 he; rfl
theorem enc1_app {α : Type} {f : α → T} {l m : List α} : enc1 f l ++ enc1 f m = enc1 f (l ++ m) := by simp [enc1]
theorem enc1_drop {α : Type} {f : α → T} {l : List α} {n : Nat} : (enc1 f l).drop n = enc1 f (l.drop n) := by simp [enc1, List.map_drop]
theorem enc1_take {α : Type} {f : α → T} {l : List α} {n : Nat} : (enc1 f l).take n = enc1 f (l.take n) := by simp [enc1, List.map_take]
theorem enc1_set {α : Type} {f : α → T} {l : List α} {n : Nat} {x : α} : (enc1 f l).set n [f x] = enc1 f (l.set n x) := by simp [enc1, List.map_set]
theorem enc1_nil {α : Type} {f : α → T} : enc1 f [] = [] := rfl

@[simp] theorem wid_nil {s : Nat} : wid s [] := fun e h => by cases h

/-- Lists of data of several cells. -/
def encN {α : Type} (f : α → List T) (l : List α) : List (List T) := l.map f
theorem encN_len {α : Type} {f : α → List T} {l : List α} : (encN f l).length = l.length := by simp [encN]
theorem encN_get {α : Type} {f : α → List T} {l : List α} {i : Nat} (d : α) (h : i < l.length) : (encN f l)[i]?.getD [] = f (l[i]?.getD d) := by simp [encN, h]
theorem encN_wid {α : Type} {f : α → List T} {l : List α} {s : Nat} (h : ∀ x, (f x).length = s) : wid s (encN f l) := by
  intro e he; obtain ⟨x, _, rfl⟩ := List.mem_map.1 he; exact h x
theorem encN_app {α : Type} {f : α → List T} {l m : List α} : encN f l ++ encN f m = encN f (l ++ m) := by simp [encN]

@[simp] theorem enc1_take_len {α : Type} {f : α → T} {l : List α} : (enc1 f l).take l.length = enc1 f l := by rw [List.take_of_length_le (by simp [enc1])]
theorem enc1_snoc {α : Type} {f : α → T} {l : List α} {x : α} : enc1 f l ++ [[f x]] = enc1 f (l ++ [x]) := by simp [enc1]
@[simp] theorem encN_take_len {α : Type} {f : α → List T} {l : List α} : (encN f l).take l.length = encN f l := by rw [List.take_of_length_le (by simp [encN])]
theorem encN_snoc {α : Type} {f : α → List T} {l : List α} {x : α} : encN f l ++ [f x] = encN f (l ++ [x]) := by simp [encN]

/-- A slice: what it holds, its capacity and whether it is nil, where these are known. -/
structure Sl (α : Type) where
  l : List α
  cap : Option Nat
  nl : Option Bool

abbrev tI (n : Int) : T := .v (.int .i64 n)
abbrev tK (n : Int) : T := .v (.int .u8 n)
abbrev tB (b : Bool) : T := .v (.bool b)
abbrev ints (l : List Int) : List (List T) := enc1 tI l
def tSl (s : Sl Int) : T := .sl (ints s.l) s.cap s.nl

@[simp] theorem flatReg_bx {cs : List AV} : flatReg (.bx cs) = ∀ c ∈ cs, flatA c := rfl
@[simp] theorem flatReg_it {s : ByteArray} {p : Nat} : flatReg (.it s p) = True := rfl
@[simp] theorem flatReg_nil {ty s : Nat} : flatReg (.sl ty s []) = True := by simp [flatReg]
theorem flatReg_enc1 {α : Type} {f : α → T} {l : List α} {ty s : Nat} (h : ∀ x, flatT (f x) = true) : flatReg (.sl ty s (enc1 f l)) := by
  intro e he t ht
  obtain ⟨x, _, rfl⟩ := List.mem_map.1 he
  simp only [List.mem_singleton] at ht; subst ht; exact h x
@[simp] theorem flatReg_I {l : List Int} {ty s : Nat} : flatReg (.sl ty s (enc1 tI l)) = True := eq_true (flatReg_enc1 fun _ => rfl)
@[simp] theorem flatReg_K {l : List Int} {ty s : Nat} : flatReg (.sl ty s (enc1 tK l)) = True := eq_true (flatReg_enc1 fun _ => rfl)
@[simp] theorem flatReg_B {l : List Bool} {ty s : Nat} : flatReg (.sl ty s (enc1 tB l)) = True := eq_true (flatReg_enc1 fun _ => rfl)
section
variable {P : Program} {Γ : Tables} {hp : List (Nat × Reg)} {f : FuncId} {avs : List AV} {K : T → Prop} {ts : List T} {res : T}

theorem callK_pure (h : PureCalls P Γ f ts res) (ht : optAll (avs.map toT) = some ts) (hk : K res) : callK P Γ hp f avs K ⟨⟩ := ⟨res, .inl ⟨ts, ht, h⟩, hk⟩
theorem callK_fresh (h : FreshCalls P Γ f ts res) (ht : optAll (avs.map (reify hp 4)) = some ts) (hk : K res) : callK P Γ hp f avs K ⟨⟩ := ⟨res, .inr ⟨ts, ht, h⟩, hk⟩

theorem run_pureQ {ic : IC} {N n : Nat} {rvs : List RV} {args : List T} (hc : chkF P f ic N n rvs = true) (hn : args.length = n) (h : run P Γ ic (ret false rvs fun r => r = res) ⟨params 0 args, []⟩) : PureCalls P Γ f args res := by
  obtain ⟨r, h1, rfl⟩ := run_pure hc hn h; exact h1
theorem run_freshQ {ic : IC} {N n : Nat} {rvs : List RV} {args : List T} (hc : chkF P f ic N n rvs = true) (hn : args.length = n) (h : run P Γ ic (ret true rvs fun r => r = res) ⟨params 0 args, []⟩) : FreshCalls P Γ f args res := by
  obtain ⟨r, h1, rfl⟩ := run_fresh hc hn h; exact h1
theorem run_handQ {ic : IC} {N n : Nat} {rvs : List RV} {args : List AV} {r0 : AV} {hp' : List (Nat × Reg)} (hc : chkF P f ic N n rvs = true) (hn : args.length = n) (h : run P Γ ic (retH rvs fun r h => r = r0 ∧ h = hp') ⟨avps 0 args, hp⟩) : HCalls P Γ f hp args r0 hp' := by
  obtain ⟨r, h', h1, rfl, rfl⟩ := run_hand hc hn h; exact h1
end
end Go.Lg

/- The abstract code of some functions, as the program gen.py prints it. Conditions: none. -/
set_option linter.unusedVariables false
namespace Go.Lg
open Go
section
variable {P : Program} {Γ : Tables} {Q : AX → St → Prop} {s : St}
/- probecard/netlists.Check (function 14) -/
def netlists_Check_r0 : List RO := [
    ⟨some 1, .box true (.tmp 0), none, none⟩,
    ⟨some 2, .mv (.const (.int .i64 0)), none, none⟩]
def netlists_Check_r1 : List RO := [
    ⟨some 6, .load 4 true (.tmp 1), none, none⟩,
    ⟨some 7, .call 45 [(.tmp 6)], none, none⟩,
    ⟨some 5, .mv (.tmp 7), none, none⟩,
    ⟨some 8, .ext (.tmp 5) 0, none, none⟩,
    ⟨some 9, .ext (.tmp 5) 1, none, none⟩,
    ⟨some 3, .mv (.tmp 8), none, none⟩,
    ⟨some 4, .mv (.tmp 9), none, none⟩]
def netlists_Check_r2 : List RO := [
    ⟨some 10, .mv (.tmp 4), none, none⟩,
    ⟨some 2, .mv (.tmp 10), none, none⟩]
def netlists_Check_ic : IC := (.seq (.reg netlists_Check_r0 [.keep [1] []]) (.seq (.reg netlists_Check_r1 [.keep [4] []]) (.seq (.reg netlists_Check_r2 [.keep [2] []]) .ret)))
@[simp ↓] theorem netlists_Check_ic_run : run P Γ netlists_Check_ic Q s = run P Γ (.seq (.reg netlists_Check_r0 [.keep [1] []]) (.seq (.reg netlists_Check_r1 [.keep [4] []]) (.seq (.reg netlists_Check_r2 [.keep [2] []]) .ret))) Q s := Eq.trans rfl rfl
attribute [simp] netlists_Check_r0 netlists_Check_r1 netlists_Check_r2
def netlists_Check_rv : List RV := [.tmp 2]

/- probecard/netlists.Of (function 15) -/
def netlists_Of_r0 : List RO := [
    ⟨some 2, .box true (.tmp 0), none, none⟩,
    ⟨some 4, .mv (.const (.slice none 0 0)), none, none⟩]
def netlists_Of_r1 : List RO := [
    ⟨some 5, .mv (.const (.slice none 0 0)), none, none⟩]
def netlists_Of_r2 : List RO := [
    ⟨some 8, .fadr 0 (.tmp 2), none, none⟩,
    ⟨some 9, .load 1 false (.tmp 8), none, none⟩,
    ⟨some 10, .len 0 (.tmp 9), none, none⟩,
    ⟨some 11, .mv (.const (.int .i64 0)), none, none⟩]
def netlists_Of_r3 : List RO := [
    ⟨some 12, .bin .lss (.tmp 11) (.tmp 10), none, none⟩]
def netlists_Of_r4 : List RO := [
    ⟨some 13, .mv (.tmp 11), none, none⟩,
    ⟨some 14, .iadr 4 (.tmp 9) (.tmp 11), none, none⟩,
    ⟨some 15, .load 4 true (.tmp 14), none, none⟩,
    ⟨some 7, .alloc false [(.int .u8 0), (.slice none 0 0), (.int .i64 0), (.int .i64 0)], none, none⟩,
    ⟨some 6, .mv (.tmp 13), none, none⟩,
    ⟨none, .store 4 (.tmp 7) (.tmp 15), none, none⟩]
def netlists_Of_r5 : List RO := [
    ⟨some 16, .mv (.tmp 1), none, none⟩,
    ⟨some 17, .fadr 0 (.tmp 7), none, none⟩,
    ⟨some 18, .load 1 false (.tmp 17), none, none⟩,
    ⟨some 19, .call 46 [(.tmp 16), (.tmp 18)], none, none⟩]
def netlists_Of_r6 : List RO := [
    ⟨some 20, .mv (.tmp 5), none, none⟩,
    ⟨some 21, .mv (.tmp 6), none, none⟩,
    ⟨some 22, .bsl true 3 1 [(.tmp 21)], none, none⟩,
    ⟨some 23, .app false 3 1 (.tmp 20) (.tmp 22), none, none⟩,
    ⟨some 5, .mv (.tmp 23), none, none⟩]
def netlists_Of_r7 : List RO := [
    ⟨some 24, .bin .add (.tmp 11) (.const (.int .i64 1)), none, none⟩,
    ⟨some 11, .mv (.tmp 24), none, none⟩]
def netlists_Of_g0 : IC := .gh (.seq (.reg netlists_Of_r3 [.keep [1, 5, 9, 10, 11, 12] [23]]) (.seq (.cond (.tmp 12) .skip (.exit 0)) (.seq (.block 1 (.seq (.reg netlists_Of_r4 [.keep [1, 5, 6, 7, 9, 10, 11] [7, 23]]) (.seq (.reg netlists_Of_r5 [.keep [1, 5, 6, 9, 10, 11, 19] [23]]) (.cond (.tmp 19) (.reg netlists_Of_r6 [.keep [1, 5, 9, 10, 11] [23]]) .skip)))) (.reg netlists_Of_r7 [.keep [1, 5, 9, 10, 11] [23]])))) [.keep [1, 5, 9, 10, 11] [23]]
def netlists_Of_l1 : IC := .loop netlists_Of_g0
def netlists_Of_r8 : List RO := [
    ⟨some 25, .mv (.tmp 5), none, none⟩,
    ⟨some 26, .hcall 42 [(.tmp 25)] [23] 26000, none, none⟩,
    ⟨some 4, .mv (.tmp 26), none, none⟩]
def netlists_Of_ic : IC := (.seq (.reg netlists_Of_r0 [.keep [1, 2] []]) (.seq (.reg netlists_Of_r1 [.nl 5 23 3 1, .keep [1, 2, 5] [23]]) (.seq (.seq (.reg netlists_Of_r2 [.keep [1, 5, 9, 10, 11] [23]]) (.block 0 netlists_Of_l1)) (.seq (.reg netlists_Of_r8 [.keep [4] [23]]) .ret))))
@[simp ↓] theorem netlists_Of_g0_run : run P Γ netlists_Of_g0 Q s = run P Γ (.gh (.seq (.reg netlists_Of_r3 [.keep [1, 5, 9, 10, 11, 12] [23]]) (.seq (.cond (.tmp 12) .skip (.exit 0)) (.seq (.block 1 (.seq (.reg netlists_Of_r4 [.keep [1, 5, 6, 7, 9, 10, 11] [7, 23]]) (.seq (.reg netlists_Of_r5 [.keep [1, 5, 6, 9, 10, 11, 19] [23]]) (.cond (.tmp 19) (.reg netlists_Of_r6 [.keep [1, 5, 9, 10, 11] [23]]) .skip)))) (.reg netlists_Of_r7 [.keep [1, 5, 9, 10, 11] [23]])))) [.keep [1, 5, 9, 10, 11] [23]]) Q s := Eq.trans rfl rfl
@[simp ↓] theorem netlists_Of_ic_run : run P Γ netlists_Of_ic Q s = run P Γ (.seq (.reg netlists_Of_r0 [.keep [1, 2] []]) (.seq (.reg netlists_Of_r1 [.nl 5 23 3 1, .keep [1, 2, 5] [23]]) (.seq (.seq (.reg netlists_Of_r2 [.keep [1, 5, 9, 10, 11] [23]]) (.block 0 netlists_Of_l1)) (.seq (.reg netlists_Of_r8 [.keep [4] [23]]) .ret)))) Q s := Eq.trans rfl rfl
theorem netlists_Of_l1_run (h : ∀ K : St → Prop, K = run P Γ netlists_Of_l1 Q → run P Γ netlists_Of_g0 (thenX K Q) s) : run P Γ netlists_Of_l1 Q s := run_loop h
attribute [simp] netlists_Of_r0 netlists_Of_r1 netlists_Of_r2 netlists_Of_r3 netlists_Of_r4 netlists_Of_r5 netlists_Of_r6 netlists_Of_r7 netlists_Of_r8
def netlists_Of_rv : List RV := [.tmp 4]

/- probecard/netlists.States (function 17) -/
def netlists_States_r0 : List RO := [
    ⟨some 1, .box true (.tmp 0), none, none⟩,
    ⟨some 2, .mv (.const (.slice none 0 0)), none, none⟩]
def netlists_States_r1 : List RO := [
    ⟨some 3, .load 4 true (.tmp 1), none, none⟩,
    ⟨some 4, .bsl true 41 1 [(.const (.int .u8 14))], none, none⟩,
    ⟨some 5, .call 15 [(.tmp 3), (.tmp 4)], none, none⟩,
    ⟨some 2, .mv (.tmp 5), none, none⟩]
def netlists_States_ic : IC := (.seq (.reg netlists_States_r0 [.keep [1] []]) (.seq (.reg netlists_States_r1 [.keep [2] []]) .ret))
@[simp ↓] theorem netlists_States_ic_run : run P Γ netlists_States_ic Q s = run P Γ (.seq (.reg netlists_States_r0 [.keep [1] []]) (.seq (.reg netlists_States_r1 [.keep [2] []]) .ret)) Q s := Eq.trans rfl rfl
attribute [simp] netlists_States_r0 netlists_States_r1
def netlists_States_rv : List RV := [.tmp 2]

/- probecard/netlists.Comb (function 35) -/
def netlists_Comb_r0 : List RO := [
    ⟨some 2, .mv (.const (.bool false)), none, none⟩]
def netlists_Comb_r1 : List RO := [
    ⟨some 3, .mv (.tmp 0), none, none⟩,
    ⟨some 4, .bin .geq (.tmp 3) (.const (.int .u8 1)), none, none⟩,
    ⟨some 5, .mv (.tmp 4), none, none⟩,
    ⟨some 6, .mv (.tmp 0), some (5, true), none⟩,
    ⟨some 7, .bin .leq (.tmp 6) (.const (.int .u8 13)), some (5, true), none⟩,
    ⟨some 8, .pick (.tmp 5) (.tmp 7) (.const (.bool false)), none, none⟩,
    ⟨some 2, .mv (.tmp 8), none, none⟩]
def netlists_Comb_ic : IC := (.seq (.reg netlists_Comb_r0 [.keep [0] []]) (.seq (.reg netlists_Comb_r1 [.keep [2] []]) .ret))
@[simp ↓] theorem netlists_Comb_ic_run : run P Γ netlists_Comb_ic Q s = run P Γ (.seq (.reg netlists_Comb_r0 [.keep [0] []]) (.seq (.reg netlists_Comb_r1 [.keep [2] []]) .ret)) Q s := Eq.trans rfl rfl
attribute [simp] netlists_Comb_r0 netlists_Comb_r1
def netlists_Comb_rv : List RV := [.tmp 2]

/- slices.Clip[[]int,int] (function 42) -/
def slices_Clip_int_r0 : List RO := [
    ⟨some 2, .mv (.const (.slice none 0 0)), none, none⟩]
def slices_Clip_int_r1 : List RO := [
    ⟨some 3, .mv (.tmp 0), none, none⟩,
    ⟨some 4, .mv (.tmp 0), none, none⟩,
    ⟨some 5, .len 0 (.tmp 4), none, none⟩,
    ⟨some 6, .mv (.tmp 0), none, none⟩,
    ⟨some 7, .len 0 (.tmp 6), none, none⟩,
    ⟨some 8, .slice 1 (.tmp 3) none (some (.tmp 5)) (some (.tmp 7)), none, none⟩,
    ⟨some 2, .mv (.tmp 8), none, none⟩]
def slices_Clip_int_ic : IC := (.seq (.reg slices_Clip_int_r0 [.keep [0] [1000000]]) (.seq (.reg slices_Clip_int_r1 [.keep [2] [1000000]]) .ret))
@[simp ↓] theorem slices_Clip_int_ic_run : run P Γ slices_Clip_int_ic Q s = run P Γ (.seq (.reg slices_Clip_int_r0 [.keep [0] [1000000]]) (.seq (.reg slices_Clip_int_r1 [.keep [2] [1000000]]) .ret)) Q s := Eq.trans rfl rfl
attribute [simp] slices_Clip_int_r0 slices_Clip_int_r1
def slices_Clip_int_rv : List RV := [.tmp 2]

/- slices.Clip[[][]int,[]int] (function 44) -/
def slices_Clip_ints_r0 : List RO := [
    ⟨some 2, .mv (.const (.slice none 0 0)), none, none⟩]
def slices_Clip_ints_r1 : List RO := [
    ⟨some 3, .mv (.tmp 0), none, none⟩,
    ⟨some 4, .mv (.tmp 0), none, none⟩,
    ⟨some 5, .len 0 (.tmp 4), none, none⟩,
    ⟨some 6, .mv (.tmp 0), none, none⟩,
    ⟨some 7, .len 0 (.tmp 6), none, none⟩,
    ⟨some 8, .slice 1 (.tmp 3) none (some (.tmp 5)) (some (.tmp 7)), none, none⟩,
    ⟨some 2, .mv (.tmp 8), none, none⟩]
def slices_Clip_ints_ic : IC := (.seq (.reg slices_Clip_ints_r0 [.keep [0] []]) (.seq (.reg slices_Clip_ints_r1 [.keep [2] []]) .ret))
@[simp ↓] theorem slices_Clip_ints_ic_run : run P Γ slices_Clip_ints_ic Q s = run P Γ (.seq (.reg slices_Clip_ints_r0 [.keep [0] []]) (.seq (.reg slices_Clip_ints_r1 [.keep [2] []]) .ret)) Q s := Eq.trans rfl rfl
attribute [simp] slices_Clip_ints_r0 slices_Clip_ints_r1
def slices_Clip_ints_rv : List RV := [.tmp 2]

/- probecard/netlists.Levels (function 45) -/
def netlists_Levels_r0 : List RO := [
    ⟨some 1, .box true (.tmp 0), none, none⟩,
    ⟨some 2, .mv (.const (.slice none 0 0)), none, none⟩,
    ⟨some 3, .mv (.const (.int .i64 0)), none, none⟩]
def netlists_Levels_r1 : List RO := [
    ⟨some 15, .load 4 true (.tmp 1), none, none⟩,
    ⟨some 16, .call 76 [(.tmp 15)], none, none⟩,
    ⟨some 4, .mv (.tmp 16), none, none⟩]
def netlists_Levels_r2 : List RO := [
    ⟨some 17, .mv (.tmp 4), none, none⟩,
    ⟨some 18, .bin .neq (.tmp 17) (.const (.int .i64 0)), none, none⟩]
def netlists_Levels_r3 : List RO := [
    ⟨some 19, .mv (.tmp 4), none, none⟩,
    ⟨some 2, .mv (.const (.slice none 0 0)), none, none⟩,
    ⟨some 3, .mv (.tmp 19), none, none⟩]
def netlists_Levels_r4 : List RO := [
    ⟨some 20, .fadr 0 (.tmp 1), none, none⟩,
    ⟨some 21, .load 1 false (.tmp 20), none, none⟩,
    ⟨some 22, .len 0 (.tmp 21), none, none⟩,
    ⟨some 23, .mk 3 1 [(.int .i64 0)] (.tmp 22) (.tmp 22), none, none⟩,
    ⟨some 5, .mv (.tmp 23), none, none⟩]
def netlists_Levels_r5 : List RO := [
    ⟨some 24, .fadr 0 (.tmp 1), none, none⟩,
    ⟨some 25, .load 1 false (.tmp 24), none, none⟩,
    ⟨some 26, .len 0 (.tmp 25), none, none⟩,
    ⟨some 27, .mk 3 1 [(.int .i64 0)] (.tmp 26) (.tmp 26), none, none⟩,
    ⟨some 6, .mv (.tmp 27), none, none⟩]
def netlists_Levels_r6 : List RO := [
    ⟨some 7, .mv (.const (.slice none 0 0)), none, none⟩]
def netlists_Levels_r7 : List RO := [
    ⟨some 28, .fadr 0 (.tmp 1), none, none⟩,
    ⟨some 29, .load 1 false (.tmp 28), none, none⟩,
    ⟨some 30, .len 0 (.tmp 29), none, none⟩,
    ⟨some 31, .mv (.const (.int .i64 0)), none, none⟩]
def netlists_Levels_r8 : List RO := [
    ⟨some 32, .bin .lss (.tmp 31) (.tmp 30), none, none⟩]
def netlists_Levels_r9 : List RO := [
    ⟨some 33, .mv (.tmp 31), none, none⟩,
    ⟨some 34, .iadr 4 (.tmp 29) (.tmp 31), none, none⟩,
    ⟨some 35, .load 4 true (.tmp 34), none, none⟩,
    ⟨some 9, .alloc false [(.int .u8 0), (.slice none 0 0), (.int .i64 0), (.int .i64 0)], none, none⟩,
    ⟨some 8, .mv (.tmp 33), none, none⟩,
    ⟨none, .store 4 (.tmp 9) (.tmp 35), none, none⟩]
def netlists_Levels_r10 : List RO := [
    ⟨some 36, .fadr 0 (.tmp 9), none, none⟩,
    ⟨some 37, .load 1 false (.tmp 36), none, none⟩,
    ⟨some 38, .call 35 [(.tmp 37)], none, none⟩]
def netlists_Levels_r11 : List RO := [
    ⟨some 39, .mv (.tmp 6), none, none⟩,
    ⟨some 40, .mv (.tmp 8), none, none⟩,
    ⟨some 41, .fadr 1 (.tmp 9), none, none⟩,
    ⟨some 42, .load 1 false (.tmp 41), none, none⟩,
    ⟨some 43, .len 0 (.tmp 42), none, none⟩,
    ⟨some 44, .iadr 1 (.tmp 39) (.tmp 40), none, none⟩,
    ⟨none, .store 1 (.tmp 44) (.tmp 43), none, none⟩]
def netlists_Levels_r12 : List RO := [
    ⟨some 45, .mv (.tmp 6), none, none⟩,
    ⟨some 46, .mv (.tmp 8), none, none⟩,
    ⟨some 47, .iadr 1 (.tmp 45) (.tmp 46), none, none⟩,
    ⟨some 48, .load 1 false (.tmp 47), none, none⟩,
    ⟨some 49, .bin .eql (.tmp 48) (.const (.int .i64 0)), none, none⟩]
def netlists_Levels_r13 : List RO := [
    ⟨some 50, .mv (.tmp 7), none, none⟩,
    ⟨some 51, .mv (.tmp 8), none, none⟩,
    ⟨some 52, .bsl true 3 1 [(.tmp 51)], none, none⟩,
    ⟨some 53, .app false 3 1 (.tmp 50) (.tmp 52), none, none⟩,
    ⟨some 7, .mv (.tmp 53), none, none⟩]
def netlists_Levels_r14 : List RO := [
    ⟨some 54, .bin .add (.tmp 31) (.const (.int .i64 1)), none, none⟩,
    ⟨some 31, .mv (.tmp 54), none, none⟩]
def netlists_Levels_g0 : IC := .gh (.seq (.reg netlists_Levels_r8 [.keep [1, 5, 6, 7, 29, 30, 31, 32] [23, 27, 53]]) (.seq (.cond (.tmp 32) .skip (.exit 0)) (.seq (.block 1 (.seq (.reg netlists_Levels_r9 [.keep [1, 5, 6, 7, 8, 9, 29, 30, 31] [9, 23, 27, 53]]) (.seq (.seq (.reg netlists_Levels_r10 [.keep [1, 5, 6, 7, 8, 9, 29, 30, 31, 38] [9, 23, 27, 53]]) (.cond (.tmp 38) (.reg netlists_Levels_r11 [.keep [1, 5, 6, 7, 8, 29, 30, 31] [23, 27, 53]]) .skip)) (.seq (.reg netlists_Levels_r12 [.keep [1, 5, 6, 7, 8, 29, 30, 31, 49] [23, 27, 53]]) (.cond (.tmp 49) (.reg netlists_Levels_r13 [.keep [1, 5, 6, 7, 29, 30, 31] [23, 27, 53]]) .skip))))) (.reg netlists_Levels_r14 [.keep [1, 5, 6, 7, 29, 30, 31] [23, 27, 53]])))) [.keep [1, 5, 6, 7, 29, 30, 31] [23, 27, 53]]
def netlists_Levels_l1 : IC := .loop netlists_Levels_g0
def netlists_Levels_r15 : List RO := [
    ⟨some 55, .load 4 true (.tmp 1), none, none⟩,
    ⟨some 56, .call 77 [(.tmp 55)], none, none⟩,
    ⟨some 10, .mv (.tmp 56), none, none⟩]
def netlists_Levels_r16 : List RO := [
    ⟨some 11, .mv (.const (.int .i64 0)), none, none⟩]
def netlists_Levels_r17 : List RO := [
    ⟨some 57, .mv (.tmp 11), none, none⟩,
    ⟨some 58, .mv (.tmp 7), none, none⟩,
    ⟨some 59, .len 0 (.tmp 58), none, none⟩,
    ⟨some 60, .bin .lss (.tmp 57) (.tmp 59), none, none⟩]
def netlists_Levels_r18 : List RO := [
    ⟨some 61, .mv (.tmp 7), none, none⟩,
    ⟨some 62, .mv (.tmp 11), none, none⟩,
    ⟨some 63, .iadr 1 (.tmp 61) (.tmp 62), none, none⟩,
    ⟨some 64, .load 1 false (.tmp 63), none, none⟩,
    ⟨some 12, .mv (.tmp 64), none, none⟩]
def netlists_Levels_r19 : List RO := [
    ⟨some 65, .mv (.tmp 11), none, none⟩,
    ⟨some 66, .bin .add (.tmp 65) (.const (.int .i64 1)), none, none⟩,
    ⟨some 11, .mv (.tmp 66), none, none⟩]
def netlists_Levels_r20 : List RO := [
    ⟨some 67, .mv (.tmp 10), none, none⟩,
    ⟨some 68, .mv (.tmp 12), none, none⟩,
    ⟨some 69, .iadr 1 (.tmp 67) (.tmp 68), none, none⟩,
    ⟨some 70, .load 1 false (.tmp 69), none, none⟩,
    ⟨some 71, .len 0 (.tmp 70), none, none⟩,
    ⟨some 72, .bin .eql (.tmp 71) (.const (.int .i64 0)), none, none⟩]
def netlists_Levels_r21 : List RO := [
    ⟨some 73, .mv (.tmp 10), none, none⟩,
    ⟨some 74, .mv (.tmp 12), none, none⟩,
    ⟨some 75, .iadr 1 (.tmp 73) (.tmp 74), none, none⟩,
    ⟨some 76, .load 1 false (.tmp 75), none, none⟩,
    ⟨some 77, .len 0 (.tmp 76), none, none⟩,
    ⟨some 78, .mv (.const (.int .i64 0)), none, none⟩]
def netlists_Levels_r22 : List RO := [
    ⟨some 79, .bin .lss (.tmp 78) (.tmp 77), none, none⟩]
def netlists_Levels_r23 : List RO := [
    ⟨some 80, .iadr 2 (.tmp 76) (.tmp 78), none, none⟩,
    ⟨some 81, .load 2 true (.tmp 80), none, none⟩,
    ⟨some 14, .alloc false [(.int .i64 0), (.int .i64 0)], none, none⟩,
    ⟨none, .store 2 (.tmp 14) (.tmp 81), none, none⟩]
def netlists_Levels_r24 : List RO := [
    ⟨some 82, .fadr 0 (.tmp 1), none, none⟩,
    ⟨some 83, .load 1 false (.tmp 82), none, none⟩,
    ⟨some 84, .fadr 0 (.tmp 14), none, none⟩,
    ⟨some 85, .load 1 false (.tmp 84), none, none⟩,
    ⟨some 86, .iadr 4 (.tmp 83) (.tmp 85), none, none⟩,
    ⟨some 87, .fadr 0 (.tmp 86), none, none⟩,
    ⟨some 88, .load 1 false (.tmp 87), none, none⟩,
    ⟨some 89, .call 35 [(.tmp 88)], none, none⟩,
    ⟨some 90, .un .not (.tmp 89), none, none⟩]
def netlists_Levels_r25 : List RO := [
    ⟨some 91, .mv (.tmp 5), none, none⟩,
    ⟨some 92, .fadr 0 (.tmp 14), none, none⟩,
    ⟨some 93, .ldR 14 1 false (.tmp 92), none, none⟩,
    ⟨some 94, .mv (.tmp 5), none, none⟩,
    ⟨some 95, .fadr 0 (.tmp 14), none, none⟩,
    ⟨some 96, .ldR 14 1 false (.tmp 95), none, none⟩,
    ⟨some 97, .iadr 1 (.tmp 94) (.tmp 96), none, none⟩,
    ⟨some 98, .ldR 23 1 false (.tmp 97), none, none⟩,
    ⟨some 99, .mv (.tmp 5), none, none⟩,
    ⟨some 100, .mv (.tmp 12), none, none⟩,
    ⟨some 101, .iadr 1 (.tmp 99) (.tmp 100), none, none⟩,
    ⟨some 102, .ldR 23 1 false (.tmp 101), none, none⟩,
    ⟨some 103, .bin .add (.tmp 102) (.const (.int .i64 1)), none, none⟩,
    ⟨some 104, .mmx true [(.tmp 98), (.tmp 103)], none, none⟩,
    ⟨some 105, .iadr 1 (.tmp 91) (.tmp 93), none, none⟩,
    ⟨none, .stR 23 1 (.tmp 105) (.tmp 104), none, none⟩]
def netlists_Levels_r26 : List RO := [
    ⟨some 106, .mv (.tmp 6), none, none⟩,
    ⟨some 107, .fadr 0 (.tmp 14), none, none⟩,
    ⟨some 108, .load 1 false (.tmp 107), none, none⟩,
    ⟨some 109, .iadr 1 (.tmp 106) (.tmp 108), none, none⟩,
    ⟨some 110, .load 1 false (.tmp 109), none, none⟩,
    ⟨some 111, .bin .sub (.tmp 110) (.const (.int .i64 1)), none, none⟩,
    ⟨some 112, .iadr 1 (.tmp 106) (.tmp 108), none, none⟩,
    ⟨none, .store 1 (.tmp 112) (.tmp 111), none, none⟩]
def netlists_Levels_r27 : List RO := [
    ⟨some 113, .mv (.tmp 6), none, none⟩,
    ⟨some 114, .fadr 0 (.tmp 14), none, none⟩,
    ⟨some 115, .load 1 false (.tmp 114), none, none⟩,
    ⟨some 116, .iadr 1 (.tmp 113) (.tmp 115), none, none⟩,
    ⟨some 117, .load 1 false (.tmp 116), none, none⟩,
    ⟨some 118, .bin .eql (.tmp 117) (.const (.int .i64 0)), none, none⟩]
def netlists_Levels_r28 : List RO := [
    ⟨some 119, .mv (.tmp 7), none, none⟩,
    ⟨some 120, .fadr 0 (.tmp 14), none, none⟩,
    ⟨some 121, .load 1 false (.tmp 120), none, none⟩,
    ⟨some 122, .bsl true 3 1 [(.tmp 121)], none, none⟩,
    ⟨some 123, .app false 3 1 (.tmp 119) (.tmp 122), none, some 53⟩,
    ⟨some 7, .mv (.tmp 123), none, none⟩]
def netlists_Levels_r29 : List RO := [
    ⟨some 124, .bin .add (.tmp 78) (.const (.int .i64 1)), none, none⟩,
    ⟨some 78, .mv (.tmp 124), none, none⟩]
def netlists_Levels_g2 : IC := .gh (.seq (.reg netlists_Levels_r22 [.keep [1, 5, 6, 7, 10, 11, 12, 76, 77, 78, 79] [23, 27, 53]]) (.seq (.cond (.tmp 79) .skip (.exit 4)) (.seq (.block 5 (.seq (.reg netlists_Levels_r23 [.keep [1, 5, 6, 7, 10, 11, 12, 14, 76, 77, 78] [14, 23, 27, 53]]) (.seq (.seq (.reg netlists_Levels_r24 [.keep [1, 5, 6, 7, 10, 11, 12, 14, 76, 77, 78, 90] [14, 23, 27, 53]]) (.cond (.tmp 90) (.exit 5) .skip)) (.seq (.reg netlists_Levels_r25 [.keep [1, 5, 6, 7, 10, 11, 12, 14, 76, 77, 78] [14, 23, 27, 53]]) (.seq (.reg netlists_Levels_r26 [.keep [1, 5, 6, 7, 10, 11, 12, 14, 76, 77, 78] [14, 23, 27, 53]]) (.seq (.reg netlists_Levels_r27 [.keep [1, 5, 6, 7, 10, 11, 12, 14, 76, 77, 78, 118] [14, 23, 27, 53]]) (.cond (.tmp 118) (.reg netlists_Levels_r28 [.keep [1, 5, 6, 7, 10, 11, 12, 76, 77, 78] [23, 27, 53]]) .skip))))))) (.reg netlists_Levels_r29 [.keep [1, 5, 6, 7, 10, 11, 12, 76, 77, 78] [23, 27, 53]])))) [.keep [1, 5, 6, 7, 10, 11, 12, 76, 77, 78] [23, 27, 53]]
def netlists_Levels_l3 : IC := .loop netlists_Levels_g2
def netlists_Levels_g4 : IC := .gh (.seq (.seq (.reg netlists_Levels_r17 [.keep [1, 5, 6, 7, 10, 11, 60] [23, 27, 53]]) (.cond (.tmp 60) .skip (.exit 2))) (.block 3 (.seq (.reg netlists_Levels_r18 [.keep [1, 5, 6, 7, 10, 11, 12] [23, 27, 53]]) (.seq (.reg netlists_Levels_r19 [.keep [1, 5, 6, 7, 10, 11, 12] [23, 27, 53]]) (.seq (.seq (.reg netlists_Levels_r20 [.keep [1, 5, 6, 7, 10, 11, 12, 72] [23, 27, 53]]) (.cond (.tmp 72) (.exit 3) .skip)) (.seq (.reg netlists_Levels_r21 [.keep [1, 5, 6, 7, 10, 11, 12, 76, 77, 78] [23, 27, 53]]) (.block 4 netlists_Levels_l3))))))) [.keep [1, 5, 6, 7, 10, 11] [23, 27, 53]]
def netlists_Levels_l5 : IC := .loop netlists_Levels_g4
def netlists_Levels_r30 : List RO := [
    ⟨some 125, .mv (.tmp 11), none, none⟩,
    ⟨some 126, .fadr 0 (.tmp 1), none, none⟩,
    ⟨some 127, .load 1 false (.tmp 126), none, none⟩,
    ⟨some 128, .len 0 (.tmp 127), none, none⟩,
    ⟨some 129, .bin .lss (.tmp 125) (.tmp 128), none, none⟩]
def netlists_Levels_r31 : List RO := [
    ⟨some 2, .mv (.const (.slice none 0 0)), none, none⟩,
    ⟨some 3, .mv (.const (.int .i64 6)), none, none⟩]
def netlists_Levels_r32 : List RO := [
    ⟨some 130, .mv (.tmp 5), none, none⟩,
    ⟨some 2, .mv (.tmp 130), none, none⟩,
    ⟨some 3, .mv (.const (.int .i64 0)), none, none⟩]
def netlists_Levels_ic : IC := (.seq (.reg netlists_Levels_r0 [.keep [1] []]) (.scope (.seq (.seq (.reg netlists_Levels_r1 [.keep [1, 4] []]) (.seq (.reg netlists_Levels_r2 [.keep [1, 4, 18] []]) (.cond (.tmp 18) (.seq (.reg netlists_Levels_r3 [.keep [2, 3] [23]]) .ret) .skip))) (.seq (.reg netlists_Levels_r4 [.keep [1, 5] [23]]) (.seq (.reg netlists_Levels_r5 [.keep [1, 5, 6] [23, 27]]) (.seq (.reg netlists_Levels_r6 [.nl 7 53 3 1, .keep [1, 5, 6, 7] [23, 27, 53]]) (.seq (.seq (.reg netlists_Levels_r7 [.keep [1, 5, 6, 7, 29, 30, 31] [23, 27, 53]]) (.block 0 netlists_Levels_l1)) (.seq (.reg netlists_Levels_r15 [.keep [1, 5, 6, 7, 10] [23, 27, 53]]) (.seq (.reg netlists_Levels_r16 [.keep [1, 5, 6, 7, 10, 11] [23, 27, 53]]) (.seq .skip (.seq (.block 2 netlists_Levels_l5) (.seq (.seq (.reg netlists_Levels_r30 [.keep [5, 129] [23]]) (.cond (.tmp 129) (.seq (.reg netlists_Levels_r31 [.keep [2, 3] [23]]) .ret) .skip)) (.seq (.reg netlists_Levels_r32 [.keep [2, 3] [23]]) .ret)))))))))))))
@[simp ↓] theorem netlists_Levels_g0_run : run P Γ netlists_Levels_g0 Q s = run P Γ (.gh (.seq (.reg netlists_Levels_r8 [.keep [1, 5, 6, 7, 29, 30, 31, 32] [23, 27, 53]]) (.seq (.cond (.tmp 32) .skip (.exit 0)) (.seq (.block 1 (.seq (.reg netlists_Levels_r9 [.keep [1, 5, 6, 7, 8, 9, 29, 30, 31] [9, 23, 27, 53]]) (.seq (.seq (.reg netlists_Levels_r10 [.keep [1, 5, 6, 7, 8, 9, 29, 30, 31, 38] [9, 23, 27, 53]]) (.cond (.tmp 38) (.reg netlists_Levels_r11 [.keep [1, 5, 6, 7, 8, 29, 30, 31] [23, 27, 53]]) .skip)) (.seq (.reg netlists_Levels_r12 [.keep [1, 5, 6, 7, 8, 29, 30, 31, 49] [23, 27, 53]]) (.cond (.tmp 49) (.reg netlists_Levels_r13 [.keep [1, 5, 6, 7, 29, 30, 31] [23, 27, 53]]) .skip))))) (.reg netlists_Levels_r14 [.keep [1, 5, 6, 7, 29, 30, 31] [23, 27, 53]])))) [.keep [1, 5, 6, 7, 29, 30, 31] [23, 27, 53]]) Q s := Eq.trans rfl rfl
@[simp ↓] theorem netlists_Levels_g2_run : run P Γ netlists_Levels_g2 Q s = run P Γ (.gh (.seq (.reg netlists_Levels_r22 [.keep [1, 5, 6, 7, 10, 11, 12, 76, 77, 78, 79] [23, 27, 53]]) (.seq (.cond (.tmp 79) .skip (.exit 4)) (.seq (.block 5 (.seq (.reg netlists_Levels_r23 [.keep [1, 5, 6, 7, 10, 11, 12, 14, 76, 77, 78] [14, 23, 27, 53]]) (.seq (.seq (.reg netlists_Levels_r24 [.keep [1, 5, 6, 7, 10, 11, 12, 14, 76, 77, 78, 90] [14, 23, 27, 53]]) (.cond (.tmp 90) (.exit 5) .skip)) (.seq (.reg netlists_Levels_r25 [.keep [1, 5, 6, 7, 10, 11, 12, 14, 76, 77, 78] [14, 23, 27, 53]]) (.seq (.reg netlists_Levels_r26 [.keep [1, 5, 6, 7, 10, 11, 12, 14, 76, 77, 78] [14, 23, 27, 53]]) (.seq (.reg netlists_Levels_r27 [.keep [1, 5, 6, 7, 10, 11, 12, 14, 76, 77, 78, 118] [14, 23, 27, 53]]) (.cond (.tmp 118) (.reg netlists_Levels_r28 [.keep [1, 5, 6, 7, 10, 11, 12, 76, 77, 78] [23, 27, 53]]) .skip))))))) (.reg netlists_Levels_r29 [.keep [1, 5, 6, 7, 10, 11, 12, 76, 77, 78] [23, 27, 53]])))) [.keep [1, 5, 6, 7, 10, 11, 12, 76, 77, 78] [23, 27, 53]]) Q s := Eq.trans rfl rfl
@[simp ↓] theorem netlists_Levels_g4_run : run P Γ netlists_Levels_g4 Q s = run P Γ (.gh (.seq (.seq (.reg netlists_Levels_r17 [.keep [1, 5, 6, 7, 10, 11, 60] [23, 27, 53]]) (.cond (.tmp 60) .skip (.exit 2))) (.block 3 (.seq (.reg netlists_Levels_r18 [.keep [1, 5, 6, 7, 10, 11, 12] [23, 27, 53]]) (.seq (.reg netlists_Levels_r19 [.keep [1, 5, 6, 7, 10, 11, 12] [23, 27, 53]]) (.seq (.seq (.reg netlists_Levels_r20 [.keep [1, 5, 6, 7, 10, 11, 12, 72] [23, 27, 53]]) (.cond (.tmp 72) (.exit 3) .skip)) (.seq (.reg netlists_Levels_r21 [.keep [1, 5, 6, 7, 10, 11, 12, 76, 77, 78] [23, 27, 53]]) (.block 4 netlists_Levels_l3))))))) [.keep [1, 5, 6, 7, 10, 11] [23, 27, 53]]) Q s := Eq.trans rfl rfl
@[simp ↓] theorem netlists_Levels_ic_run : run P Γ netlists_Levels_ic Q s = run P Γ (.seq (.reg netlists_Levels_r0 [.keep [1] []]) (.scope (.seq (.seq (.reg netlists_Levels_r1 [.keep [1, 4] []]) (.seq (.reg netlists_Levels_r2 [.keep [1, 4, 18] []]) (.cond (.tmp 18) (.seq (.reg netlists_Levels_r3 [.keep [2, 3] [23]]) .ret) .skip))) (.seq (.reg netlists_Levels_r4 [.keep [1, 5] [23]]) (.seq (.reg netlists_Levels_r5 [.keep [1, 5, 6] [23, 27]]) (.seq (.reg netlists_Levels_r6 [.nl 7 53 3 1, .keep [1, 5, 6, 7] [23, 27, 53]]) (.seq (.seq (.reg netlists_Levels_r7 [.keep [1, 5, 6, 7, 29, 30, 31] [23, 27, 53]]) (.block 0 netlists_Levels_l1)) (.seq (.reg netlists_Levels_r15 [.keep [1, 5, 6, 7, 10] [23, 27, 53]]) (.seq (.reg netlists_Levels_r16 [.keep [1, 5, 6, 7, 10, 11] [23, 27, 53]]) (.seq .skip (.seq (.block 2 netlists_Levels_l5) (.seq (.seq (.reg netlists_Levels_r30 [.keep [5, 129] [23]]) (.cond (.tmp 129) (.seq (.reg netlists_Levels_r31 [.keep [2, 3] [23]]) .ret) .skip)) (.seq (.reg netlists_Levels_r32 [.keep [2, 3] [23]]) .ret))))))))))))) Q s := Eq.trans rfl rfl
theorem netlists_Levels_l1_run (h : ∀ K : St → Prop, K = run P Γ netlists_Levels_l1 Q → run P Γ netlists_Levels_g0 (thenX K Q) s) : run P Γ netlists_Levels_l1 Q s := run_loop h
theorem netlists_Levels_l3_run (h : ∀ K : St → Prop, K = run P Γ netlists_Levels_l3 Q → run P Γ netlists_Levels_g2 (thenX K Q) s) : run P Γ netlists_Levels_l3 Q s := run_loop h
theorem netlists_Levels_l5_run (h : ∀ K : St → Prop, K = run P Γ netlists_Levels_l5 Q → run P Γ netlists_Levels_g4 (thenX K Q) s) : run P Γ netlists_Levels_l5 Q s := run_loop h
attribute [simp] netlists_Levels_r0 netlists_Levels_r1 netlists_Levels_r2 netlists_Levels_r3 netlists_Levels_r4 netlists_Levels_r5 netlists_Levels_r6 netlists_Levels_r7 netlists_Levels_r8 netlists_Levels_r9 netlists_Levels_r10 netlists_Levels_r11 netlists_Levels_r12 netlists_Levels_r13 netlists_Levels_r14 netlists_Levels_r15 netlists_Levels_r16 netlists_Levels_r17 netlists_Levels_r18 netlists_Levels_r19 netlists_Levels_r20 netlists_Levels_r21 netlists_Levels_r22 netlists_Levels_r23 netlists_Levels_r24 netlists_Levels_r25 netlists_Levels_r26 netlists_Levels_r27 netlists_Levels_r28 netlists_Levels_r29 netlists_Levels_r30 netlists_Levels_r31 netlists_Levels_r32
def netlists_Levels_rv : List RV := [.tmp 2, .tmp 3]

/- slices.Contains[[]probecard/api.Kind,probecard/api.Kind] (function 46) -/
def slices_Contains_api_Kind_r0 : List RO := [
    ⟨some 4, .mv (.const (.bool false)), none, none⟩]
def slices_Contains_api_Kind_r1 : List RO := [
    ⟨some 5, .mv (.tmp 0), none, none⟩,
    ⟨some 6, .mv (.tmp 1), none, none⟩,
    ⟨some 7, .call 78 [(.tmp 5), (.tmp 6)], none, none⟩,
    ⟨some 8, .bin .geq (.tmp 7) (.const (.int .i64 0)), none, none⟩,
    ⟨some 4, .mv (.tmp 8), none, none⟩]
def slices_Contains_api_Kind_ic : IC := (.seq (.reg slices_Contains_api_Kind_r0 [.keep [0, 1] []]) (.seq (.reg slices_Contains_api_Kind_r1 [.keep [4] []]) .ret))
@[simp ↓] theorem slices_Contains_api_Kind_ic_run : run P Γ slices_Contains_api_Kind_ic Q s = run P Γ (.seq (.reg slices_Contains_api_Kind_r0 [.keep [0, 1] []]) (.seq (.reg slices_Contains_api_Kind_r1 [.keep [4] []]) .ret)) Q s := Eq.trans rfl rfl
attribute [simp] slices_Contains_api_Kind_r0 slices_Contains_api_Kind_r1
def slices_Contains_api_Kind_rv : List RV := [.tmp 4]

/- probecard/netlists.shape (function 76) -/
def netlists_shape_r0 : List RO := [
    ⟨some 1, .box true (.tmp 0), none, none⟩,
    ⟨some 2, .mv (.const (.int .i64 0)), none, none⟩]
def netlists_shape_r1 : List RO := [
    ⟨some 11, .fadr 0 (.tmp 1), none, none⟩,
    ⟨some 12, .load 1 false (.tmp 11), none, none⟩,
    ⟨some 13, .len 0 (.tmp 12), none, none⟩,
    ⟨some 14, .bin .gtr (.tmp 13) (.const (.int .i64 16384)), none, none⟩,
    ⟨some 15, .mv (.tmp 14), none, none⟩,
    ⟨some 16, .fadr 2 (.tmp 1), some (15, false), none⟩,
    ⟨some 17, .load 1 false (.tmp 16), some (15, false), none⟩,
    ⟨some 18, .len 0 (.tmp 17), some (15, false), none⟩,
    ⟨some 19, .bin .gtr (.tmp 18) (.const (.int .i64 16)), some (15, false), none⟩,
    ⟨some 20, .pick (.tmp 15) (.const (.bool true)) (.tmp 19), none, none⟩,
    ⟨some 21, .mv (.tmp 20), none, none⟩,
    ⟨some 22, .fadr 3 (.tmp 1), some (21, false), none⟩,
    ⟨some 23, .load 1 false (.tmp 22), some (21, false), none⟩,
    ⟨some 24, .len 0 (.tmp 23), some (21, false), none⟩,
    ⟨some 25, .bin .gtr (.tmp 24) (.const (.int .i64 16384)), some (21, false), none⟩,
    ⟨some 26, .pick (.tmp 21) (.const (.bool true)) (.tmp 25), none, none⟩,
    ⟨some 10, .mv (.tmp 26), none, none⟩]
def netlists_shape_r2 : List RO := [
    ⟨some 2, .mv (.const (.int .i64 3)), none, none⟩]
def netlists_shape_r3 : List RO := [
    ⟨some 28, .fadr 1 (.tmp 1), none, none⟩,
    ⟨some 29, .load 1 false (.tmp 28), none, none⟩,
    ⟨some 30, .len 0 (.tmp 29), none, none⟩,
    ⟨some 31, .fadr 0 (.tmp 1), none, none⟩,
    ⟨some 32, .load 1 false (.tmp 31), none, none⟩,
    ⟨some 33, .len 0 (.tmp 32), none, none⟩,
    ⟨some 34, .bin .neq (.tmp 30) (.tmp 33), none, none⟩,
    ⟨some 27, .mv (.tmp 34), none, none⟩]
def netlists_shape_r4 : List RO := [
    ⟨some 2, .mv (.const (.int .i64 8)), none, none⟩]
def netlists_shape_r5 : List RO := [
    ⟨some 35, .fadr 0 (.tmp 1), none, none⟩,
    ⟨some 36, .load 1 false (.tmp 35), none, none⟩,
    ⟨some 37, .len 0 (.tmp 36), none, none⟩,
    ⟨some 38, .mv (.const (.int .i64 0)), none, none⟩]
def netlists_shape_r6 : List RO := [
    ⟨some 39, .bin .lss (.tmp 38) (.tmp 37), none, none⟩]
def netlists_shape_r7 : List RO := [
    ⟨some 40, .iadr 4 (.tmp 36) (.tmp 38), none, none⟩,
    ⟨some 41, .load 4 true (.tmp 40), none, none⟩,
    ⟨some 4, .alloc false [(.int .u8 0), (.slice none 0 0), (.int .i64 0), (.int .i64 0)], none, none⟩,
    ⟨none, .store 4 (.tmp 4) (.tmp 41), none, none⟩]
def netlists_shape_r8 : List RO := [
    ⟨some 42, .load 4 true (.tmp 1), none, none⟩,
    ⟨some 43, .load 4 true (.tmp 4), none, none⟩,
    ⟨some 44, .call 103 [(.tmp 42), (.tmp 43)], none, none⟩,
    ⟨some 5, .mv (.tmp 44), none, none⟩]
def netlists_shape_r9 : List RO := [
    ⟨some 45, .mv (.tmp 5), none, none⟩,
    ⟨some 46, .bin .neq (.tmp 45) (.const (.int .i64 0)), none, none⟩]
def netlists_shape_r10 : List RO := [
    ⟨some 47, .mv (.tmp 5), none, none⟩,
    ⟨some 2, .mv (.tmp 47), none, none⟩]
def netlists_shape_r11 : List RO := [
    ⟨some 48, .bin .add (.tmp 38) (.const (.int .i64 1)), none, none⟩,
    ⟨some 38, .mv (.tmp 48), none, none⟩]
def netlists_shape_g0 : IC := .gh (.seq (.reg netlists_shape_r6 [.keep [1, 36, 37, 38, 39] []]) (.seq (.cond (.tmp 39) .skip (.exit 1)) (.seq (.block 2 (.seq (.reg netlists_shape_r7 [.keep [1, 4, 36, 37, 38] [4]]) (.seq (.reg netlists_shape_r8 [.keep [1, 5, 36, 37, 38] []]) (.seq (.reg netlists_shape_r9 [.keep [1, 5, 36, 37, 38, 46] []]) (.cond (.tmp 46) (.seq (.reg netlists_shape_r10 [.keep [2] []]) .ret) .skip))))) (.reg netlists_shape_r11 [.keep [1, 36, 37, 38] []])))) [.keep [1, 36, 37, 38] []]
def netlists_shape_l1 : IC := .loop netlists_shape_g0
def netlists_shape_r12 : List RO := [
    ⟨some 49, .load 4 true (.tmp 1), none, none⟩,
    ⟨some 50, .call 104 [(.tmp 49)], none, none⟩,
    ⟨some 6, .mv (.tmp 50), none, none⟩]
def netlists_shape_r13 : List RO := [
    ⟨some 51, .mv (.tmp 6), none, none⟩,
    ⟨some 52, .bin .neq (.tmp 51) (.const (.int .i64 0)), none, none⟩]
def netlists_shape_r14 : List RO := [
    ⟨some 53, .mv (.tmp 6), none, none⟩,
    ⟨some 2, .mv (.tmp 53), none, none⟩]
def netlists_shape_r15 : List RO := [
    ⟨some 54, .fadr 2 (.tmp 1), none, none⟩,
    ⟨some 55, .load 1 false (.tmp 54), none, none⟩,
    ⟨some 56, .len 0 (.tmp 55), none, none⟩,
    ⟨some 57, .mv (.const (.int .i64 0)), none, none⟩]
def netlists_shape_r16 : List RO := [
    ⟨some 58, .bin .lss (.tmp 57) (.tmp 56), none, none⟩]
def netlists_shape_r17 : List RO := [
    ⟨some 59, .iadr 3 (.tmp 55) (.tmp 57), none, none⟩,
    ⟨some 60, .load 3 true (.tmp 59), none, none⟩,
    ⟨some 8, .alloc false [(.slice none 0 0), (.slice none 0 0), (.int .i64 0)], none, none⟩,
    ⟨none, .store 3 (.tmp 8) (.tmp 60), none, none⟩]
def netlists_shape_r18 : List RO := [
    ⟨some 61, .load 4 true (.tmp 1), none, none⟩,
    ⟨some 62, .load 3 true (.tmp 8), none, none⟩,
    ⟨some 63, .call 105 [(.tmp 61), (.tmp 62)], none, none⟩,
    ⟨some 9, .mv (.tmp 63), none, none⟩]
def netlists_shape_r19 : List RO := [
    ⟨some 64, .mv (.tmp 9), none, none⟩,
    ⟨some 65, .bin .neq (.tmp 64) (.const (.int .i64 0)), none, none⟩]
def netlists_shape_r20 : List RO := [
    ⟨some 66, .mv (.tmp 9), none, none⟩,
    ⟨some 2, .mv (.tmp 66), none, none⟩]
def netlists_shape_r21 : List RO := [
    ⟨some 67, .bin .add (.tmp 57) (.const (.int .i64 1)), none, none⟩,
    ⟨some 57, .mv (.tmp 67), none, none⟩]
def netlists_shape_g2 : IC := .gh (.seq (.reg netlists_shape_r16 [.keep [1, 55, 56, 57, 58] []]) (.seq (.cond (.tmp 58) .skip (.exit 3)) (.seq (.block 4 (.seq (.reg netlists_shape_r17 [.keep [1, 8, 55, 56, 57] [8]]) (.seq (.reg netlists_shape_r18 [.keep [1, 9, 55, 56, 57] []]) (.seq (.reg netlists_shape_r19 [.keep [1, 9, 55, 56, 57, 65] []]) (.cond (.tmp 65) (.seq (.reg netlists_shape_r20 [.keep [2] []]) .ret) .skip))))) (.reg netlists_shape_r21 [.keep [1, 55, 56, 57] []])))) [.keep [1, 55, 56, 57] []]
def netlists_shape_l3 : IC := .loop netlists_shape_g2
def netlists_shape_r22 : List RO := [
    ⟨some 68, .fadr 3 (.tmp 1), none, none⟩,
    ⟨some 69, .load 1 false (.tmp 68), none, none⟩,
    ⟨some 70, .load 4 true (.tmp 1), none, none⟩,
    ⟨some 71, .call 107 [(.tmp 70)], none, none⟩,
    ⟨some 72, .call 106 [(.tmp 69), (.tmp 71)], none, none⟩]
def netlists_shape_r23 : List RO := [
    ⟨some 2, .mv (.const (.int .i64 1)), none, none⟩]
def netlists_shape_r24 : List RO := [
    ⟨some 2, .mv (.const (.int .i64 0)), none, none⟩]
def netlists_shape_ic : IC := (.seq (.reg netlists_shape_r0 [.keep [1] []]) (.seq (.block 0 (.seq (.reg netlists_shape_r1 [.keep [1, 10] []]) (.cond (.tmp 10) (.seq (.reg netlists_shape_r2 [.keep [2] []]) .ret) (.seq (.reg netlists_shape_r3 [.keep [1, 27] []]) (.cond (.tmp 27) (.seq (.reg netlists_shape_r4 [.keep [2] []]) .ret) .skip))))) (.seq (.seq (.reg netlists_shape_r5 [.keep [1, 36, 37, 38] []]) (.block 1 netlists_shape_l1)) (.seq (.seq (.reg netlists_shape_r12 [.keep [1, 6] []]) (.seq (.reg netlists_shape_r13 [.keep [1, 6, 52] []]) (.cond (.tmp 52) (.seq (.reg netlists_shape_r14 [.keep [2] []]) .ret) .skip))) (.seq (.seq (.reg netlists_shape_r15 [.keep [1, 55, 56, 57] []]) (.block 3 netlists_shape_l3)) (.seq (.seq (.reg netlists_shape_r22 [.keep [72] []]) (.cond (.tmp 72) (.seq (.reg netlists_shape_r23 [.keep [2] []]) .ret) .skip)) (.seq (.reg netlists_shape_r24 [.keep [2] []]) .ret)))))))
@[simp ↓] theorem netlists_shape_g0_run : run P Γ netlists_shape_g0 Q s = run P Γ (.gh (.seq (.reg netlists_shape_r6 [.keep [1, 36, 37, 38, 39] []]) (.seq (.cond (.tmp 39) .skip (.exit 1)) (.seq (.block 2 (.seq (.reg netlists_shape_r7 [.keep [1, 4, 36, 37, 38] [4]]) (.seq (.reg netlists_shape_r8 [.keep [1, 5, 36, 37, 38] []]) (.seq (.reg netlists_shape_r9 [.keep [1, 5, 36, 37, 38, 46] []]) (.cond (.tmp 46) (.seq (.reg netlists_shape_r10 [.keep [2] []]) .ret) .skip))))) (.reg netlists_shape_r11 [.keep [1, 36, 37, 38] []])))) [.keep [1, 36, 37, 38] []]) Q s := Eq.trans rfl rfl
@[simp ↓] theorem netlists_shape_g2_run : run P Γ netlists_shape_g2 Q s = run P Γ (.gh (.seq (.reg netlists_shape_r16 [.keep [1, 55, 56, 57, 58] []]) (.seq (.cond (.tmp 58) .skip (.exit 3)) (.seq (.block 4 (.seq (.reg netlists_shape_r17 [.keep [1, 8, 55, 56, 57] [8]]) (.seq (.reg netlists_shape_r18 [.keep [1, 9, 55, 56, 57] []]) (.seq (.reg netlists_shape_r19 [.keep [1, 9, 55, 56, 57, 65] []]) (.cond (.tmp 65) (.seq (.reg netlists_shape_r20 [.keep [2] []]) .ret) .skip))))) (.reg netlists_shape_r21 [.keep [1, 55, 56, 57] []])))) [.keep [1, 55, 56, 57] []]) Q s := Eq.trans rfl rfl
@[simp ↓] theorem netlists_shape_ic_run : run P Γ netlists_shape_ic Q s = run P Γ (.seq (.reg netlists_shape_r0 [.keep [1] []]) (.seq (.block 0 (.seq (.reg netlists_shape_r1 [.keep [1, 10] []]) (.cond (.tmp 10) (.seq (.reg netlists_shape_r2 [.keep [2] []]) .ret) (.seq (.reg netlists_shape_r3 [.keep [1, 27] []]) (.cond (.tmp 27) (.seq (.reg netlists_shape_r4 [.keep [2] []]) .ret) .skip))))) (.seq (.seq (.reg netlists_shape_r5 [.keep [1, 36, 37, 38] []]) (.block 1 netlists_shape_l1)) (.seq (.seq (.reg netlists_shape_r12 [.keep [1, 6] []]) (.seq (.reg netlists_shape_r13 [.keep [1, 6, 52] []]) (.cond (.tmp 52) (.seq (.reg netlists_shape_r14 [.keep [2] []]) .ret) .skip))) (.seq (.seq (.reg netlists_shape_r15 [.keep [1, 55, 56, 57] []]) (.block 3 netlists_shape_l3)) (.seq (.seq (.reg netlists_shape_r22 [.keep [72] []]) (.cond (.tmp 72) (.seq (.reg netlists_shape_r23 [.keep [2] []]) .ret) .skip)) (.seq (.reg netlists_shape_r24 [.keep [2] []]) .ret))))))) Q s := Eq.trans rfl rfl
theorem netlists_shape_l1_run (h : ∀ K : St → Prop, K = run P Γ netlists_shape_l1 Q → run P Γ netlists_shape_g0 (thenX K Q) s) : run P Γ netlists_shape_l1 Q s := run_loop h
theorem netlists_shape_l3_run (h : ∀ K : St → Prop, K = run P Γ netlists_shape_l3 Q → run P Γ netlists_shape_g2 (thenX K Q) s) : run P Γ netlists_shape_l3 Q s := run_loop h
attribute [simp] netlists_shape_r0 netlists_shape_r1 netlists_shape_r2 netlists_shape_r3 netlists_shape_r4 netlists_shape_r5 netlists_shape_r6 netlists_shape_r7 netlists_shape_r8 netlists_shape_r9 netlists_shape_r10 netlists_shape_r11 netlists_shape_r12 netlists_shape_r13 netlists_shape_r14 netlists_shape_r15 netlists_shape_r16 netlists_shape_r17 netlists_shape_r18 netlists_shape_r19 netlists_shape_r20 netlists_shape_r21 netlists_shape_r22 netlists_shape_r23 netlists_shape_r24
def netlists_shape_rv : List RV := [.tmp 2]

/- probecard/netlists.Fanout (function 77) -/
def netlists_Fanout_r0 : List RO := [
    ⟨some 1, .box true (.tmp 0), none, none⟩,
    ⟨some 2, .mv (.const (.slice none 0 0)), none, none⟩]
def netlists_Fanout_r1 : List RO := [
    ⟨some 11, .fadr 0 (.tmp 1), none, none⟩,
    ⟨some 12, .load 1 false (.tmp 11), none, none⟩,
    ⟨some 13, .len 0 (.tmp 12), none, none⟩,
    ⟨some 14, .mkB 147 [(.slice none 0 0)] (.tmp 13) (.tmp 13), none, none⟩,
    ⟨some 3, .mv (.tmp 14), none, none⟩]
def netlists_Fanout_r2 : List RO := [
    ⟨some 15, .load 4 true (.tmp 1), none, none⟩,
    ⟨some 16, .call 107 [(.tmp 15)], none, none⟩,
    ⟨some 4, .mv (.tmp 16), none, none⟩]
def netlists_Fanout_r3 : List RO := [
    ⟨some 17, .fadr 0 (.tmp 1), none, none⟩,
    ⟨some 18, .load 1 false (.tmp 17), none, none⟩,
    ⟨some 19, .len 0 (.tmp 18), none, none⟩,
    ⟨some 20, .mv (.const (.int .i64 0)), none, none⟩]
def netlists_Fanout_r4 : List RO := [
    ⟨some 21, .bin .lss (.tmp 20) (.tmp 19), none, none⟩]
def netlists_Fanout_r5 : List RO := [
    ⟨some 22, .mv (.tmp 20), none, none⟩,
    ⟨some 23, .iadr 4 (.tmp 18) (.tmp 20), none, none⟩,
    ⟨some 24, .load 4 true (.tmp 23), none, none⟩,
    ⟨some 6, .alloc false [(.int .u8 0), (.slice none 0 0), (.int .i64 0), (.int .i64 0)], none, none⟩,
    ⟨some 5, .mv (.tmp 22), none, none⟩,
    ⟨none, .store 4 (.tmp 6) (.tmp 24), none, none⟩]
def netlists_Fanout_r6 : List RO := [
    ⟨some 25, .fadr 1 (.tmp 6), none, none⟩,
    ⟨some 26, .load 1 false (.tmp 25), none, none⟩,
    ⟨some 27, .len 0 (.tmp 26), none, none⟩,
    ⟨some 28, .mv (.const (.int .i64 0)), none, none⟩]
def netlists_Fanout_r7 : List RO := [
    ⟨some 29, .bin .lss (.tmp 28) (.tmp 27), none, none⟩]
def netlists_Fanout_r8 : List RO := [
    ⟨some 30, .mv (.tmp 28), none, none⟩,
    ⟨some 31, .iadr 1 (.tmp 26) (.tmp 28), none, none⟩,
    ⟨some 32, .load 1 false (.tmp 31), none, none⟩,
    ⟨some 7, .mv (.tmp 30), none, none⟩,
    ⟨some 8, .mv (.tmp 32), none, none⟩]
def netlists_Fanout_r9 : List RO := [
    ⟨some 33, .mv (.tmp 4), none, none⟩,
    ⟨some 34, .mv (.tmp 8), none, none⟩,
    ⟨some 35, .callv (.tmp 33) [(.tmp 34)], none, none⟩,
    ⟨some 36, .un .not (.tmp 35), none, none⟩]
def netlists_Fanout_r10 : List RO := [
    ⟨some 37, .mv (.tmp 3), none, none⟩,
    ⟨some 38, .mv (.tmp 8), none, none⟩,
    ⟨some 39, .mv (.tmp 3), none, none⟩,
    ⟨some 40, .mv (.tmp 8), none, none⟩,
    ⟨some 41, .iadr 1 (.tmp 39) (.tmp 40), none, none⟩,
    ⟨some 42, .load 1 false (.tmp 41), none, none⟩,
    ⟨some 43, .mv (.tmp 5), none, none⟩,
    ⟨some 44, .mv (.tmp 7), none, none⟩,
    ⟨some 45, .build [(1, (.tmp 43)), (1, (.tmp 44))], none, none⟩,
    ⟨some 46, .bsl true 149 2 [(.tmp 45)], none, none⟩,
    ⟨some 47, .app false 149 2 (.tmp 42) (.tmp 46), none, none⟩,
    ⟨some 48, .iadr 1 (.tmp 37) (.tmp 38), none, none⟩,
    ⟨none, .store 1 (.tmp 48) (.tmp 47), none, none⟩]
def netlists_Fanout_r11 : List RO := [
    ⟨some 49, .bin .add (.tmp 28) (.const (.int .i64 1)), none, none⟩,
    ⟨some 28, .mv (.tmp 49), none, none⟩]
def netlists_Fanout_g0 : IC := .gh (.seq (.reg netlists_Fanout_r7 [.keepB [3, 4, 5, 18, 19, 20, 26, 27, 28, 29] [14] 100000 16384]) (.seq (.cond (.tmp 29) .skip (.exit 2)) (.seq (.block 3 (.seq (.reg netlists_Fanout_r8 [.keepB [3, 4, 5, 7, 8, 18, 19, 20, 26, 27, 28] [14] 100000 16384]) (.seq (.reg netlists_Fanout_r9 [.keepB [3, 4, 5, 7, 8, 18, 19, 20, 26, 27, 28, 36] [14] 100000 16384]) (.cond (.tmp 36) (.reg netlists_Fanout_r10 [.renS 47 100000 8, .keepB [3, 4, 5, 18, 19, 20, 26, 27, 28] [14] 100000 16384]) .skip)))) (.reg netlists_Fanout_r11 [.keepB [3, 4, 5, 18, 19, 20, 26, 27, 28] [14] 100000 16384])))) [.keepB [3, 4, 5, 18, 19, 20, 26, 27, 28] [14] 100000 16384]
def netlists_Fanout_l1 : IC := .loop netlists_Fanout_g0
def netlists_Fanout_r12 : List RO := [
    ⟨some 50, .bin .add (.tmp 20) (.const (.int .i64 1)), none, none⟩,
    ⟨some 20, .mv (.tmp 50), none, none⟩]
def netlists_Fanout_g2 : IC := .gh (.seq (.reg netlists_Fanout_r4 [.keepB [3, 4, 18, 19, 20, 21] [14] 100000 16384]) (.seq (.cond (.tmp 21) .skip (.exit 0)) (.seq (.block 1 (.seq (.reg netlists_Fanout_r5 [.keepB [3, 4, 5, 6, 18, 19, 20] [6, 14] 100000 16384]) (.seq (.reg netlists_Fanout_r6 [.keepB [3, 4, 5, 18, 19, 20, 26, 27, 28] [14] 100000 16384]) (.block 2 netlists_Fanout_l1)))) (.reg netlists_Fanout_r12 [.keepB [3, 4, 18, 19, 20] [14] 100000 16384])))) [.keepB [3, 4, 18, 19, 20] [14] 100000 16384]
def netlists_Fanout_l3 : IC := .loop netlists_Fanout_g2
def netlists_Fanout_r13 : List RO := [
    ⟨some 51, .mv (.tmp 3), none, none⟩,
    ⟨some 52, .len 0 (.tmp 51), none, none⟩,
    ⟨some 53, .mv (.const (.int .i64 0)), none, none⟩]
def netlists_Fanout_r14 : List RO := [
    ⟨some 54, .bin .lss (.tmp 53) (.tmp 52), none, none⟩]
def netlists_Fanout_r15 : List RO := [
    ⟨some 55, .mv (.tmp 53), none, none⟩,
    ⟨some 56, .iadr 1 (.tmp 51) (.tmp 53), none, none⟩,
    ⟨some 57, .load 1 false (.tmp 56), none, none⟩,
    ⟨some 9, .mv (.tmp 55), none, none⟩,
    ⟨some 10, .mv (.tmp 57), none, none⟩]
def netlists_Fanout_r16 : List RO := [
    ⟨some 58, .mv (.tmp 3), none, none⟩,
    ⟨some 59, .mv (.tmp 9), none, none⟩,
    ⟨some 60, .mv (.tmp 10), none, none⟩,
    ⟨some 61, .call 108 [(.tmp 60)], none, none⟩,
    ⟨some 62, .iadr 1 (.tmp 58) (.tmp 59), none, none⟩,
    ⟨none, .store 1 (.tmp 62) (.tmp 61), none, none⟩]
def netlists_Fanout_r17 : List RO := [
    ⟨some 63, .bin .add (.tmp 53) (.const (.int .i64 1)), none, none⟩,
    ⟨some 53, .mv (.tmp 63), none, none⟩]
def netlists_Fanout_g4 : IC := .gh (.seq (.reg netlists_Fanout_r14 [.keep [3, 51, 52, 53, 54] [14, 47]]) (.seq (.cond (.tmp 54) .skip (.exit 4)) (.seq (.block 5 (.seq (.reg netlists_Fanout_r15 [.keep [3, 9, 10, 51, 52, 53] [14, 47]]) (.reg netlists_Fanout_r16 [.keep [3, 51, 52, 53] [14, 47]]))) (.reg netlists_Fanout_r17 [.keep [3, 51, 52, 53] [14, 47]])))) [.keep [3, 51, 52, 53] [14, 47]]
def netlists_Fanout_l5 : IC := .loop netlists_Fanout_g4
def netlists_Fanout_r18 : List RO := [
    ⟨some 64, .mv (.tmp 3), none, none⟩,
    ⟨some 2, .mv (.tmp 64), none, none⟩]
def netlists_Fanout_ic : IC := (.seq (.reg netlists_Fanout_r0 [.keep [1] []]) (.seq (.reg netlists_Fanout_r1 [.keepB [1, 3] [14] 100000 16384]) (.seq (.reg netlists_Fanout_r2 [.keepB [1, 3, 4] [14] 100000 16384]) (.seq (.seq (.reg netlists_Fanout_r3 [.keepB [3, 4, 18, 19, 20] [14] 100000 16384]) (.block 0 netlists_Fanout_l3)) (.seq (.seq (.reg netlists_Fanout_r13 [.frzs 100000 16384, .keep [3, 51, 52, 53] [14, 47]]) (.block 4 netlists_Fanout_l5)) (.seq (.reg netlists_Fanout_r18 [.keep [2] [14, 47]]) .ret))))))
@[simp ↓] theorem netlists_Fanout_g0_run : run P Γ netlists_Fanout_g0 Q s = run P Γ (.gh (.seq (.reg netlists_Fanout_r7 [.keepB [3, 4, 5, 18, 19, 20, 26, 27, 28, 29] [14] 100000 16384]) (.seq (.cond (.tmp 29) .skip (.exit 2)) (.seq (.block 3 (.seq (.reg netlists_Fanout_r8 [.keepB [3, 4, 5, 7, 8, 18, 19, 20, 26, 27, 28] [14] 100000 16384]) (.seq (.reg netlists_Fanout_r9 [.keepB [3, 4, 5, 7, 8, 18, 19, 20, 26, 27, 28, 36] [14] 100000 16384]) (.cond (.tmp 36) (.reg netlists_Fanout_r10 [.renS 47 100000 8, .keepB [3, 4, 5, 18, 19, 20, 26, 27, 28] [14] 100000 16384]) .skip)))) (.reg netlists_Fanout_r11 [.keepB [3, 4, 5, 18, 19, 20, 26, 27, 28] [14] 100000 16384])))) [.keepB [3, 4, 5, 18, 19, 20, 26, 27, 28] [14] 100000 16384]) Q s := Eq.trans rfl rfl
@[simp ↓] theorem netlists_Fanout_g2_run : run P Γ netlists_Fanout_g2 Q s = run P Γ (.gh (.seq (.reg netlists_Fanout_r4 [.keepB [3, 4, 18, 19, 20, 21] [14] 100000 16384]) (.seq (.cond (.tmp 21) .skip (.exit 0)) (.seq (.block 1 (.seq (.reg netlists_Fanout_r5 [.keepB [3, 4, 5, 6, 18, 19, 20] [6, 14] 100000 16384]) (.seq (.reg netlists_Fanout_r6 [.keepB [3, 4, 5, 18, 19, 20, 26, 27, 28] [14] 100000 16384]) (.block 2 netlists_Fanout_l1)))) (.reg netlists_Fanout_r12 [.keepB [3, 4, 18, 19, 20] [14] 100000 16384])))) [.keepB [3, 4, 18, 19, 20] [14] 100000 16384]) Q s := Eq.trans rfl rfl
@[simp ↓] theorem netlists_Fanout_g4_run : run P Γ netlists_Fanout_g4 Q s = run P Γ (.gh (.seq (.reg netlists_Fanout_r14 [.keep [3, 51, 52, 53, 54] [14, 47]]) (.seq (.cond (.tmp 54) .skip (.exit 4)) (.seq (.block 5 (.seq (.reg netlists_Fanout_r15 [.keep [3, 9, 10, 51, 52, 53] [14, 47]]) (.reg netlists_Fanout_r16 [.keep [3, 51, 52, 53] [14, 47]]))) (.reg netlists_Fanout_r17 [.keep [3, 51, 52, 53] [14, 47]])))) [.keep [3, 51, 52, 53] [14, 47]]) Q s := Eq.trans rfl rfl
@[simp ↓] theorem netlists_Fanout_ic_run : run P Γ netlists_Fanout_ic Q s = run P Γ (.seq (.reg netlists_Fanout_r0 [.keep [1] []]) (.seq (.reg netlists_Fanout_r1 [.keepB [1, 3] [14] 100000 16384]) (.seq (.reg netlists_Fanout_r2 [.keepB [1, 3, 4] [14] 100000 16384]) (.seq (.seq (.reg netlists_Fanout_r3 [.keepB [3, 4, 18, 19, 20] [14] 100000 16384]) (.block 0 netlists_Fanout_l3)) (.seq (.seq (.reg netlists_Fanout_r13 [.frzs 100000 16384, .keep [3, 51, 52, 53] [14, 47]]) (.block 4 netlists_Fanout_l5)) (.seq (.reg netlists_Fanout_r18 [.keep [2] [14, 47]]) .ret)))))) Q s := Eq.trans rfl rfl
theorem netlists_Fanout_l1_run (h : ∀ K : St → Prop, K = run P Γ netlists_Fanout_l1 Q → run P Γ netlists_Fanout_g0 (thenX K Q) s) : run P Γ netlists_Fanout_l1 Q s := run_loop h
theorem netlists_Fanout_l3_run (h : ∀ K : St → Prop, K = run P Γ netlists_Fanout_l3 Q → run P Γ netlists_Fanout_g2 (thenX K Q) s) : run P Γ netlists_Fanout_l3 Q s := run_loop h
theorem netlists_Fanout_l5_run (h : ∀ K : St → Prop, K = run P Γ netlists_Fanout_l5 Q → run P Γ netlists_Fanout_g4 (thenX K Q) s) : run P Γ netlists_Fanout_l5 Q s := run_loop h
attribute [simp] netlists_Fanout_r0 netlists_Fanout_r1 netlists_Fanout_r2 netlists_Fanout_r3 netlists_Fanout_r4 netlists_Fanout_r5 netlists_Fanout_r6 netlists_Fanout_r7 netlists_Fanout_r8 netlists_Fanout_r9 netlists_Fanout_r10 netlists_Fanout_r11 netlists_Fanout_r12 netlists_Fanout_r13 netlists_Fanout_r14 netlists_Fanout_r15 netlists_Fanout_r16 netlists_Fanout_r17 netlists_Fanout_r18
def netlists_Fanout_rv : List RV := [.tmp 2]

/- slices.Index[[]probecard/api.Kind,probecard/api.Kind] (function 78) -/
def slices_Index_api_Kind_r0 : List RO := [
    ⟨some 4, .mv (.const (.int .i64 0)), none, none⟩]
def slices_Index_api_Kind_r1 : List RO := [
    ⟨some 6, .mv (.tmp 0), none, none⟩,
    ⟨some 7, .len 0 (.tmp 6), none, none⟩,
    ⟨some 8, .mv (.const (.int .i64 0)), none, none⟩]
def slices_Index_api_Kind_r2 : List RO := [
    ⟨some 9, .bin .lss (.tmp 8) (.tmp 7), none, none⟩]
def slices_Index_api_Kind_r3 : List RO := [
    ⟨some 10, .mv (.tmp 8), none, none⟩,
    ⟨some 5, .mv (.tmp 10), none, none⟩]
def slices_Index_api_Kind_r4 : List RO := [
    ⟨some 11, .mv (.tmp 1), none, none⟩,
    ⟨some 12, .mv (.tmp 0), none, none⟩,
    ⟨some 13, .mv (.tmp 5), none, none⟩,
    ⟨some 14, .iadr 1 (.tmp 12) (.tmp 13), none, none⟩,
    ⟨some 15, .load 1 false (.tmp 14), none, none⟩,
    ⟨some 16, .bin .eql (.tmp 11) (.tmp 15), none, none⟩]
def slices_Index_api_Kind_r5 : List RO := [
    ⟨some 17, .mv (.tmp 5), none, none⟩,
    ⟨some 4, .mv (.tmp 17), none, none⟩]
def slices_Index_api_Kind_r6 : List RO := [
    ⟨some 18, .bin .add (.tmp 8) (.const (.int .i64 1)), none, none⟩,
    ⟨some 8, .mv (.tmp 18), none, none⟩]
def slices_Index_api_Kind_g0 : IC := .gh (.seq (.reg slices_Index_api_Kind_r2 [.keep [0, 1, 7, 8, 9] []]) (.seq (.cond (.tmp 9) .skip (.exit 0)) (.seq (.block 1 (.seq (.reg slices_Index_api_Kind_r3 [.keep [0, 1, 5, 7, 8] []]) (.seq (.reg slices_Index_api_Kind_r4 [.keep [0, 1, 5, 7, 8, 16] []]) (.cond (.tmp 16) (.seq (.reg slices_Index_api_Kind_r5 [.keep [4] []]) .ret) .skip)))) (.reg slices_Index_api_Kind_r6 [.keep [0, 1, 7, 8] []])))) [.keep [0, 1, 7, 8] []]
def slices_Index_api_Kind_l1 : IC := .loop slices_Index_api_Kind_g0
def slices_Index_api_Kind_r7 : List RO := [
    ⟨some 4, .mv (.const (.int .i64 (-1))), none, none⟩]
def slices_Index_api_Kind_ic : IC := (.seq (.reg slices_Index_api_Kind_r0 [.keep [0, 1] []]) (.seq (.seq (.reg slices_Index_api_Kind_r1 [.keep [0, 1, 7, 8] []]) (.block 0 slices_Index_api_Kind_l1)) (.seq (.reg slices_Index_api_Kind_r7 [.keep [4] []]) .ret)))
@[simp ↓] theorem slices_Index_api_Kind_g0_run : run P Γ slices_Index_api_Kind_g0 Q s = run P Γ (.gh (.seq (.reg slices_Index_api_Kind_r2 [.keep [0, 1, 7, 8, 9] []]) (.seq (.cond (.tmp 9) .skip (.exit 0)) (.seq (.block 1 (.seq (.reg slices_Index_api_Kind_r3 [.keep [0, 1, 5, 7, 8] []]) (.seq (.reg slices_Index_api_Kind_r4 [.keep [0, 1, 5, 7, 8, 16] []]) (.cond (.tmp 16) (.seq (.reg slices_Index_api_Kind_r5 [.keep [4] []]) .ret) .skip)))) (.reg slices_Index_api_Kind_r6 [.keep [0, 1, 7, 8] []])))) [.keep [0, 1, 7, 8] []]) Q s := Eq.trans rfl rfl
@[simp ↓] theorem slices_Index_api_Kind_ic_run : run P Γ slices_Index_api_Kind_ic Q s = run P Γ (.seq (.reg slices_Index_api_Kind_r0 [.keep [0, 1] []]) (.seq (.seq (.reg slices_Index_api_Kind_r1 [.keep [0, 1, 7, 8] []]) (.block 0 slices_Index_api_Kind_l1)) (.seq (.reg slices_Index_api_Kind_r7 [.keep [4] []]) .ret))) Q s := Eq.trans rfl rfl
theorem slices_Index_api_Kind_l1_run (h : ∀ K : St → Prop, K = run P Γ slices_Index_api_Kind_l1 Q → run P Γ slices_Index_api_Kind_g0 (thenX K Q) s) : run P Γ slices_Index_api_Kind_l1 Q s := run_loop h
attribute [simp] slices_Index_api_Kind_r0 slices_Index_api_Kind_r1 slices_Index_api_Kind_r2 slices_Index_api_Kind_r3 slices_Index_api_Kind_r4 slices_Index_api_Kind_r5 slices_Index_api_Kind_r6 slices_Index_api_Kind_r7
def slices_Index_api_Kind_rv : List RV := [.tmp 4]

/- probecard/logic.Fanin (function 82) -/
def logic_Fanin_r0 : List RO := [
    ⟨some 2, .mv (.const (.int .i64 0)), none, none⟩,
    ⟨some 3, .mv (.const (.int .i64 0)), none, none⟩]
def logic_Fanin_r1 : List RO := [
    ⟨some 4, .mv (.tmp 0), none, none⟩,
    ⟨some 5, .conv .i64 (.tmp 4), none, none⟩,
    ⟨some 6, .bin .geq (.tmp 5) (.const (.int .i64 16)), none, none⟩]
def logic_Fanin_r2 : List RO := [
    ⟨some 2, .mv (.const (.int .i64 0)), none, none⟩,
    ⟨some 3, .mv (.const (.int .i64 (-1))), none, none⟩]
def logic_Fanin_r3 : List RO := [
    ⟨some 7, .mv (.tmp 0), none, none⟩,
    ⟨some 8, .iadrA 16 2 (.global 0) (.tmp 7), none, none⟩,
    ⟨some 9, .iadrA 2 1 (.tmp 8) (.const (.int .i64 0)), none, none⟩,
    ⟨some 10, .load 1 false (.tmp 9), none, none⟩,
    ⟨some 11, .mv (.tmp 0), none, none⟩,
    ⟨some 12, .iadrA 16 2 (.global 0) (.tmp 11), none, none⟩,
    ⟨some 13, .iadrA 2 1 (.tmp 12) (.const (.int .i64 1)), none, none⟩,
    ⟨some 14, .load 1 false (.tmp 13), none, none⟩,
    ⟨some 2, .mv (.tmp 10), none, none⟩,
    ⟨some 3, .mv (.tmp 14), none, none⟩]
def logic_Fanin_ic : IC := (.seq (.reg logic_Fanin_r0 [.keep [0] []]) (.seq (.seq (.reg logic_Fanin_r1 [.keep [0, 6] []]) (.cond (.tmp 6) (.seq (.reg logic_Fanin_r2 [.keep [2, 3] []]) .ret) .skip)) (.seq (.reg logic_Fanin_r3 [.keep [2, 3] []]) .ret)))
@[simp ↓] theorem logic_Fanin_ic_run : run P Γ logic_Fanin_ic Q s = run P Γ (.seq (.reg logic_Fanin_r0 [.keep [0] []]) (.seq (.seq (.reg logic_Fanin_r1 [.keep [0, 6] []]) (.cond (.tmp 6) (.seq (.reg logic_Fanin_r2 [.keep [2, 3] []]) .ret) .skip)) (.seq (.reg logic_Fanin_r3 [.keep [2, 3] []]) .ret))) Q s := Eq.trans rfl rfl
attribute [simp] logic_Fanin_r0 logic_Fanin_r1 logic_Fanin_r2 logic_Fanin_r3
def logic_Fanin_rv : List RV := [.tmp 2, .tmp 3]

/- strings.IndexByte (function 91) -/
def strings_IndexByte_r0 : List RO := [
    ⟨some 4, .mv (.const (.int .i64 0)), none, none⟩]
def strings_IndexByte_r1 : List RO := [
    ⟨some 5, .mv (.tmp 0), none, none⟩,
    ⟨some 6, .mv (.tmp 1), none, none⟩,
    ⟨some 7, .call 112 [(.tmp 5), (.tmp 6)], none, none⟩,
    ⟨some 4, .mv (.tmp 7), none, none⟩]
def strings_IndexByte_ic : IC := (.seq (.reg strings_IndexByte_r0 [.keep [0, 1] []]) (.seq (.reg strings_IndexByte_r1 [.keep [4] []]) .ret))
@[simp ↓] theorem strings_IndexByte_ic_run : run P Γ strings_IndexByte_ic Q s = run P Γ (.seq (.reg strings_IndexByte_r0 [.keep [0, 1] []]) (.seq (.reg strings_IndexByte_r1 [.keep [4] []]) .ret)) Q s := Eq.trans rfl rfl
attribute [simp] strings_IndexByte_r0 strings_IndexByte_r1
def strings_IndexByte_rv : List RV := [.tmp 4]

/- probecard/netlists.node (function 103) -/
def netlists_node_r0 : List RO := [
    ⟨some 2, .box true (.tmp 0), none, none⟩,
    ⟨some 3, .box true (.tmp 1), none, none⟩,
    ⟨some 4, .mv (.const (.int .i64 0)), none, none⟩]
def netlists_node_r1 : List RO := [
    ⟨some 9, .fadr 0 (.tmp 3), none, none⟩,
    ⟨some 10, .load 1 false (.tmp 9), none, none⟩,
    ⟨some 11, .call 82 [(.tmp 10)], none, none⟩,
    ⟨some 8, .mv (.tmp 11), none, none⟩,
    ⟨some 12, .ext (.tmp 8) 0, none, none⟩,
    ⟨some 13, .ext (.tmp 8) 1, none, none⟩,
    ⟨some 5, .mv (.tmp 12), none, none⟩,
    ⟨some 6, .mv (.tmp 13), none, none⟩]
def netlists_node_r2 : List RO := [
    ⟨some 14, .mkf 121 [(.tmp 2)], none, none⟩,
    ⟨some 7, .mv (.tmp 14), none, none⟩]
def netlists_node_r3 : List RO := [
    ⟨some 16, .fadr 0 (.tmp 3), none, none⟩,
    ⟨some 17, .load 1 false (.tmp 16), none, none⟩,
    ⟨some 18, .bin .gtr (.tmp 17) (.const (.int .u8 15)), none, none⟩,
    ⟨some 15, .mv (.tmp 18), none, none⟩]
def netlists_node_r4 : List RO := [
    ⟨some 4, .mv (.const (.int .i64 7)), none, none⟩]
def netlists_node_r5 : List RO := [
    ⟨some 20, .fadr 1 (.tmp 3), none, none⟩,
    ⟨some 21, .load 1 false (.tmp 20), none, none⟩,
    ⟨some 22, .len 0 (.tmp 21), none, none⟩,
    ⟨some 23, .mv (.tmp 5), none, none⟩,
    ⟨some 24, .bin .lss (.tmp 22) (.tmp 23), none, none⟩,
    ⟨some 25, .mv (.tmp 24), none, none⟩,
    ⟨some 26, .fadr 1 (.tmp 3), some (25, false), none⟩,
    ⟨some 27, .load 1 false (.tmp 26), some (25, false), none⟩,
    ⟨some 28, .len 0 (.tmp 27), some (25, false), none⟩,
    ⟨some 29, .mv (.tmp 6), some (25, false), none⟩,
    ⟨some 30, .bin .gtr (.tmp 28) (.tmp 29), some (25, false), none⟩,
    ⟨some 31, .pick (.tmp 25) (.const (.bool true)) (.tmp 30), none, none⟩,
    ⟨some 19, .mv (.tmp 31), none, none⟩]
def netlists_node_r6 : List RO := [
    ⟨some 4, .mv (.const (.int .i64 8)), none, none⟩]
def netlists_node_r7 : List RO := [
    ⟨some 33, .fadr 1 (.tmp 3), none, none⟩,
    ⟨some 34, .load 1 false (.tmp 33), none, none⟩,
    ⟨some 35, .load 4 true (.tmp 2), none, none⟩,
    ⟨some 36, .call 107 [(.tmp 35)], none, none⟩,
    ⟨some 37, .call 106 [(.tmp 34), (.tmp 36)], none, none⟩,
    ⟨some 32, .mv (.tmp 37), none, none⟩]
def netlists_node_r8 : List RO := [
    ⟨some 4, .mv (.const (.int .i64 1)), none, none⟩]
def netlists_node_r9 : List RO := [
    ⟨some 39, .fadr 0 (.tmp 3), none, none⟩,
    ⟨some 40, .load 1 false (.tmp 39), none, none⟩,
    ⟨some 41, .bin .eql (.tmp 40) (.const (.int .u8 13)), none, none⟩,
    ⟨some 42, .mv (.tmp 41), none, none⟩,
    ⟨some 43, .fadr 1 (.tmp 3), some (42, true), none⟩,
    ⟨some 44, .load 1 false (.tmp 43), some (42, true), none⟩,
    ⟨some 45, .mv (.tmp 7), some (42, true), none⟩,
    ⟨some 46, .call 106 [(.tmp 44), (.tmp 45)], some (42, true), none⟩,
    ⟨some 47, .pick (.tmp 42) (.tmp 46) (.const (.bool false)), none, none⟩,
    ⟨some 38, .mv (.tmp 47), none, none⟩]
def netlists_node_r10 : List RO := [
    ⟨some 4, .mv (.const (.int .i64 7)), none, none⟩]
def netlists_node_r11 : List RO := [
    ⟨some 49, .load 4 true (.tmp 2), none, none⟩,
    ⟨some 50, .load 4 true (.tmp 3), none, none⟩,
    ⟨some 51, .call 122 [(.tmp 49), (.tmp 50)], none, none⟩,
    ⟨some 52, .un .not (.tmp 51), none, none⟩,
    ⟨some 48, .mv (.tmp 52), none, none⟩]
def netlists_node_r12 : List RO := [
    ⟨some 4, .mv (.const (.int .i64 1)), none, none⟩]
def netlists_node_c0 : IC := (.seq (.reg netlists_node_r5 [.keep [2, 3, 7, 19] []]) (.cond (.tmp 19) (.seq (.reg netlists_node_r6 [.keep [4] []]) .ret) (.seq (.reg netlists_node_r7 [.keep [2, 3, 7, 32] []]) (.cond (.tmp 32) (.seq (.reg netlists_node_r8 [.keep [4] []]) .ret) (.seq (.reg netlists_node_r9 [.keep [2, 3, 38] []]) (.cond (.tmp 38) (.seq (.reg netlists_node_r10 [.keep [4] []]) .ret) (.seq (.reg netlists_node_r11 [.keep [48] []]) (.cond (.tmp 48) (.seq (.reg netlists_node_r12 [.keep [4] []]) .ret) .skip))))))))
def netlists_node_r13 : List RO := [
    ⟨some 4, .mv (.const (.int .i64 0)), none, none⟩]
def netlists_node_ic : IC := (.seq (.reg netlists_node_r0 [.keep [2, 3] []]) (.seq (.reg netlists_node_r1 [.keep [2, 3, 5, 6] []]) (.seq (.reg netlists_node_r2 [.keep [2, 3, 5, 6, 7] []]) (.seq (.block 0 (.seq (.reg netlists_node_r3 [.keep [2, 3, 5, 6, 7, 15] []]) (.cond (.tmp 15) (.seq (.reg netlists_node_r4 [.keep [4] []]) .ret) netlists_node_c0))) (.seq (.reg netlists_node_r13 [.keep [4] []]) .ret)))))
@[simp ↓] theorem netlists_node_c0_run : run P Γ netlists_node_c0 Q s = run P Γ (.seq (.reg netlists_node_r5 [.keep [2, 3, 7, 19] []]) (.cond (.tmp 19) (.seq (.reg netlists_node_r6 [.keep [4] []]) .ret) (.seq (.reg netlists_node_r7 [.keep [2, 3, 7, 32] []]) (.cond (.tmp 32) (.seq (.reg netlists_node_r8 [.keep [4] []]) .ret) (.seq (.reg netlists_node_r9 [.keep [2, 3, 38] []]) (.cond (.tmp 38) (.seq (.reg netlists_node_r10 [.keep [4] []]) .ret) (.seq (.reg netlists_node_r11 [.keep [48] []]) (.cond (.tmp 48) (.seq (.reg netlists_node_r12 [.keep [4] []]) .ret) .skip)))))))) Q s := Eq.trans rfl rfl
@[simp ↓] theorem netlists_node_ic_run : run P Γ netlists_node_ic Q s = run P Γ (.seq (.reg netlists_node_r0 [.keep [2, 3] []]) (.seq (.reg netlists_node_r1 [.keep [2, 3, 5, 6] []]) (.seq (.reg netlists_node_r2 [.keep [2, 3, 5, 6, 7] []]) (.seq (.block 0 (.seq (.reg netlists_node_r3 [.keep [2, 3, 5, 6, 7, 15] []]) (.cond (.tmp 15) (.seq (.reg netlists_node_r4 [.keep [4] []]) .ret) netlists_node_c0))) (.seq (.reg netlists_node_r13 [.keep [4] []]) .ret))))) Q s := Eq.trans rfl rfl
attribute [simp] netlists_node_r0 netlists_node_r1 netlists_node_r2 netlists_node_r3 netlists_node_r4 netlists_node_r5 netlists_node_r6 netlists_node_r7 netlists_node_r8 netlists_node_r9 netlists_node_r10 netlists_node_r11 netlists_node_r12 netlists_node_r13
def netlists_node_rv : List RV := [.tmp 4]

/- probecard/netlists.names (function 104) -/
def netlists_names_r0 : List RO := [
    ⟨some 1, .box true (.tmp 0), none, none⟩,
    ⟨some 2, .mv (.const (.int .i64 0)), none, none⟩]
def netlists_names_r1 : List RO := [
    ⟨some 6, .mkmap, none, none⟩,
    ⟨some 3, .mv (.tmp 6), none, none⟩]
def netlists_names_r2 : List RO := [
    ⟨some 7, .fadr 1 (.tmp 1), none, none⟩,
    ⟨some 8, .load 1 false (.tmp 7), none, none⟩,
    ⟨some 9, .len 0 (.tmp 8), none, none⟩,
    ⟨some 10, .mv (.const (.int .i64 0)), none, none⟩]
def netlists_names_r3 : List RO := [
    ⟨some 11, .bin .lss (.tmp 10) (.tmp 9), none, none⟩]
def netlists_names_r4 : List RO := [
    ⟨some 12, .iadr 1 (.tmp 8) (.tmp 10), none, none⟩,
    ⟨some 13, .load 1 false (.tmp 12), none, none⟩,
    ⟨some 5, .mv (.tmp 13), none, none⟩]
def netlists_names_r5 : List RO := [
    ⟨some 14, .mv (.tmp 5), none, none⟩,
    ⟨some 15, .call 123 [(.tmp 14)], none, none⟩,
    ⟨some 16, .un .not (.tmp 15), none, none⟩,
    ⟨some 17, .mv (.tmp 16), none, none⟩,
    ⟨some 18, .mv (.tmp 3), some (17, false), none⟩,
    ⟨some 19, .mv (.tmp 5), some (17, false), none⟩,
    ⟨some 20, .lkup .str (.bool false) false (.tmp 18) (.tmp 19), some (17, false), none⟩,
    ⟨some 21, .pick (.tmp 17) (.const (.bool true)) (.tmp 20), none, none⟩]
def netlists_names_r6 : List RO := [
    ⟨some 2, .mv (.const (.int .i64 5)), none, none⟩]
def netlists_names_r7 : List RO := [
    ⟨some 22, .mv (.tmp 3), none, none⟩,
    ⟨some 23, .mv (.tmp 5), none, none⟩,
    ⟨none, .mup .str (.tmp 22) (.tmp 23) (.const (.bool true)), none, none⟩]
def netlists_names_r8 : List RO := [
    ⟨some 24, .bin .add (.tmp 10) (.const (.int .i64 1)), none, none⟩,
    ⟨some 10, .mv (.tmp 24), none, none⟩]
def netlists_names_g0 : IC := .gh (.seq (.reg netlists_names_r3 [.keep [3, 8, 9, 10, 11] [6]]) (.seq (.cond (.tmp 11) .skip (.exit 0)) (.seq (.block 1 (.seq (.reg netlists_names_r4 [.keep [3, 5, 8, 9, 10] [6]]) (.seq (.seq (.reg netlists_names_r5 [.keep [3, 5, 8, 9, 10, 21] [6]]) (.cond (.tmp 21) (.seq (.reg netlists_names_r6 [.keep [2] []]) .ret) .skip)) (.reg netlists_names_r7 [.keep [3, 8, 9, 10] [6]])))) (.reg netlists_names_r8 [.keep [3, 8, 9, 10] [6]])))) [.keep [3, 8, 9, 10] [6]]
def netlists_names_l1 : IC := .loop netlists_names_g0
def netlists_names_r9 : List RO := [
    ⟨some 2, .mv (.const (.int .i64 0)), none, none⟩]
def netlists_names_ic : IC := (.seq (.reg netlists_names_r0 [.keep [1] []]) (.seq (.reg netlists_names_r1 [.keep [1, 3] [6]]) (.seq (.seq (.reg netlists_names_r2 [.keep [3, 8, 9, 10] [6]]) (.block 0 netlists_names_l1)) (.seq (.reg netlists_names_r9 [.keep [2] []]) .ret))))
@[simp ↓] theorem netlists_names_g0_run : run P Γ netlists_names_g0 Q s = run P Γ (.gh (.seq (.reg netlists_names_r3 [.keep [3, 8, 9, 10, 11] [6]]) (.seq (.cond (.tmp 11) .skip (.exit 0)) (.seq (.block 1 (.seq (.reg netlists_names_r4 [.keep [3, 5, 8, 9, 10] [6]]) (.seq (.seq (.reg netlists_names_r5 [.keep [3, 5, 8, 9, 10, 21] [6]]) (.cond (.tmp 21) (.seq (.reg netlists_names_r6 [.keep [2] []]) .ret) .skip)) (.reg netlists_names_r7 [.keep [3, 8, 9, 10] [6]])))) (.reg netlists_names_r8 [.keep [3, 8, 9, 10] [6]])))) [.keep [3, 8, 9, 10] [6]]) Q s := Eq.trans rfl rfl
@[simp ↓] theorem netlists_names_ic_run : run P Γ netlists_names_ic Q s = run P Γ (.seq (.reg netlists_names_r0 [.keep [1] []]) (.seq (.reg netlists_names_r1 [.keep [1, 3] [6]]) (.seq (.seq (.reg netlists_names_r2 [.keep [3, 8, 9, 10] [6]]) (.block 0 netlists_names_l1)) (.seq (.reg netlists_names_r9 [.keep [2] []]) .ret)))) Q s := Eq.trans rfl rfl
theorem netlists_names_l1_run (h : ∀ K : St → Prop, K = run P Γ netlists_names_l1 Q → run P Γ netlists_names_g0 (thenX K Q) s) : run P Γ netlists_names_l1 Q s := run_loop h
attribute [simp] netlists_names_r0 netlists_names_r1 netlists_names_r2 netlists_names_r3 netlists_names_r4 netlists_names_r5 netlists_names_r6 netlists_names_r7 netlists_names_r8 netlists_names_r9
def netlists_names_rv : List RV := [.tmp 2]

/- probecard/netlists.memory (function 105) -/
def netlists_memory_r0 : List RO := [
    ⟨some 2, .box true (.tmp 0), none, none⟩,
    ⟨some 3, .box true (.tmp 1), none, none⟩,
    ⟨some 4, .mv (.const (.int .i64 0)), none, none⟩]
def netlists_memory_r1 : List RO := [
    ⟨some 5, .mv (.func 124), none, none⟩]
def netlists_memory_r2 : List RO := [
    ⟨some 7, .load 4 true (.tmp 2), none, none⟩,
    ⟨some 8, .call 107 [(.tmp 7)], none, none⟩,
    ⟨some 6, .mv (.tmp 8), none, none⟩]
def netlists_memory_r3 : List RO := [
    ⟨some 10, .mv (.tmp 5), none, none⟩,
    ⟨some 11, .fadr 0 (.tmp 3), none, none⟩,
    ⟨some 12, .load 1 false (.tmp 11), none, none⟩,
    ⟨some 13, .callv (.tmp 10) [(.tmp 12), (.const (.int .i64 8))], none, none⟩,
    ⟨some 14, .mv (.tmp 13), none, none⟩,
    ⟨some 15, .mv (.tmp 5), some (14, false), none⟩,
    ⟨some 16, .fadr 1 (.tmp 3), some (14, false), none⟩,
    ⟨some 17, .load 1 false (.tmp 16), some (14, false), none⟩,
    ⟨some 18, .callv (.tmp 15) [(.tmp 17), (.const (.int .i64 32))], some (14, false), none⟩,
    ⟨some 19, .pick (.tmp 14) (.const (.bool true)) (.tmp 18), none, none⟩,
    ⟨some 9, .mv (.tmp 19), none, none⟩]
def netlists_memory_r4 : List RO := [
    ⟨some 4, .mv (.const (.int .i64 8)), none, none⟩]
def netlists_memory_r5 : List RO := [
    ⟨some 21, .fadr 0 (.tmp 3), none, none⟩,
    ⟨some 22, .load 1 false (.tmp 21), none, none⟩,
    ⟨some 23, .mv (.tmp 6), none, none⟩,
    ⟨some 24, .call 106 [(.tmp 22), (.tmp 23)], none, none⟩,
    ⟨some 25, .mv (.tmp 24), none, none⟩,
    ⟨some 26, .fadr 1 (.tmp 3), some (25, false), none⟩,
    ⟨some 27, .load 1 false (.tmp 26), some (25, false), none⟩,
    ⟨some 28, .mv (.tmp 6), some (25, false), none⟩,
    ⟨some 29, .call 106 [(.tmp 27), (.tmp 28)], some (25, false), none⟩,
    ⟨some 30, .pick (.tmp 25) (.const (.bool true)) (.tmp 29), none, none⟩,
    ⟨some 31, .mv (.tmp 30), none, none⟩,
    ⟨some 32, .mv (.tmp 6), some (31, false), none⟩,
    ⟨some 33, .fadr 2 (.tmp 3), some (31, false), none⟩,
    ⟨some 34, .load 1 false (.tmp 33), some (31, false), none⟩,
    ⟨some 35, .callv (.tmp 32) [(.tmp 34)], some (31, false), none⟩,
    ⟨some 36, .pick (.tmp 31) (.const (.bool true)) (.tmp 35), none, none⟩,
    ⟨some 20, .mv (.tmp 36), none, none⟩]
def netlists_memory_r6 : List RO := [
    ⟨some 4, .mv (.const (.int .i64 1)), none, none⟩]
def netlists_memory_r7 : List RO := [
    ⟨some 4, .mv (.const (.int .i64 0)), none, none⟩]
def netlists_memory_ic : IC := (.seq (.reg netlists_memory_r0 [.keep [2, 3] []]) (.seq (.reg netlists_memory_r1 [.keep [2, 3, 5] []]) (.seq (.reg netlists_memory_r2 [.keep [3, 5, 6] []]) (.seq (.block 0 (.seq (.reg netlists_memory_r3 [.keep [3, 6, 9] []]) (.cond (.tmp 9) (.seq (.reg netlists_memory_r4 [.keep [4] []]) .ret) (.seq (.reg netlists_memory_r5 [.keep [20] []]) (.cond (.tmp 20) (.seq (.reg netlists_memory_r6 [.keep [4] []]) .ret) .skip))))) (.seq (.reg netlists_memory_r7 [.keep [4] []]) .ret)))))
@[simp ↓] theorem netlists_memory_ic_run : run P Γ netlists_memory_ic Q s = run P Γ (.seq (.reg netlists_memory_r0 [.keep [2, 3] []]) (.seq (.reg netlists_memory_r1 [.keep [2, 3, 5] []]) (.seq (.reg netlists_memory_r2 [.keep [3, 5, 6] []]) (.seq (.block 0 (.seq (.reg netlists_memory_r3 [.keep [3, 6, 9] []]) (.cond (.tmp 9) (.seq (.reg netlists_memory_r4 [.keep [4] []]) .ret) (.seq (.reg netlists_memory_r5 [.keep [20] []]) (.cond (.tmp 20) (.seq (.reg netlists_memory_r6 [.keep [4] []]) .ret) .skip))))) (.seq (.reg netlists_memory_r7 [.keep [4] []]) .ret))))) Q s := Eq.trans rfl rfl
attribute [simp] netlists_memory_r0 netlists_memory_r1 netlists_memory_r2 netlists_memory_r3 netlists_memory_r4 netlists_memory_r5 netlists_memory_r6 netlists_memory_r7
def netlists_memory_rv : List RV := [.tmp 4]

/- slices.ContainsFunc[[]int,int] (function 106) -/
def slices_ContainsFunc_int_r0 : List RO := [
    ⟨some 4, .mv (.const (.bool false)), none, none⟩]
def slices_ContainsFunc_int_r1 : List RO := [
    ⟨some 5, .mv (.tmp 0), none, none⟩,
    ⟨some 6, .mv (.tmp 1), none, none⟩,
    ⟨some 7, .call 125 [(.tmp 5), (.tmp 6)], none, none⟩,
    ⟨some 8, .bin .geq (.tmp 7) (.const (.int .i64 0)), none, none⟩,
    ⟨some 4, .mv (.tmp 8), none, none⟩]
def slices_ContainsFunc_int_ic : IC := (.seq (.reg slices_ContainsFunc_int_r0 [.keep [0, 1] []]) (.seq (.reg slices_ContainsFunc_int_r1 [.keep [4] []]) .ret))
@[simp ↓] theorem slices_ContainsFunc_int_ic_run : run P Γ slices_ContainsFunc_int_ic Q s = run P Γ (.seq (.reg slices_ContainsFunc_int_r0 [.keep [0, 1] []]) (.seq (.reg slices_ContainsFunc_int_r1 [.keep [4] []]) .ret)) Q s := Eq.trans rfl rfl
attribute [simp] slices_ContainsFunc_int_r0 slices_ContainsFunc_int_r1
def slices_ContainsFunc_int_rv : List RV := [.tmp 4]

/- probecard/netlists.outside (function 107) -/
def netlists_outside_r0 : List RO := [
    ⟨some 1, .box true (.tmp 0), none, none⟩,
    ⟨some 2, .mv (.const .nilFunc), none, none⟩]
def netlists_outside_r1 : List RO := [
    ⟨some 3, .mkf 126 [(.tmp 1)], none, none⟩,
    ⟨some 2, .mv (.tmp 3), none, none⟩]
def netlists_outside_ic : IC := (.seq (.reg netlists_outside_r0 [.keep [1] []]) (.seq (.reg netlists_outside_r1 [.keep [2] []]) .ret))
@[simp ↓] theorem netlists_outside_ic_run : run P Γ netlists_outside_ic Q s = run P Γ (.seq (.reg netlists_outside_r0 [.keep [1] []]) (.seq (.reg netlists_outside_r1 [.keep [2] []]) .ret)) Q s := Eq.trans rfl rfl
attribute [simp] netlists_outside_r0 netlists_outside_r1
def netlists_outside_rv : List RV := [.tmp 2]

/- slices.Clip[[]probecard/api.Line,probecard/api.Line] (function 108) -/
def slices_Clip_api_Line_r0 : List RO := [
    ⟨some 2, .mv (.const (.slice none 0 0)), none, none⟩]
def slices_Clip_api_Line_r1 : List RO := [
    ⟨some 3, .mv (.tmp 0), none, none⟩,
    ⟨some 4, .mv (.tmp 0), none, none⟩,
    ⟨some 5, .len 0 (.tmp 4), none, none⟩,
    ⟨some 6, .mv (.tmp 0), none, none⟩,
    ⟨some 7, .len 0 (.tmp 6), none, none⟩,
    ⟨some 8, .slice 2 (.tmp 3) none (some (.tmp 5)) (some (.tmp 7)), none, none⟩,
    ⟨some 2, .mv (.tmp 8), none, none⟩]
def slices_Clip_api_Line_ic : IC := (.seq (.reg slices_Clip_api_Line_r0 [.keep [0] []]) (.seq (.reg slices_Clip_api_Line_r1 [.keep [2] []]) .ret))
@[simp ↓] theorem slices_Clip_api_Line_ic_run : run P Γ slices_Clip_api_Line_ic Q s = run P Γ (.seq (.reg slices_Clip_api_Line_r0 [.keep [0] []]) (.seq (.reg slices_Clip_api_Line_r1 [.keep [2] []]) .ret)) Q s := Eq.trans rfl rfl
attribute [simp] slices_Clip_api_Line_r0 slices_Clip_api_Line_r1
def slices_Clip_api_Line_rv : List RV := [.tmp 2]

/- internal/stringslite.IndexByte (function 112) -/
def i_stringslite_IndexByte_r0 : List RO := [
    ⟨some 4, .mv (.const (.int .i64 0)), none, none⟩]
def i_stringslite_IndexByte_r1 : List RO := [
    ⟨some 5, .mv (.tmp 0), none, none⟩,
    ⟨some 6, .mv (.tmp 1), none, none⟩,
    ⟨some 7, .call 127 [(.tmp 5), (.tmp 6)], none, none⟩,
    ⟨some 4, .mv (.tmp 7), none, none⟩]
def i_stringslite_IndexByte_ic : IC := (.seq (.reg i_stringslite_IndexByte_r0 [.keep [0, 1] []]) (.seq (.reg i_stringslite_IndexByte_r1 [.keep [4] []]) .ret))
@[simp ↓] theorem i_stringslite_IndexByte_ic_run : run P Γ i_stringslite_IndexByte_ic Q s = run P Γ (.seq (.reg i_stringslite_IndexByte_r0 [.keep [0, 1] []]) (.seq (.reg i_stringslite_IndexByte_r1 [.keep [4] []]) .ret)) Q s := Eq.trans rfl rfl
attribute [simp] i_stringslite_IndexByte_r0 i_stringslite_IndexByte_r1
def i_stringslite_IndexByte_rv : List RV := [.tmp 4]

/- probecard/netlists.node$1 (function 121) -/
def netlists_node_1_r0 : List RO := [
    ⟨some 3, .mv (.const (.bool false)), none, none⟩]
def netlists_node_1_r1 : List RO := [
    ⟨some 4, .fadr 0 (.tmp 1), none, none⟩,
    ⟨some 5, .load 1 false (.tmp 4), none, none⟩,
    ⟨some 6, .mv (.tmp 0), none, none⟩,
    ⟨some 7, .iadr 4 (.tmp 5) (.tmp 6), none, none⟩,
    ⟨some 8, .fadr 0 (.tmp 7), none, none⟩,
    ⟨some 9, .load 1 false (.tmp 8), none, none⟩,
    ⟨some 10, .bin .neq (.tmp 9) (.const (.int .u8 12)), none, none⟩,
    ⟨some 3, .mv (.tmp 10), none, none⟩]
def netlists_node_1_ic : IC := (.seq (.reg netlists_node_1_r0 [.keep [0, 1] []]) (.seq (.reg netlists_node_1_r1 [.keep [3] []]) .ret))
@[simp ↓] theorem netlists_node_1_ic_run : run P Γ netlists_node_1_ic Q s = run P Γ (.seq (.reg netlists_node_1_r0 [.keep [0, 1] []]) (.seq (.reg netlists_node_1_r1 [.keep [3] []]) .ret)) Q s := Eq.trans rfl rfl
attribute [simp] netlists_node_1_r0 netlists_node_1_r1
def netlists_node_1_rv : List RV := [.tmp 3]

/- probecard/netlists.bit (function 122) -/
def netlists_bit_r0 : List RO := [
    ⟨some 2, .box true (.tmp 0), none, none⟩,
    ⟨some 3, .box true (.tmp 1), none, none⟩,
    ⟨some 4, .mv (.const (.bool false)), none, none⟩]
def netlists_bit_r1 : List RO := [
    ⟨some 5, .fadr 0 (.tmp 3), none, none⟩,
    ⟨some 6, .load 1 false (.tmp 5), none, none⟩,
    ⟨some 7, .bin .neq (.tmp 6) (.const (.int .u8 15)), none, none⟩]
def netlists_bit_r2 : List RO := [
    ⟨some 8, .fadr 2 (.tmp 3), none, none⟩,
    ⟨some 9, .load 1 false (.tmp 8), none, none⟩,
    ⟨some 10, .bin .eql (.tmp 9) (.const (.int .i64 0)), none, none⟩,
    ⟨some 11, .mv (.tmp 10), none, none⟩,
    ⟨some 12, .fadr 3 (.tmp 3), some (11, true), none⟩,
    ⟨some 13, .load 1 false (.tmp 12), some (11, true), none⟩,
    ⟨some 14, .bin .eql (.tmp 13) (.const (.int .i64 0)), some (11, true), none⟩,
    ⟨some 15, .pick (.tmp 11) (.tmp 14) (.const (.bool false)), none, none⟩,
    ⟨some 4, .mv (.tmp 15), none, none⟩]
def netlists_bit_r3 : List RO := [
    ⟨some 16, .fadr 2 (.tmp 3), none, none⟩,
    ⟨some 17, .load 1 false (.tmp 16), none, none⟩,
    ⟨some 18, .bin .geq (.tmp 17) (.const (.int .i64 0)), none, none⟩,
    ⟨some 19, .mv (.tmp 18), none, none⟩,
    ⟨some 20, .fadr 2 (.tmp 3), some (19, true), none⟩,
    ⟨some 21, .load 1 false (.tmp 20), some (19, true), none⟩,
    ⟨some 22, .fadr 2 (.tmp 2), some (19, true), none⟩,
    ⟨some 23, .load 1 false (.tmp 22), some (19, true), none⟩,
    ⟨some 24, .len 0 (.tmp 23), some (19, true), none⟩,
    ⟨some 25, .bin .lss (.tmp 21) (.tmp 24), some (19, true), none⟩,
    ⟨some 26, .pick (.tmp 19) (.tmp 25) (.const (.bool false)), none, none⟩,
    ⟨some 27, .mv (.tmp 26), none, none⟩,
    ⟨some 28, .fadr 3 (.tmp 3), some (27, true), none⟩,
    ⟨some 29, .load 1 false (.tmp 28), some (27, true), none⟩,
    ⟨some 30, .bin .geq (.tmp 29) (.const (.int .i64 0)), some (27, true), none⟩,
    ⟨some 31, .pick (.tmp 27) (.tmp 30) (.const (.bool false)), none, none⟩,
    ⟨some 32, .mv (.tmp 31), none, none⟩,
    ⟨some 33, .fadr 3 (.tmp 3), some (32, true), none⟩,
    ⟨some 34, .load 1 false (.tmp 33), some (32, true), none⟩,
    ⟨some 35, .fadr 2 (.tmp 2), some (32, true), none⟩,
    ⟨some 36, .load 1 false (.tmp 35), some (32, true), none⟩,
    ⟨some 37, .fadr 2 (.tmp 3), some (32, true), none⟩,
    ⟨some 38, .load 1 false (.tmp 37), some (32, true), none⟩,
    ⟨some 39, .iadr 3 (.tmp 36) (.tmp 38), some (32, true), none⟩,
    ⟨some 40, .fadr 1 (.tmp 39), some (32, true), none⟩,
    ⟨some 41, .load 1 false (.tmp 40), some (32, true), none⟩,
    ⟨some 42, .len 0 (.tmp 41), some (32, true), none⟩,
    ⟨some 43, .bin .lss (.tmp 34) (.tmp 42), some (32, true), none⟩,
    ⟨some 44, .pick (.tmp 32) (.tmp 43) (.const (.bool false)), none, none⟩,
    ⟨some 4, .mv (.tmp 44), none, none⟩]
def netlists_bit_ic : IC := (.seq (.reg netlists_bit_r0 [.keep [2, 3] []]) (.seq (.seq (.reg netlists_bit_r1 [.keep [2, 3, 7] []]) (.cond (.tmp 7) (.seq (.reg netlists_bit_r2 [.keep [4] []]) .ret) .skip)) (.seq (.reg netlists_bit_r3 [.keep [4] []]) .ret)))
@[simp ↓] theorem netlists_bit_ic_run : run P Γ netlists_bit_ic Q s = run P Γ (.seq (.reg netlists_bit_r0 [.keep [2, 3] []]) (.seq (.seq (.reg netlists_bit_r1 [.keep [2, 3, 7] []]) (.cond (.tmp 7) (.seq (.reg netlists_bit_r2 [.keep [4] []]) .ret) .skip)) (.seq (.reg netlists_bit_r3 [.keep [4] []]) .ret))) Q s := Eq.trans rfl rfl
attribute [simp] netlists_bit_r0 netlists_bit_r1 netlists_bit_r2 netlists_bit_r3
def netlists_bit_rv : List RV := [.tmp 4]

/- probecard/netlists.IsName (function 123) -/
def netlists_IsName_r0 : List RO := [
    ⟨some 2, .mv (.const (.bool false)), none, none⟩]
def netlists_IsName_r1 : List RO := [
    ⟨some 3, .mv (.func 134), none, none⟩]
def netlists_IsName_r2 : List RO := [
    ⟨some 4, .mv (.tmp 0), none, none⟩,
    ⟨some 5, .bin .neq (.tmp 4) (.const (sV [])), none, none⟩,
    ⟨some 6, .mv (.tmp 5), none, none⟩,
    ⟨some 7, .mv (.tmp 0), some (6, true), none⟩,
    ⟨some 8, .len 1 (.tmp 7), some (6, true), none⟩,
    ⟨some 9, .bin .leq (.tmp 8) (.const (.int .i64 32)), some (6, true), none⟩,
    ⟨some 10, .pick (.tmp 6) (.tmp 9) (.const (.bool false)), none, none⟩,
    ⟨some 11, .mv (.tmp 10), none, none⟩,
    ⟨some 12, .mv (.tmp 0), some (11, true), none⟩,
    ⟨some 13, .mv (.tmp 3), some (11, true), none⟩,
    ⟨some 14, .call 136 [(.tmp 12), (.tmp 13)], some (11, true), none⟩,
    ⟨some 15, .un .not (.tmp 14), some (11, true), none⟩,
    ⟨some 16, .pick (.tmp 11) (.tmp 15) (.const (.bool false)), none, none⟩,
    ⟨some 2, .mv (.tmp 16), none, none⟩]
def netlists_IsName_ic : IC := (.seq (.reg netlists_IsName_r0 [.keep [0] []]) (.seq (.reg netlists_IsName_r1 [.keep [0, 3] []]) (.seq (.reg netlists_IsName_r2 [.keep [2] []]) .ret)))
@[simp ↓] theorem netlists_IsName_ic_run : run P Γ netlists_IsName_ic Q s = run P Γ (.seq (.reg netlists_IsName_r0 [.keep [0] []]) (.seq (.reg netlists_IsName_r1 [.keep [0, 3] []]) (.seq (.reg netlists_IsName_r2 [.keep [2] []]) .ret))) Q s := Eq.trans rfl rfl
attribute [simp] netlists_IsName_r0 netlists_IsName_r1 netlists_IsName_r2
def netlists_IsName_rv : List RV := [.tmp 2]

/- probecard/netlists.memory$1 (function 124) -/
def netlists_memory_1_r0 : List RO := [
    ⟨some 4, .mv (.const (.bool false)), none, none⟩]
def netlists_memory_1_r1 : List RO := [
    ⟨some 5, .mv (.tmp 0), none, none⟩,
    ⟨some 6, .len 0 (.tmp 5), none, none⟩,
    ⟨some 7, .bin .eql (.tmp 6) (.const (.int .i64 0)), none, none⟩,
    ⟨some 8, .mv (.tmp 7), none, none⟩,
    ⟨some 9, .mv (.tmp 0), some (8, false), none⟩,
    ⟨some 10, .len 0 (.tmp 9), some (8, false), none⟩,
    ⟨some 11, .mv (.tmp 1), some (8, false), none⟩,
    ⟨some 12, .bin .gtr (.tmp 10) (.tmp 11), some (8, false), none⟩,
    ⟨some 13, .pick (.tmp 8) (.const (.bool true)) (.tmp 12), none, none⟩,
    ⟨some 4, .mv (.tmp 13), none, none⟩]
def netlists_memory_1_ic : IC := (.seq (.reg netlists_memory_1_r0 [.keep [0, 1] []]) (.seq (.reg netlists_memory_1_r1 [.keep [4] []]) .ret))
@[simp ↓] theorem netlists_memory_1_ic_run : run P Γ netlists_memory_1_ic Q s = run P Γ (.seq (.reg netlists_memory_1_r0 [.keep [0, 1] []]) (.seq (.reg netlists_memory_1_r1 [.keep [4] []]) .ret)) Q s := Eq.trans rfl rfl
attribute [simp] netlists_memory_1_r0 netlists_memory_1_r1
def netlists_memory_1_rv : List RV := [.tmp 4]

/- slices.IndexFunc[[]int,int] (function 125) -/
def slices_IndexFunc_int_r0 : List RO := [
    ⟨some 4, .mv (.const (.int .i64 0)), none, none⟩]
def slices_IndexFunc_int_r1 : List RO := [
    ⟨some 6, .mv (.tmp 0), none, none⟩,
    ⟨some 7, .len 0 (.tmp 6), none, none⟩,
    ⟨some 8, .mv (.const (.int .i64 0)), none, none⟩]
def slices_IndexFunc_int_r2 : List RO := [
    ⟨some 9, .bin .lss (.tmp 8) (.tmp 7), none, none⟩]
def slices_IndexFunc_int_r3 : List RO := [
    ⟨some 10, .mv (.tmp 8), none, none⟩,
    ⟨some 5, .mv (.tmp 10), none, none⟩]
def slices_IndexFunc_int_r4 : List RO := [
    ⟨some 11, .mv (.tmp 1), none, none⟩,
    ⟨some 12, .mv (.tmp 0), none, none⟩,
    ⟨some 13, .mv (.tmp 5), none, none⟩,
    ⟨some 14, .iadr 1 (.tmp 12) (.tmp 13), none, none⟩,
    ⟨some 15, .load 1 false (.tmp 14), none, none⟩,
    ⟨some 16, .callv (.tmp 11) [(.tmp 15)], none, none⟩]
def slices_IndexFunc_int_r5 : List RO := [
    ⟨some 17, .mv (.tmp 5), none, none⟩,
    ⟨some 4, .mv (.tmp 17), none, none⟩]
def slices_IndexFunc_int_r6 : List RO := [
    ⟨some 18, .bin .add (.tmp 8) (.const (.int .i64 1)), none, none⟩,
    ⟨some 8, .mv (.tmp 18), none, none⟩]
def slices_IndexFunc_int_g0 : IC := .gh (.seq (.reg slices_IndexFunc_int_r2 [.keep [0, 1, 7, 8, 9] []]) (.seq (.cond (.tmp 9) .skip (.exit 0)) (.seq (.block 1 (.seq (.reg slices_IndexFunc_int_r3 [.keep [0, 1, 5, 7, 8] []]) (.seq (.reg slices_IndexFunc_int_r4 [.keep [0, 1, 5, 7, 8, 16] []]) (.cond (.tmp 16) (.seq (.reg slices_IndexFunc_int_r5 [.keep [4] []]) .ret) .skip)))) (.reg slices_IndexFunc_int_r6 [.keep [0, 1, 7, 8] []])))) [.keep [0, 1, 7, 8] []]
def slices_IndexFunc_int_l1 : IC := .loop slices_IndexFunc_int_g0
def slices_IndexFunc_int_r7 : List RO := [
    ⟨some 4, .mv (.const (.int .i64 (-1))), none, none⟩]
def slices_IndexFunc_int_ic : IC := (.seq (.reg slices_IndexFunc_int_r0 [.keep [0, 1] []]) (.seq (.seq (.reg slices_IndexFunc_int_r1 [.keep [0, 1, 7, 8] []]) (.block 0 slices_IndexFunc_int_l1)) (.seq (.reg slices_IndexFunc_int_r7 [.keep [4] []]) .ret)))
@[simp ↓] theorem slices_IndexFunc_int_g0_run : run P Γ slices_IndexFunc_int_g0 Q s = run P Γ (.gh (.seq (.reg slices_IndexFunc_int_r2 [.keep [0, 1, 7, 8, 9] []]) (.seq (.cond (.tmp 9) .skip (.exit 0)) (.seq (.block 1 (.seq (.reg slices_IndexFunc_int_r3 [.keep [0, 1, 5, 7, 8] []]) (.seq (.reg slices_IndexFunc_int_r4 [.keep [0, 1, 5, 7, 8, 16] []]) (.cond (.tmp 16) (.seq (.reg slices_IndexFunc_int_r5 [.keep [4] []]) .ret) .skip)))) (.reg slices_IndexFunc_int_r6 [.keep [0, 1, 7, 8] []])))) [.keep [0, 1, 7, 8] []]) Q s := Eq.trans rfl rfl
@[simp ↓] theorem slices_IndexFunc_int_ic_run : run P Γ slices_IndexFunc_int_ic Q s = run P Γ (.seq (.reg slices_IndexFunc_int_r0 [.keep [0, 1] []]) (.seq (.seq (.reg slices_IndexFunc_int_r1 [.keep [0, 1, 7, 8] []]) (.block 0 slices_IndexFunc_int_l1)) (.seq (.reg slices_IndexFunc_int_r7 [.keep [4] []]) .ret))) Q s := Eq.trans rfl rfl
theorem slices_IndexFunc_int_l1_run (h : ∀ K : St → Prop, K = run P Γ slices_IndexFunc_int_l1 Q → run P Γ slices_IndexFunc_int_g0 (thenX K Q) s) : run P Γ slices_IndexFunc_int_l1 Q s := run_loop h
attribute [simp] slices_IndexFunc_int_r0 slices_IndexFunc_int_r1 slices_IndexFunc_int_r2 slices_IndexFunc_int_r3 slices_IndexFunc_int_r4 slices_IndexFunc_int_r5 slices_IndexFunc_int_r6 slices_IndexFunc_int_r7
def slices_IndexFunc_int_rv : List RV := [.tmp 4]

/- probecard/netlists.outside$1 (function 126) -/
def netlists_outside_1_r0 : List RO := [
    ⟨some 3, .mv (.const (.bool false)), none, none⟩]
def netlists_outside_1_r1 : List RO := [
    ⟨some 4, .mv (.tmp 0), none, none⟩,
    ⟨some 5, .bin .lss (.tmp 4) (.const (.int .i64 0)), none, none⟩,
    ⟨some 6, .mv (.tmp 5), none, none⟩,
    ⟨some 7, .mv (.tmp 0), some (6, false), none⟩,
    ⟨some 8, .fadr 0 (.tmp 1), some (6, false), none⟩,
    ⟨some 9, .load 1 false (.tmp 8), some (6, false), none⟩,
    ⟨some 10, .len 0 (.tmp 9), some (6, false), none⟩,
    ⟨some 11, .bin .geq (.tmp 7) (.tmp 10), some (6, false), none⟩,
    ⟨some 12, .pick (.tmp 6) (.const (.bool true)) (.tmp 11), none, none⟩,
    ⟨some 3, .mv (.tmp 12), none, none⟩]
def netlists_outside_1_ic : IC := (.seq (.reg netlists_outside_1_r0 [.keep [0, 1] []]) (.seq (.reg netlists_outside_1_r1 [.keep [3] []]) .ret))
@[simp ↓] theorem netlists_outside_1_ic_run : run P Γ netlists_outside_1_ic Q s = run P Γ (.seq (.reg netlists_outside_1_r0 [.keep [0, 1] []]) (.seq (.reg netlists_outside_1_r1 [.keep [3] []]) .ret)) Q s := Eq.trans rfl rfl
attribute [simp] netlists_outside_1_r0 netlists_outside_1_r1
def netlists_outside_1_rv : List RV := [.tmp 3]

/- probecard/netlists.IsName$1 (function 134) -/
def netlists_IsName_1_r0 : List RO := [
    ⟨some 2, .mv (.const (.bool false)), none, none⟩]
def netlists_IsName_1_r1 : List RO := [
    ⟨some 3, .mv (.tmp 0), none, none⟩,
    ⟨some 4, .bin .leq (.tmp 3) (.const (.int .i32 32)), none, none⟩,
    ⟨some 5, .mv (.tmp 4), none, none⟩,
    ⟨some 6, .mv (.tmp 0), some (5, false), none⟩,
    ⟨some 7, .bin .gtr (.tmp 6) (.const (.int .i32 126)), some (5, false), none⟩,
    ⟨some 8, .pick (.tmp 5) (.const (.bool true)) (.tmp 7), none, none⟩,
    ⟨some 9, .mv (.tmp 8), none, none⟩,
    ⟨some 10, .mv (.tmp 0), some (9, false), none⟩,
    ⟨some 11, .call 135 [(.const (sV [40, 41, 61, 44, 35])), (.tmp 10)], some (9, false), none⟩,
    ⟨some 12, .pick (.tmp 9) (.const (.bool true)) (.tmp 11), none, none⟩,
    ⟨some 2, .mv (.tmp 12), none, none⟩]
def netlists_IsName_1_ic : IC := (.seq (.reg netlists_IsName_1_r0 [.keep [0] []]) (.seq (.reg netlists_IsName_1_r1 [.keep [2] []]) .ret))
@[simp ↓] theorem netlists_IsName_1_ic_run : run P Γ netlists_IsName_1_ic Q s = run P Γ (.seq (.reg netlists_IsName_1_r0 [.keep [0] []]) (.seq (.reg netlists_IsName_1_r1 [.keep [2] []]) .ret)) Q s := Eq.trans rfl rfl
attribute [simp] netlists_IsName_1_r0 netlists_IsName_1_r1
def netlists_IsName_1_rv : List RV := [.tmp 2]

/- strings.ContainsRune (function 135) -/
def strings_ContainsRune_r0 : List RO := [
    ⟨some 4, .mv (.const (.bool false)), none, none⟩]
def strings_ContainsRune_r1 : List RO := [
    ⟨some 5, .mv (.tmp 0), none, none⟩,
    ⟨some 6, .mv (.tmp 1), none, none⟩,
    ⟨some 7, .call 143 [(.tmp 5), (.tmp 6)], none, none⟩,
    ⟨some 8, .bin .geq (.tmp 7) (.const (.int .i64 0)), none, none⟩,
    ⟨some 4, .mv (.tmp 8), none, none⟩]
def strings_ContainsRune_ic : IC := (.seq (.reg strings_ContainsRune_r0 [.keep [0, 1] []]) (.seq (.reg strings_ContainsRune_r1 [.keep [4] []]) .ret))
@[simp ↓] theorem strings_ContainsRune_ic_run : run P Γ strings_ContainsRune_ic Q s = run P Γ (.seq (.reg strings_ContainsRune_r0 [.keep [0, 1] []]) (.seq (.reg strings_ContainsRune_r1 [.keep [4] []]) .ret)) Q s := Eq.trans rfl rfl
attribute [simp] strings_ContainsRune_r0 strings_ContainsRune_r1
def strings_ContainsRune_rv : List RV := [.tmp 4]

/- strings.ContainsFunc (function 136) -/
def strings_ContainsFunc_r0 : List RO := [
    ⟨some 4, .mv (.const (.bool false)), none, none⟩]
def strings_ContainsFunc_r1 : List RO := [
    ⟨some 5, .mv (.tmp 0), none, none⟩,
    ⟨some 6, .mv (.tmp 1), none, none⟩,
    ⟨some 7, .call 144 [(.tmp 5), (.tmp 6)], none, none⟩,
    ⟨some 8, .bin .geq (.tmp 7) (.const (.int .i64 0)), none, none⟩,
    ⟨some 4, .mv (.tmp 8), none, none⟩]
def strings_ContainsFunc_ic : IC := (.seq (.reg strings_ContainsFunc_r0 [.keep [0, 1] []]) (.seq (.reg strings_ContainsFunc_r1 [.keep [4] []]) .ret))
@[simp ↓] theorem strings_ContainsFunc_ic_run : run P Γ strings_ContainsFunc_ic Q s = run P Γ (.seq (.reg strings_ContainsFunc_r0 [.keep [0, 1] []]) (.seq (.reg strings_ContainsFunc_r1 [.keep [4] []]) .ret)) Q s := Eq.trans rfl rfl
attribute [simp] strings_ContainsFunc_r0 strings_ContainsFunc_r1
def strings_ContainsFunc_rv : List RV := [.tmp 4]

/- strings.IndexRune (function 143) -/
def strings_IndexRune_r0 : List RO := [
    ⟨some 4, .mv (.const (.int .i64 0)), none, none⟩]
def strings_IndexRune_r34 : List RO := [
    ⟨some 161, .mv (.tmp 1), none, none⟩,
    ⟨some 162, .bin .leq (.const (.int .i32 0)) (.tmp 161), none, none⟩,
    ⟨some 163, .mv (.tmp 162), none, none⟩,
    ⟨some 164, .mv (.tmp 1), some (163, true), none⟩,
    ⟨some 165, .bin .lss (.tmp 164) (.const (.int .i32 128)), some (163, true), none⟩,
    ⟨some 166, .pick (.tmp 163) (.tmp 165) (.const (.bool false)), none, none⟩,
    ⟨some 160, .mv (.tmp 166), none, none⟩]
def strings_IndexRune_r35 : List RO := [
    ⟨some 167, .mv (.tmp 0), none, none⟩,
    ⟨some 168, .mv (.tmp 1), none, none⟩,
    ⟨some 169, .conv .u8 (.tmp 168), none, none⟩,
    ⟨some 170, .call 91 [(.tmp 167), (.tmp 169)], none, none⟩,
    ⟨some 4, .mv (.tmp 170), none, none⟩]
def strings_IndexRune_r36 : List RO := [
    ⟨some 172, .mv (.tmp 1), none, none⟩,
    ⟨some 173, .bin .eql (.tmp 172) (.const (.int .i32 65533)), none, none⟩,
    ⟨some 171, .mv (.tmp 173), none, none⟩]
def strings_IndexRune_r43 : List RO := [
    ⟨some 184, .mv (.tmp 1), none, none⟩,
    ⟨some 185, .call 147 [(.tmp 184)], none, none⟩,
    ⟨some 186, .un .not (.tmp 185), none, none⟩,
    ⟨some 183, .mv (.tmp 186), none, none⟩]
def strings_IndexRune_ic : IC := (.seq (.reg strings_IndexRune_r0 [.keep [0, 1] []]) (.block 0 (.seq (.reg strings_IndexRune_r34 [.keep [0, 1, 160] []]) (.cond (.tmp 160) (.seq (.reg strings_IndexRune_r35 [.keep [4] []]) .ret) (.seq (.reg strings_IndexRune_r36 [.keep [1, 171] []]) (.cond (.tmp 171) .dead (.seq (.reg strings_IndexRune_r43 [.keep [183] []]) (.cond (.tmp 183) .dead .dead))))))))
@[simp ↓] theorem strings_IndexRune_ic_run : run P Γ strings_IndexRune_ic Q s = run P Γ (.seq (.reg strings_IndexRune_r0 [.keep [0, 1] []]) (.block 0 (.seq (.reg strings_IndexRune_r34 [.keep [0, 1, 160] []]) (.cond (.tmp 160) (.seq (.reg strings_IndexRune_r35 [.keep [4] []]) .ret) (.seq (.reg strings_IndexRune_r36 [.keep [1, 171] []]) (.cond (.tmp 171) .dead (.seq (.reg strings_IndexRune_r43 [.keep [183] []]) (.cond (.tmp 183) .dead .dead)))))))) Q s := Eq.trans rfl rfl
attribute [simp] strings_IndexRune_r0 strings_IndexRune_r34 strings_IndexRune_r35 strings_IndexRune_r36 strings_IndexRune_r43
def strings_IndexRune_rv : List RV := [.tmp 4]

/- strings.IndexFunc (function 144) -/
def strings_IndexFunc_r0 : List RO := [
    ⟨some 4, .mv (.const (.int .i64 0)), none, none⟩]
def strings_IndexFunc_r1 : List RO := [
    ⟨some 5, .mv (.tmp 0), none, none⟩,
    ⟨some 6, .mv (.tmp 1), none, none⟩,
    ⟨some 7, .call 150 [(.tmp 5), (.tmp 6), (.const (.bool true))], none, none⟩,
    ⟨some 4, .mv (.tmp 7), none, none⟩]
def strings_IndexFunc_ic : IC := (.seq (.reg strings_IndexFunc_r0 [.keep [0, 1] []]) (.seq (.reg strings_IndexFunc_r1 [.keep [4] []]) .ret))
@[simp ↓] theorem strings_IndexFunc_ic_run : run P Γ strings_IndexFunc_ic Q s = run P Γ (.seq (.reg strings_IndexFunc_r0 [.keep [0, 1] []]) (.seq (.reg strings_IndexFunc_r1 [.keep [4] []]) .ret)) Q s := Eq.trans rfl rfl
attribute [simp] strings_IndexFunc_r0 strings_IndexFunc_r1
def strings_IndexFunc_rv : List RV := [.tmp 4]

/- unicode/utf8.ValidRune (function 147) -/
def strings_indexFunc_r0 : List RO := [
    ⟨some 6, .mv (.const (.int .i64 0)), none, none⟩]
def strings_indexFunc_r1 : List RO := [
    ⟨some 9, .mv (.tmp 0), none, none⟩,
    ⟨some 10, .rng (.tmp 9), none, none⟩]
def strings_indexFunc_r2 : List RO := [
    ⟨some 11, .nxt (.tmp 10), none, none⟩,
    ⟨some 12, .ext (.tmp 11) 0, none, none⟩]
def strings_indexFunc_r3 : List RO := [
    ⟨some 13, .ext (.tmp 11) 1, none, none⟩,
    ⟨some 14, .ext (.tmp 11) 2, none, none⟩,
    ⟨some 7, .mv (.tmp 13), none, none⟩,
    ⟨some 8, .mv (.tmp 14), none, none⟩]
def strings_indexFunc_r4 : List RO := [
    ⟨some 15, .mv (.tmp 1), none, none⟩,
    ⟨some 16, .mv (.tmp 8), none, none⟩,
    ⟨some 17, .callv (.tmp 15) [(.tmp 16)], none, none⟩,
    ⟨some 18, .mv (.tmp 2), none, none⟩,
    ⟨some 19, .eqb true (.tmp 17) (.tmp 18), none, none⟩]
def strings_indexFunc_r5 : List RO := [
    ⟨some 20, .mv (.tmp 7), none, none⟩,
    ⟨some 6, .mv (.tmp 20), none, none⟩]
def strings_indexFunc_g0 : IC := .gh (.seq (.reg strings_indexFunc_r2 [.keep [1, 2, 10, 11, 12] [10]]) (.seq (.cond (.tmp 12) .skip (.exit 0)) (.block 1 (.seq (.reg strings_indexFunc_r3 [.keep [1, 2, 7, 8, 10] [10]]) (.seq (.reg strings_indexFunc_r4 [.keep [1, 2, 7, 10, 19] [10]]) (.cond (.tmp 19) (.seq (.reg strings_indexFunc_r5 [.keep [6] []]) .ret) .skip)))))) [.keep [1, 2, 10] [10]]
def strings_indexFunc_l1 : IC := .loop strings_indexFunc_g0
def strings_indexFunc_r6 : List RO := [
    ⟨some 6, .mv (.const (.int .i64 (-1))), none, none⟩]
def strings_indexFunc_ic : IC := (.seq (.reg strings_indexFunc_r0 [.keep [0, 1, 2] []]) (.seq (.seq (.reg strings_indexFunc_r1 [.keep [1, 2, 10] [10]]) (.block 0 strings_indexFunc_l1)) (.seq (.reg strings_indexFunc_r6 [.keep [6] []]) .ret)))
@[simp ↓] theorem strings_indexFunc_g0_run : run P Γ strings_indexFunc_g0 Q s = run P Γ (.gh (.seq (.reg strings_indexFunc_r2 [.keep [1, 2, 10, 11, 12] [10]]) (.seq (.cond (.tmp 12) .skip (.exit 0)) (.block 1 (.seq (.reg strings_indexFunc_r3 [.keep [1, 2, 7, 8, 10] [10]]) (.seq (.reg strings_indexFunc_r4 [.keep [1, 2, 7, 10, 19] [10]]) (.cond (.tmp 19) (.seq (.reg strings_indexFunc_r5 [.keep [6] []]) .ret) .skip)))))) [.keep [1, 2, 10] [10]]) Q s := Eq.trans rfl rfl
@[simp ↓] theorem strings_indexFunc_ic_run : run P Γ strings_indexFunc_ic Q s = run P Γ (.seq (.reg strings_indexFunc_r0 [.keep [0, 1, 2] []]) (.seq (.seq (.reg strings_indexFunc_r1 [.keep [1, 2, 10] [10]]) (.block 0 strings_indexFunc_l1)) (.seq (.reg strings_indexFunc_r6 [.keep [6] []]) .ret))) Q s := Eq.trans rfl rfl
theorem strings_indexFunc_l1_run (h : ∀ K : St → Prop, K = run P Γ strings_indexFunc_l1 Q → run P Γ strings_indexFunc_g0 (thenX K Q) s) : run P Γ strings_indexFunc_l1 Q s := run_loop h
attribute [simp] strings_indexFunc_r0 strings_indexFunc_r1 strings_indexFunc_r2 strings_indexFunc_r3 strings_indexFunc_r4 strings_indexFunc_r5 strings_indexFunc_r6
def strings_indexFunc_rv : List RV := [.tmp 6]

/- slices.Clone[[]int,int] (function 43) -/
def slices_Clone_int_r0 : List RO := [
    ⟨some 2, .mv (.const (.slice none 0 0)), none, none⟩]
def slices_Clone_int_r1 : List RO := [
    ⟨some 3, .mv (.tmp 0), none, none⟩,
    ⟨some 4, .isNil true (.tmp 3), none, none⟩]
def slices_Clone_int_r2 : List RO := [
    ⟨some 2, .mv (.const (.slice none 0 0)), none, none⟩]
def slices_Clone_int_r3 : List RO := [
    ⟨some 5, .bsl true 3 1 [], none, none⟩,
    ⟨some 6, .mv (.tmp 0), none, none⟩,
    ⟨some 7, .app false 3 1 (.tmp 5) (.tmp 6), none, none⟩,
    ⟨some 2, .mv (.tmp 7), none, none⟩]
def slices_Clone_int_ic : IC := (.seq (.reg slices_Clone_int_r0 [.keep [0] []]) (.seq (.seq (.reg slices_Clone_int_r1 [.keep [0, 4] []]) (.cond (.tmp 4) (.seq (.reg slices_Clone_int_r2 [.keep [2] [7]]) .ret) .skip)) (.seq (.reg slices_Clone_int_r3 [.keep [2] [7]]) .ret)))
@[simp ↓] theorem slices_Clone_int_ic_run : run P Γ slices_Clone_int_ic Q s = run P Γ (.seq (.reg slices_Clone_int_r0 [.keep [0] []]) (.seq (.seq (.reg slices_Clone_int_r1 [.keep [0, 4] []]) (.cond (.tmp 4) (.seq (.reg slices_Clone_int_r2 [.keep [2] [7]]) .ret) .skip)) (.seq (.reg slices_Clone_int_r3 [.keep [2] [7]]) .ret))) Q s := Eq.trans rfl rfl
attribute [simp] slices_Clone_int_r0 slices_Clone_int_r1 slices_Clone_int_r2 slices_Clone_int_r3
def slices_Clone_int_rv : List RV := [.tmp 2]

/- probecard/scans.plain (function 41) -/
def scans_plain_r0 : List RO := [
    ⟨some 1, .box true (.tmp 0), none, none⟩,
    ⟨some 2, .mv (.const (.int .i64 0)), none, none⟩]
def scans_plain_r1 : List RO := [
    ⟨some 4, .load 4 true (.tmp 1), none, none⟩,
    ⟨some 5, .call 14 [(.tmp 4)], none, none⟩,
    ⟨some 3, .mv (.tmp 5), none, none⟩]
def scans_plain_r2 : List RO := [
    ⟨some 6, .mv (.tmp 3), none, none⟩,
    ⟨some 7, .bin .neq (.tmp 6) (.const (.int .i64 0)), none, none⟩]
def scans_plain_r3 : List RO := [
    ⟨some 8, .mv (.tmp 3), none, none⟩,
    ⟨some 2, .mv (.tmp 8), none, none⟩]
def scans_plain_r4 : List RO := [
    ⟨some 9, .fadr 2 (.tmp 1), none, none⟩,
    ⟨some 10, .load 1 false (.tmp 9), none, none⟩,
    ⟨some 11, .len 0 (.tmp 10), none, none⟩,
    ⟨some 12, .bin .gtr (.tmp 11) (.const (.int .i64 0)), none, none⟩,
    ⟨some 13, .mv (.tmp 12), none, none⟩,
    ⟨some 14, .load 4 true (.tmp 1), some (13, false), none⟩,
    ⟨some 15, .bsl true 41 1 [(.const (.int .u8 15))], some (13, false), none⟩,
    ⟨some 16, .call 15 [(.tmp 14), (.tmp 15)], some (13, false), none⟩,
    ⟨some 17, .len 0 (.tmp 16), some (13, false), none⟩,
    ⟨some 18, .bin .gtr (.tmp 17) (.const (.int .i64 0)), some (13, false), none⟩,
    ⟨some 19, .pick (.tmp 13) (.const (.bool true)) (.tmp 18), none, none⟩]
def scans_plain_r5 : List RO := [
    ⟨some 2, .mv (.const (.int .i64 7)), none, none⟩]
def scans_plain_r6 : List RO := [
    ⟨some 2, .mv (.const (.int .i64 0)), none, none⟩]
def scans_plain_ic : IC := (.seq (.reg scans_plain_r0 [.keep [1] []]) (.seq (.seq (.reg scans_plain_r1 [.keep [1, 3] []]) (.seq (.reg scans_plain_r2 [.keep [1, 3, 7] []]) (.cond (.tmp 7) (.seq (.reg scans_plain_r3 [.keep [2] []]) .ret) .skip))) (.seq (.seq (.reg scans_plain_r4 [.keep [19] []]) (.cond (.tmp 19) (.seq (.reg scans_plain_r5 [.keep [2] []]) .ret) .skip)) (.seq (.reg scans_plain_r6 [.keep [2] []]) .ret))))
@[simp ↓] theorem scans_plain_ic_run : run P Γ scans_plain_ic Q s = run P Γ (.seq (.reg scans_plain_r0 [.keep [1] []]) (.seq (.seq (.reg scans_plain_r1 [.keep [1, 3] []]) (.seq (.reg scans_plain_r2 [.keep [1, 3, 7] []]) (.cond (.tmp 7) (.seq (.reg scans_plain_r3 [.keep [2] []]) .ret) .skip))) (.seq (.seq (.reg scans_plain_r4 [.keep [19] []]) (.cond (.tmp 19) (.seq (.reg scans_plain_r5 [.keep [2] []]) .ret) .skip)) (.seq (.reg scans_plain_r6 [.keep [2] []]) .ret)))) Q s := Eq.trans rfl rfl
attribute [simp] scans_plain_r0 scans_plain_r1 scans_plain_r2 scans_plain_r3 scans_plain_r4 scans_plain_r5 scans_plain_r6
def scans_plain_rv : List RV := [.tmp 2]
end
end Go.Lg

/- The abstract code is that of the program (by the kernel). Conditions: none. -/
namespace Go.Lg
open Go Go.Proofs
theorem netlists_Check_chk : chkF Tryd.prog 14 netlists_Check_ic 11 1 netlists_Check_rv = true := by kernel_rfl
theorem netlists_Of_chk : chkF Tryd.prog 15 netlists_Of_ic 27 2 netlists_Of_rv = true := by kernel_rfl
theorem netlists_States_chk : chkF Tryd.prog 17 netlists_States_ic 6 1 netlists_States_rv = true := by kernel_rfl
theorem netlists_Comb_chk : chkF Tryd.prog 35 netlists_Comb_ic 9 1 netlists_Comb_rv = true := by kernel_rfl
theorem slices_Clip_int_chk : chkF Tryd.prog 42 slices_Clip_int_ic 9 1 slices_Clip_int_rv = true := by kernel_rfl
theorem slices_Clip_ints_chk : chkF Tryd.prog 44 slices_Clip_ints_ic 9 1 slices_Clip_ints_rv = true := by kernel_rfl
theorem netlists_Levels_chk : chkF Tryd.prog 45 netlists_Levels_ic 131 1 netlists_Levels_rv = true := by kernel_rfl
theorem slices_Contains_api_Kind_chk : chkF Tryd.prog 46 slices_Contains_api_Kind_ic 9 2 slices_Contains_api_Kind_rv = true := by kernel_rfl
theorem netlists_shape_chk : chkF Tryd.prog 76 netlists_shape_ic 73 1 netlists_shape_rv = true := by kernel_rfl
theorem netlists_Fanout_chk : chkF Tryd.prog 77 netlists_Fanout_ic 65 1 netlists_Fanout_rv = true := by kernel_rfl
theorem slices_Index_api_Kind_chk : chkF Tryd.prog 78 slices_Index_api_Kind_ic 19 2 slices_Index_api_Kind_rv = true := by kernel_rfl
theorem logic_Fanin_chk : chkF Tryd.prog 82 logic_Fanin_ic 15 1 logic_Fanin_rv = true := by kernel_rfl
theorem strings_IndexByte_chk : chkF Tryd.prog 91 strings_IndexByte_ic 8 2 strings_IndexByte_rv = true := by kernel_rfl
theorem netlists_node_chk : chkF Tryd.prog 103 netlists_node_ic 53 2 netlists_node_rv = true := by kernel_rfl
theorem netlists_names_chk : chkF Tryd.prog 104 netlists_names_ic 25 1 netlists_names_rv = true := by kernel_rfl
theorem netlists_memory_chk : chkF Tryd.prog 105 netlists_memory_ic 37 2 netlists_memory_rv = true := by kernel_rfl
theorem slices_ContainsFunc_int_chk : chkF Tryd.prog 106 slices_ContainsFunc_int_ic 9 2 slices_ContainsFunc_int_rv = true := by kernel_rfl
theorem netlists_outside_chk : chkF Tryd.prog 107 netlists_outside_ic 4 1 netlists_outside_rv = true := by kernel_rfl
theorem slices_Clip_api_Line_chk : chkF Tryd.prog 108 slices_Clip_api_Line_ic 9 1 slices_Clip_api_Line_rv = true := by kernel_rfl
theorem i_stringslite_IndexByte_chk : chkF Tryd.prog 112 i_stringslite_IndexByte_ic 8 2 i_stringslite_IndexByte_rv = true := by kernel_rfl
theorem netlists_node_1_chk : chkF Tryd.prog 121 netlists_node_1_ic 11 2 netlists_node_1_rv = true := by kernel_rfl
theorem netlists_bit_chk : chkF Tryd.prog 122 netlists_bit_ic 45 2 netlists_bit_rv = true := by kernel_rfl
theorem netlists_IsName_chk : chkF Tryd.prog 123 netlists_IsName_ic 17 1 netlists_IsName_rv = true := by kernel_rfl
theorem netlists_memory_1_chk : chkF Tryd.prog 124 netlists_memory_1_ic 14 2 netlists_memory_1_rv = true := by kernel_rfl
theorem slices_IndexFunc_int_chk : chkF Tryd.prog 125 slices_IndexFunc_int_ic 19 2 slices_IndexFunc_int_rv = true := by kernel_rfl
theorem netlists_outside_1_chk : chkF Tryd.prog 126 netlists_outside_1_ic 13 2 netlists_outside_1_rv = true := by kernel_rfl
theorem netlists_IsName_1_chk : chkF Tryd.prog 134 netlists_IsName_1_ic 13 1 netlists_IsName_1_rv = true := by kernel_rfl
theorem strings_ContainsRune_chk : chkF Tryd.prog 135 strings_ContainsRune_ic 9 2 strings_ContainsRune_rv = true := by kernel_rfl
theorem strings_ContainsFunc_chk : chkF Tryd.prog 136 strings_ContainsFunc_ic 9 2 strings_ContainsFunc_rv = true := by kernel_rfl
theorem strings_IndexRune_chk : chkF Tryd.prog 143 strings_IndexRune_ic 187 2 strings_IndexRune_rv = true := by kernel_rfl
theorem strings_IndexFunc_chk : chkF Tryd.prog 144 strings_IndexFunc_ic 8 2 strings_IndexFunc_rv = true := by kernel_rfl
theorem strings_indexFunc_chk : chkF Tryd.prog 150 strings_indexFunc_ic 21 3 strings_indexFunc_rv = true := by kernel_rfl
theorem slices_Clone_int_chk : chkF Tryd.prog 43 slices_Clone_int_ic 8 1 slices_Clone_int_rv = true := by kernel_rfl
theorem scans_plain_chk : chkF Tryd.prog 41 scans_plain_ic 20 1 scans_plain_rv = true := by kernel_rfl
end Go.Lg

/- Small library functions on slices. Conditions: none. -/
set_option linter.unusedSimpArgs false
set_option linter.unusedVariables false
set_option maxRecDepth 100000
namespace Go.Lg
open Go Go.Proofs
variable {Γ : Tables}


theorem clip_int (es : List (List T)) (cap : Option Nat) (nl : Option Bool) (hw : wid 1 es) : PureCalls Tryd.prog Γ 42 [.sl es cap nl] (.sl es (some es.length) nl) := by
  refine run_pureQ slices_Clip_int_chk rfl ?_
  simp [slices_Clip_int_ic, slices_Clip_int_rv, ret, hw]
theorem clip_ints (es : List (List T)) (cap : Option Nat) (nl : Option Bool) (hw : wid 1 es) : PureCalls Tryd.prog Γ 44 [.sl es cap nl] (.sl es (some es.length) nl) := by
  refine run_pureQ slices_Clip_ints_chk rfl ?_
  simp [slices_Clip_ints_ic, slices_Clip_ints_rv, ret, hw]
theorem clip_line (es : List (List T)) (cap : Option Nat) (nl : Option Bool) (hw : wid 2 es) : PureCalls Tryd.prog Γ 108 [.sl es cap nl] (.sl es (some es.length) nl) := by
  refine run_pureQ slices_Clip_api_Line_chk rfl ?_
  simp [slices_Clip_api_Line_ic, slices_Clip_api_Line_rv, ret, hw]
theorem clip_int_h (ty : Nat) (es : List (List T)) (len : Nat) (cap : Option Nat) (hw : wid 1 es) : HCalls Tryd.prog Γ 42 [(1000000, .sl ty 1 es)] [.ls 1000000 0 len cap] (.ls 1000000 0 len (some len)) [(1000000, .sl ty 1 es)] := by
  refine run_handQ slices_Clip_int_chk rfl ?_
  simp [slices_Clip_int_ic, slices_Clip_int_rv, retH, hw]

theorem clone_int_h (l : List Int) (cap : Option Nat) (hl : l.length ≤ 1000000000) (h0 : l ≠ []) (nl : Option Bool) (hnl : nl ≠ some true) : HCalls Tryd.prog Γ 43 [] [.t (.sl (ints l) cap nl)] (.ls 7 0 l.length none) [(7, .sl 3 1 (ints l))] := by
  refine run_handQ slices_Clone_int_chk rfl ?_
  have h1 : ints l ≠ [] := by simpa [enc1] using h0
  rcases nl with _ | _ | _
  · simp (disch := omega) [slices_Clone_int_ic, slices_Clone_int_rv, retH, enc1_wid, enc1_len, h1, Later]
    omega
  · simp (disch := omega) [slices_Clone_int_ic, slices_Clone_int_rv, retH, enc1_wid, enc1_len, h1, Later]
    omega
  · exact absurd rfl hnl
end Go.Lg

/- Searches in slices; the small tests of netlists. Conditions: none. -/
set_option linter.unusedSimpArgs false
set_option linter.unusedVariables false
set_option maxRecDepth 100000
namespace Go.Lg
open Go Go.Proofs
variable {Γ : Tables}

def idxP {α : Type} (p : α → Bool) (l : List α) : Int := match l.findIdx? p with | some i => i | none => -1

theorem findIdx_at {α : Type} {p : α → Bool} {l : List α} {i : Nat} (hp : ∀ j, j < i → ∀ x, l[j]? = some x → p x = false) (x : α) (hx : l[i]? = some x) (h : p x = true) : l.findIdx? p = some i := by
  rw [List.findIdx?_eq_some_iff_getElem]
  have hi := (List.getElem?_eq_some_iff.1 hx).1
  refine ⟨hi, ?_, fun j hj => ?_⟩
  · have := (List.getElem?_eq_some_iff.1 hx).2; rw [this]; exact h
  · have := hp j hj l[j] (List.getElem?_eq_getElem (by omega))
    simp [this]

theorem index_kind_loop (l : List Int) (c : Option Nat) (nl : Option Bool) (x : Int) (hl : l.length ≤ 1000000000) : ∀ (k i : Nat), k + i = l.length → (∀ j, j < i → ∀ y, l[j]? = some y → (y == x) = false) →
    run Tryd.prog Γ slices_Index_api_Kind_l1 (blockX 0 (thenX (run Tryd.prog Γ (.seq (.reg slices_Index_api_Kind_r7 [.keep [4] []]) .ret) (ret true slices_Index_api_Kind_rv fun r => r = tI (idxP (· == x) l))) (ret true slices_Index_api_Kind_rv fun r => r = tI (idxP (· == x) l)))) ⟨[(0, .t (.sl (enc1 tK l) c nl)), (1, .t (tK x)), (7, .t (tI l.length)), (8, .t (tI i))], []⟩
  | 0, i, h, hp => by
    refine slices_Index_api_Kind_l1_run fun K hK => ?_
    have h2 : ¬ i < l.length := by omega
    simp (disch := omega) [enc1_len, enc1_get (0 : Int), enc1_wid, wrap_i64, h2, ret, slices_Index_api_Kind_rv, flatSt, flatL, flatA, flatT]
    have : l.findIdx? (· == x) = none := by
      rw [List.findIdx?_eq_none_iff]
      intro y hy
      obtain ⟨j, hj, rfl⟩ := List.getElem_of_mem hy
      exact hp j (by omega) _ (List.getElem?_eq_getElem hj)
    have e : l.findIdx? (fun y => decide (y = x)) = _ := this
    simp [idxP, e]
  | k + 1, i, h, hp => by
    refine slices_Index_api_Kind_l1_run fun K hK => ?_
    have h2 : i < l.length := by omega
    simp (disch := omega) [enc1_len, enc1_get (0 : Int), enc1_wid, wrap_i64, h2]
    refine ⟨fun hc => ?_, fun hc => ?_⟩
    · simp [Later, ret, slices_Index_api_Kind_rv, flatSt, flatL, flatA, flatT]
      have := findIdx_at (p := (· == x)) hp l[i] (List.getElem?_eq_getElem h2) (by simp [hc])
      have e : l.findIdx? (fun y => decide (y = x)) = _ := this
      simp [idxP, e]
    · simp (disch := omega) [Later, wrap_i64]
      rw [hK]
      exact_mod_cast index_kind_loop l c nl x hl k (i + 1) (by omega) (fun j hj y hy => by
        rcases Nat.lt_succ_iff_lt_or_eq.1 hj with hj | rfl
        · exact hp j hj y hy
        · rw [List.getElem?_eq_getElem h2] at hy; simp at hy; subst hy
          simp; exact fun e => hc e.symm)

theorem index_kind (l : List Int) (c : Option Nat) (nl : Option Bool) (x : Int) (hl : l.length ≤ 1000000000) : FreshCalls Tryd.prog Γ 78 [.sl (enc1 tK l) c nl, tK x] (tI (idxP (· == x) l)) := by
  refine run_freshQ slices_Index_api_Kind_chk rfl ?_
  simp (disch := omega) [slices_Index_api_Kind_ic, enc1_len, wrap_i64]
  exact_mod_cast index_kind_loop l c nl x hl l.length 0 (by omega) (by simp)

theorem contains_kind (l : List Int) (c : Option Nat) (nl : Option Bool) (x : Int) (hl : l.length ≤ 1000000000) : FreshCalls Tryd.prog Γ 46 [.sl (enc1 tK l) c nl, tK x] (tB (l.contains x)) := by
  refine run_freshQ slices_Contains_api_Kind_chk rfl ?_
  simp (disch := omega) [slices_Contains_api_Kind_ic, enc1_len, wrap_i64]
  refine callK_fresh (index_kind l c nl x hl) rfl ?_
  simp [ret, slices_Contains_api_Kind_rv, flatSt, flatL, flatA, flatT]
  unfold idxP
  cases h : l.findIdx? (· == x) with
  | none =>
    rw [List.findIdx?_eq_none_iff] at h
    have : ¬ x ∈ l := fun hx => by simpa using h x hx
    simp [this]
  | some i =>
    rw [List.findIdx?_eq_some_iff_getElem] at h
    obtain ⟨hi, h1, _⟩ := h
    have : x ∈ l := by rw [← (show l[i] = x by simpa using h1)]; exact List.getElem_mem hi
    simp [this]

theorem optAll_some {cs : List T} : optAll (cs.map fun t => some t) = some cs := by
  induction cs with
  | nil => rfl
  | cons t cs ih => simp only [List.map_cons, optAll, ih, Option.map_some]

theorem callK_clos {hp : List (Nat × Reg)} {f : FuncId} {K : T → Prop} {cs : List T} {t res : T} (h : FreshCalls Tryd.prog Γ f (t :: cs) res) (hk : K res) : callK Tryd.prog Γ hp f (.t t :: cs.map .t) K ⟨⟩ :=
  callK_fresh h (by simp only [List.map_cons, List.map_map, Function.comp_def, optAll, reify]; rw [optAll_some]; rfl) hk

theorem indexfunc_loop {Q : AX → St → Prop} (l : List Int) (c : Option Nat) (nl : Option Bool) (f : FuncId) (cs : List T) (p : Int → Bool) (hp : ∀ x ∈ l, FreshCalls Tryd.prog Γ f (tI x :: cs) (tB (p x))) (hl : l.length ≤ 1000000000)
    (h0 : (∀ x ∈ l, p x = false) → Q (.exit 0) ⟨[(0, .t (.sl (ints l) c nl)), (1, .t (.fn f cs)), (7, .t (tI l.length)), (8, .t (tI l.length)), (9, .t (tB false))], []⟩)
    (h1 : ∀ i : Nat, l.findIdx? p = some i → Q .ret ⟨[(4, .t (tI i))], []⟩) : ∀ (k i : Nat), k + i = l.length → (∀ j, j < i → ∀ y, l[j]? = some y → p y = false) →
    run Tryd.prog Γ slices_IndexFunc_int_l1 Q ⟨[(0, .t (.sl (ints l) c nl)), (1, .t (.fn f cs)), (7, .t (tI l.length)), (8, .t (tI i))], []⟩
  | 0, i, h, hq => by
    refine slices_IndexFunc_int_l1_run fun K hK => ?_
    have h2 : ¬ i < l.length := by omega
    simp (disch := omega) [enc1_len, enc1_get (0 : Int), enc1_wid, wrap_i64, h2]
    have h3 : i = l.length := by omega
    subst h3
    refine h0 fun y hy => ?_
    obtain ⟨j, hj, rfl⟩ := List.getElem_of_mem hy
    exact hq j (by omega) _ (List.getElem?_eq_getElem hj)
  | k + 1, i, h, hq => by
    refine slices_IndexFunc_int_l1_run fun K hK => ?_
    have h2 : i < l.length := by omega
    simp (disch := omega) [enc1_len, enc1_get (0 : Int), enc1_wid, wrap_i64, h2]
    refine callK_clos (hp l[i] (List.getElem_mem h2)) ?_
    simp
    refine ⟨fun hc => ?_, fun hc => ?_⟩
    · simp [Later]
      exact h1 i (findIdx_at hq l[i] (List.getElem?_eq_getElem h2) hc)
    · simp (disch := omega) [Later, wrap_i64]
      rw [hK]
      exact_mod_cast indexfunc_loop l c nl f cs p hp hl h0 h1 k (i + 1) (by omega) (fun j hj y hy => by
        rcases Nat.lt_succ_iff_lt_or_eq.1 hj with hj | rfl
        · exact hq j hj y hy
        · rw [List.getElem?_eq_getElem h2] at hy; simp at hy; subst hy; exact hc)

theorem indexfunc_int (l : List Int) (c : Option Nat) (nl : Option Bool) (f : FuncId) (cs : List T) (p : Int → Bool) (hp : ∀ x ∈ l, FreshCalls Tryd.prog Γ f (tI x :: cs) (tB (p x))) (hl : l.length ≤ 1000000000) : FreshCalls Tryd.prog Γ 125 [.sl (ints l) c nl, .fn f cs] (tI (idxP p l)) := by
  refine run_freshQ slices_IndexFunc_int_chk rfl ?_
  simp (disch := omega) [slices_IndexFunc_int_ic, enc1_len, wrap_i64]
  refine indexfunc_loop l c nl f cs p hp hl (fun h => ?_) (fun i h => ?_) l.length 0 (by omega) (by simp)
  · have : l.findIdx? p = none := List.findIdx?_eq_none_iff.2 h
    simp [ret, slices_IndexFunc_int_rv, flatSt, flatL, flatA, flatT, idxP, this]
  · simp [ret, slices_IndexFunc_int_rv, flatSt, flatL, flatA, flatT, idxP, h]

theorem containsfunc_int (l : List Int) (c : Option Nat) (nl : Option Bool) (f : FuncId) (cs : List T) (p : Int → Bool) (hp : ∀ x ∈ l, FreshCalls Tryd.prog Γ f (tI x :: cs) (tB (p x))) (hl : l.length ≤ 1000000000) : FreshCalls Tryd.prog Γ 106 [.sl (ints l) c nl, .fn f cs] (tB (l.any p)) := by
  refine run_freshQ slices_ContainsFunc_int_chk rfl ?_
  simp (disch := omega) [slices_ContainsFunc_int_ic, enc1_len, wrap_i64]
  refine callK_fresh (indexfunc_int l c nl f cs p hp hl) rfl ?_
  simp [ret, slices_ContainsFunc_int_rv, flatSt, flatL, flatA, flatT]
  unfold idxP
  cases h : l.findIdx? p with
  | none =>
    rw [List.findIdx?_eq_none_iff] at h
    have : l.any p = false := by rw [List.any_eq_false]; intro x hx; simp [h x hx]
    simp [this]
  | some i =>
    rw [List.findIdx?_eq_some_iff_getElem] at h
    obtain ⟨hi, h1, _⟩ := h
    have : l.any p = true := List.any_eq_true.2 ⟨_, List.getElem_mem hi, h1⟩
    simp [this]

theorem comb_spec (k : Int) : FreshCalls Tryd.prog Γ 35 [tK k] (tB (decide (1 ≤ k ∧ k ≤ 13))) := by
  refine run_freshQ netlists_Comb_chk rfl ?_
  by_cases h1 : 1 ≤ k <;> by_cases h2 : k ≤ 13 <;> simp [netlists_Comb_ic, ret, netlists_Comb_rv, flatSt, flatL, flatA, flatT, h1, h2]

/-- A circuit. -/
structure Nd where
  k : Int
  inn : Sl Int
  mem : Int
  bit : Int
structure Mm where
  addr : Sl Int
  data : Sl Int
  write : Int
structure Cir where
  nodes : Sl Nd
  names : Sl (List UInt8)
  mems : Sl Mm
  outs : Sl Int

def tNd (x : Nd) : List T := [tK x.k, tSl x.inn, tI x.mem, tI x.bit]
def tMm (m : Mm) : List T := [tSl m.addr, tSl m.data, tI m.write]
def tS (l : List UInt8) : T := .v (sV l)
def tNodes (s : Sl Nd) : T := .sl (encN tNd s.l) s.cap s.nl
def tNames (s : Sl (List UInt8)) : T := .sl (enc1 tS s.l) s.cap s.nl
def tMems (s : Sl Mm) : T := .sl (encN tMm s.l) s.cap s.nl
def tC (c : Cir) : List T := [tNodes c.nodes, tNames c.names, tMems c.mems, tSl c.outs]
def Nd.d : Nd := ⟨0, ⟨[], none, none⟩, 0, 0⟩
def Mm.d : Mm := ⟨⟨[], none, none⟩, ⟨[], none, none⟩, 0⟩
theorem tNd_wid {l : List Nd} : wid 4 (encN tNd l) := encN_wid fun _ => rfl
theorem tMm_wid {l : List Mm} : wid 3 (encN tMm l) := encN_wid fun _ => rfl

/-- Sizes that no machine reaches. -/
structure CirOk (c : Cir) : Prop where
  nodes : c.nodes.l.length ≤ 1000000000
  names : c.names.l.length ≤ 1000000000
  mems : c.mems.l.length ≤ 1000000000
  outs : c.outs.l.length ≤ 1000000000
  kind : ∀ x ∈ c.nodes.l, 0 ≤ x.k ∧ x.k ≤ 255
  inn : ∀ x ∈ c.nodes.l, x.inn.l.length ≤ 1000000000
  addr : ∀ m ∈ c.mems.l, m.addr.l.length ≤ 1000000000 ∧ m.data.l.length ≤ 1000000000

def outP (c : Cir) (n : Int) : Bool := decide (n < 0 ∨ (c.nodes.l.length : Int) ≤ n)

theorem outside1_spec (c : Cir) (n : Int) (hc : c.nodes.l.length ≤ 1000000000) : FreshCalls Tryd.prog Γ 126 [tI n, .ip (tC c) 0] (tB (outP c n)) := by
  refine run_freshQ netlists_outside_1_chk rfl ?_
  by_cases h1 : n < 0 <;> simp (disch := omega) [netlists_outside_1_ic, ret, netlists_outside_1_rv, flatSt, flatL, flatA, flatT, h1, tC, tNodes, encN_len, wrap_i64, outP]

theorem outside_spec (c : Cir) : PureCalls Tryd.prog Γ 107 [.agg (tC c)] (.fn 126 [.ip (tC c) 0]) := by
  refine run_pureQ netlists_outside_chk rfl ?_
  simp [netlists_outside_ic, ret, netlists_outside_rv, tC, onesT, onesA, T.one, AV.one, tNodes, tNames, tMems, tSl]

theorem containsOut (c : Cir) (hc : c.nodes.l.length ≤ 1000000000) (l : List Int) (cap : Option Nat) (nl : Option Bool) (hl : l.length ≤ 1000000000) : FreshCalls Tryd.prog Γ 106 [.sl (ints l) cap nl, .fn 126 [.ip (tC c) 0]] (tB (l.any (outP c))) :=
  containsfunc_int l cap nl _ _ _ (fun x _ => outside1_spec c x hc) hl
end Go.Lg

/- The checks of nodes and of memories. Conditions: none. -/
set_option linter.unusedSimpArgs false
set_option linter.unusedVariables false
set_option maxRecDepth 100000
namespace Go.Lg
open Go Go.Proofs
variable {Γ : Tables}

def fanL : List (Int × Int) := [(0, 0), (0, 0), (0, 0), (1, 1), (1, 1), (2, 16), (2, 16), (2, 16), (2, 16), (2, 16), (2, 16), (3, 3), (2, 2), (1, 16), (1, 1), (0, 0)]
def fanC : List T := fanL.flatMap fun p => [tI p.1, tI p.2]
def fan (k : Int) : Int × Int := if 16 ≤ k then (0, -1) else fanL.getD k.toNat (0, 0)

/-- The table of the fanins lies where the program looks. -/
def GOk (Γ : Tables) : Prop := Γ 0 = some fanC

theorem fanin_spec (hΓ : GOk Γ) (k : Int) (h0 : 0 ≤ k) (h1 : k ≤ 255) : FreshCalls Tryd.prog Γ 82 [tK k] (.tup [tI (fan k).1, tI (fan k).2]) := by
  unfold GOk at hΓ
  refine run_freshQ logic_Fanin_chk rfl ?_
  by_cases h2 : 16 ≤ k
  · simp (disch := omega) [logic_Fanin_ic, ret, logic_Fanin_rv, flatSt, flatL, flatA, flatT, h2, wrap_i64, fan]
  · have h3 : k = 0 ∨ k = 1 ∨ k = 2 ∨ k = 3 ∨ k = 4 ∨ k = 5 ∨ k = 6 ∨ k = 7 ∨ k = 8 ∨ k = 9 ∨ k = 10 ∨ k = 11 ∨ k = 12 ∨ k = 13 ∨ k = 14 ∨ k = 15 := by omega
    rcases h3 with rfl | rfl | rfl | rfl | rfl | rfl | rfl | rfl | rfl | rfl | rfl | rfl | rfl | rfl | rfl | rfl <;>
    simp (disch := omega) [logic_Fanin_ic, ret, logic_Fanin_rv, flatSt, flatL, flatA, flatT, wrap_i64, fan, hΓ, fanC, fanL] <;> exact ⟨rfl, rfl⟩

def bitOk (c : Cir) (x : Nd) : Bool :=
  if x.k ≠ 15 then decide (x.mem = 0 ∧ x.bit = 0)
  else decide (0 ≤ x.mem ∧ x.mem < c.mems.l.length ∧ 0 ≤ x.bit ∧ x.bit < ((c.mems.l.getD x.mem.toNat Mm.d).data.l.length))

theorem bit_spec (c : Cir) (x : Nd) (hc : CirOk c) : FreshCalls Tryd.prog Γ 122 [.agg (tC c), .agg (tNd x)] (tB (bitOk c x)) := by
  refine run_freshQ netlists_bit_chk rfl ?_
  have hm := hc.mems
  by_cases h1 : x.k = 15
  · by_cases h2 : 0 ≤ x.mem
    · by_cases h3 : x.mem < c.mems.l.length
      · have h3' : x.mem.toNat < c.mems.l.length := by omega
        by_cases h4 : 0 ≤ x.bit
        · simp (disch := omega) [netlists_bit_ic, ret, netlists_bit_rv, flatSt, flatL, flatA, flatT, onesT, onesA, T.one, AV.one, tC, tNd, tNodes, tNames, tMems, tSl, h1, h2, h3, h4, h3', encN_len, encN_get Mm.d, wrap_i64, tMm_wid, tMm, enc1_len, bitOk]
        · simp (disch := omega) [netlists_bit_ic, ret, netlists_bit_rv, flatSt, flatL, flatA, flatT, onesT, onesA, T.one, AV.one, tC, tNd, tNodes, tNames, tMems, tSl, h1, h2, h3, h4, h3', encN_len, encN_get Mm.d, wrap_i64, tMm_wid, tMm, enc1_len, bitOk]
      · simp (disch := omega) [netlists_bit_ic, ret, netlists_bit_rv, flatSt, flatL, flatA, flatT, onesT, onesA, T.one, AV.one, tC, tNd, tNodes, tNames, tMems, tSl, h1, h2, h3, encN_len, encN_get Mm.d, wrap_i64, tMm_wid, tMm, enc1_len, bitOk]
    · simp (disch := omega) [netlists_bit_ic, ret, netlists_bit_rv, flatSt, flatL, flatA, flatT, onesT, onesA, T.one, AV.one, tC, tNd, tNodes, tNames, tMems, tSl, h1, h2, encN_len, encN_get Mm.d, wrap_i64, tMm_wid, tMm, enc1_len, bitOk]
  · by_cases h2 : x.mem = 0
    · simp (disch := omega) [Later, netlists_bit_ic, netlists_bit_rv, tC, tNd, tNodes, tNames, tMems, tSl, h1, h2, bitOk, -decide_eq_decide]
    · have h2' : (x.mem == 0) = false := by simpa using h2
      simp (disch := omega) [Later, netlists_bit_ic, netlists_bit_rv, tC, tNd, tNodes, tNames, tMems, tSl, h1, h2, h2', bitOk]

def memOut (l : List Int) (most : Int) : Bool := decide (l.length = 0 ∨ most < l.length)

theorem memory1_spec (l : List Int) (cap : Option Nat) (nl : Option Bool) (most : Int) (hl : l.length ≤ 1000000000) : FreshCalls Tryd.prog Γ 124 [.sl (ints l) cap nl, tI most] (tB (memOut l most)) := by
  refine run_freshQ netlists_memory_1_chk rfl ?_
  by_cases h : l.length = 0 <;> simp (disch := omega) [netlists_memory_1_ic, ret, netlists_memory_1_rv, flatSt, flatL, flatA, flatT, enc1_len, h, memOut, wrap_i64]

def notTri (c : Cir) (n : Int) : Bool := decide ((c.nodes.l.getD n.toNat Nd.d).k ≠ 12)

theorem node1_spec (c : Cir) (n : Int) (h0 : 0 ≤ n) (h1 : n < c.nodes.l.length) : FreshCalls Tryd.prog Γ 121 [tI n, .ip (tC c) 0] (tB (notTri c n)) := by
  refine run_freshQ netlists_node_1_chk rfl ?_
  have h2 : n.toNat < c.nodes.l.length := by omega
  simp (disch := omega) [netlists_node_1_ic, ret, netlists_node_1_rv, flatSt, flatL, flatA, flatT, tC, tNodes, encN_len, encN_get Nd.d, tNd_wid, h0, h1, h2, notTri, tNd]

def nodeErr (c : Cir) (x : Nd) : Int :=
  if 15 < x.k then 7 else if (x.inn.l.length : Int) < (fan x.k).1 ∨ (fan x.k).2 < x.inn.l.length then 8 else if x.inn.l.any (outP c) then 1
  else if x.k = 13 ∧ x.inn.l.any (notTri c) = true then 7 else if bitOk c x = false then 1 else 0

theorem any_out {c : Cir} {l : List Int} (h : l.any (outP c) = false) : ∀ n ∈ l, 0 ≤ n ∧ n < c.nodes.l.length := by
  intro n hn
  have := List.any_eq_false.1 h n hn
  simp only [outP, decide_eq_true_eq, not_or, Int.not_lt, Int.not_le] at this
  exact this

theorem node_spec (hΓ : GOk Γ) (c : Cir) (x : Nd) (hc : CirOk c) (hk : 0 ≤ x.k ∧ x.k ≤ 255) (hl : x.inn.l.length ≤ 1000000000) : FreshCalls Tryd.prog Γ 103 [.agg (tC c), .agg (tNd x)] (tI (nodeErr c x)) := by
  refine run_freshQ netlists_node_chk rfl ?_
  have hn := hc.nodes
  have e1 := containsOut (Γ := Γ) c hn x.inn.l x.inn.cap x.inn.nl hl
  have e2 := fanin_spec hΓ x.k hk.1 hk.2
  have e3 := outside_spec (Γ := Γ) c
  have e4 := bit_spec (Γ := Γ) c x hc
  simp (disch := omega) [netlists_node_ic, onesT, onesA, T.one, AV.one, tC, tNd, tNodes, tNames, tMems, tSl]
  refine callK_fresh e2 rfl ?_
  simp (disch := omega)
  simp
  refine ⟨fun h1 => ?_, fun h1 => ?_⟩
  · simp [Later, ret, netlists_node_rv, flatSt, flatL, flatA, flatT, nodeErr, h1]
  by_cases h2 : (x.inn.l.length : Int) < (fan x.k).1
  · simp (disch := omega) [Later, enc1_len, wrap_i64, h2, ret, netlists_node_rv, flatSt, flatL, flatA, flatT, nodeErr, h1]
  by_cases h3 : (fan x.k).2 < x.inn.l.length
  · simp (disch := omega) [Later, enc1_len, wrap_i64, h2, h3, ret, netlists_node_rv, flatSt, flatL, flatA, flatT, nodeErr, h1]
  simp (disch := omega) [Later, enc1_len, wrap_i64, h2, h3]
  refine callK_pure e3 rfl ?_
  simp (disch := omega)
  refine callK_fresh e1 rfl ?_
  simp (disch := omega) [-List.any_eq_true, -List.any_eq_false]
  refine ⟨fun h4 => ?_, fun h4 => ?_⟩
  · simp [-List.any_eq_true, -List.any_eq_false, Later, ret, netlists_node_rv, flatSt, flatL, flatA, flatT, nodeErr, h1, h2, h3, h4]
  have h4' : x.inn.l.any (outP c) = false := h4
  by_cases h5 : x.k = 13
  · have e5 := containsfunc_int (Γ := Γ) x.inn.l x.inn.cap x.inn.nl 121 [.ip (tC c) 0] (notTri c) (fun n hm => node1_spec c n (any_out h4' n hm).1 (any_out h4' n hm).2) hl
    simp (disch := omega) [Later, h5]
    refine callK_fresh e5 rfl ?_
    simp [-List.any_eq_true, -List.any_eq_false]
    refine ⟨fun h6 => ?_, fun h6 => ?_⟩
    · have h6' : x.inn.l.any (notTri c) = true := h6
      simp [-List.any_eq_true, -List.any_eq_false, Later, ret, netlists_node_rv, flatSt, flatL, flatA, flatT, nodeErr, h1, h2, h3, h4', h5, h6']
      simp [h5] at h2 h3; omega
    · have h6' : x.inn.l.any (notTri c) = false := h6
      have e : nodeErr c x = if bitOk c x = false then 1 else 0 := by
        unfold nodeErr
        rw [if_neg (by omega), if_neg (by omega), if_neg (by simp [h4']), if_neg (by simp [h6'])]
      rw [e]
      simp (disch := omega) [Later, h6']
      rw [show tNd x = [tK 13, tSl x.inn, tI x.mem, tI x.bit] from by simp [tNd, h5]] at e4
      refine callK_fresh e4 rfl ?_
      simp
      refine ⟨fun h7 => ?_, fun h7 => ?_⟩ <;> simp [Later, netlists_node_rv, h7]
  · have e : nodeErr c x = if bitOk c x = false then 1 else 0 := by
      unfold nodeErr
      rw [if_neg (by omega), if_neg (by omega), if_neg (by simp [h4']), if_neg (by simp [h5])]
    rw [e]
    simp (disch := omega) [Later, h5]
    refine callK_fresh e4 rfl ?_
    simp
    refine ⟨fun h7 => ?_, fun h7 => ?_⟩ <;> simp [Later, netlists_node_rv, h7]
end Go.Lg

/- Names. Conditions: none. -/
set_option linter.unusedSimpArgs false
set_option linter.unusedVariables false
set_option maxRecDepth 100000
namespace Go.Lg
open Go Go.Proofs
variable {Γ : Tables}

theorem n127 : (Tryd.prog.funcs[127]?).map (fun f => (f.name, f.body.isNone, f.origin)) = some ("internal/bytealg.IndexByteString", true, "") := by kernel_rfl

abbrev tR (n : Int) : T := .v (.int .i32 n)

theorem indexByteString_spec (s : ByteArray) (c : Int) : FreshCalls Tryd.prog Γ 127 [.v (.string s), tK c] (tI (Lib.indexByte s.data.toList c.toNat.toUInt8)) := by
  intro w X vs hg hx hts
  obtain ⟨x, xs, rfl, h1, h2⟩ := hts.cons_inv
  obtain ⟨y, ys, rfl, h3, h4⟩ := h2.cons_inv
  have := h4.nil_inv; subst this
  cases h1; cases h3
  refine .inr ⟨.int .i64 (Lib.indexByte s.data.toList c.toNat.toUInt8), ?_, RowKit.Below.refl _ _, .v _⟩
  have h := n127
  simp only [Option.map_eq_some_iff, Prod.mk.injEq] at h
  obtain ⟨fn, hf, hn, hb, ho⟩ := h
  have e1 : Extern.findNext fn = none := by
    simp only [Extern.findNext, hn, ho]
    have a : Extern.allNextRows.lookup "internal/bytealg.IndexByteString" = none := by kernel_rfl
    have b : Extern.allNextRows.lookup "" = none := by kernel_rfl
    rw [a, b]; rfl
  have e2 : Extern.find fn = some Extern.BytealgIndexByte.indexByte := by
    simp only [Extern.find, hn, ho]
    have a : Extern.allGenericRows.lookup "internal/bytealg.IndexByteString" = none := by kernel_rfl
    have b : Extern.allTypedRows.lookup "internal/bytealg.IndexByteString" = none := by kernel_rfl
    have c : Extern.allRows.lookup "internal/bytealg.IndexByteString" = some Extern.BytealgIndexByte.indexByte := by kernel_rfl
    rw [a, b, c]; rfl
  have hnn : ¬ fn.name = "runtime.NumGoroutine" := by rw [hn]; decide
  have hr := Lib.run_indexByteString (P := Tryd.prog) s c w
  have hb' : fn.body = none := by simpa using hb
  simp [callFunc, hf, hnn, hb', e1, e2, hr]

theorem lite_spec (s : ByteArray) (c : Int) : FreshCalls Tryd.prog Γ 112 [.v (.string s), tK c] (tI (Lib.indexByte s.data.toList c.toNat.toUInt8)) := by
  refine run_freshQ i_stringslite_IndexByte_chk rfl ?_
  simp [i_stringslite_IndexByte_ic]
  refine callK_fresh (indexByteString_spec s c) rfl ?_
  simp [i_stringslite_IndexByte_rv]

theorem indexByte_spec (s : ByteArray) (c : Int) : FreshCalls Tryd.prog Γ 91 [.v (.string s), tK c] (tI (Lib.indexByte s.data.toList c.toNat.toUInt8)) := by
  refine run_freshQ strings_IndexByte_chk rfl ?_
  simp [strings_IndexByte_ic]
  refine callK_fresh (lite_spec s c) rfl ?_
  simp [strings_IndexByte_rv]

theorem indexRune_spec (s : ByteArray) (c : Int) (h0 : 0 ≤ c) (h1 : c < 128) : FreshCalls Tryd.prog Γ 143 [.v (.string s), tR c] (tI (Lib.indexByte s.data.toList c.toNat.toUInt8)) := by
  refine run_freshQ strings_IndexRune_chk rfl ?_
  simp (disch := omega) [strings_IndexRune_ic, h0, h1, wrap_u8]
  refine callK_fresh (indexByte_spec s c) rfl ?_
  simp [strings_IndexRune_rv]

theorem containsRune_spec (s : ByteArray) (c : Int) (h0 : 0 ≤ c) (h1 : c < 128) : FreshCalls Tryd.prog Γ 135 [.v (.string s), tR c] (tB (decide (0 ≤ Lib.indexByte s.data.toList c.toNat.toUInt8))) := by
  refine run_freshQ strings_ContainsRune_chk rfl ?_
  simp (disch := omega) [strings_ContainsRune_ic]
  refine callK_fresh (indexRune_spec s c h0 h1) rfl ?_
  simp [strings_ContainsRune_rv]

def badR (c : Int) : Bool := decide (c ≤ 32 ∨ 126 < c ∨ 0 ≤ Lib.indexByte [40, 41, 61, 44, 35] c.toNat.toUInt8)

theorem badR_spec (c : Int) : FreshCalls Tryd.prog Γ 134 [tR c] (tB (badR c)) := by
  refine run_freshQ netlists_IsName_1_chk rfl ?_
  by_cases h1 : c ≤ 32
  · simp [netlists_IsName_1_ic, netlists_IsName_1_rv, h1, badR]
  by_cases h2 : 126 < c
  · simp [netlists_IsName_1_ic, netlists_IsName_1_rv, h1, h2, badR]
  simp [netlists_IsName_1_ic, h1, h2]
  refine callK_fresh (containsRune_spec ⟨#[40, 41, 61, 44, 35]⟩ c (by omega) (by omega)) rfl ?_
  simp [netlists_IsName_1_rv, badR, h1, h2]

theorem decode_asc (s : List UInt8) (i : Nat) (hi : i < s.length) (ha : s[i] < 128) : Utf8.decode ⟨s.toArray⟩ i = ((s[i]).toNat, 1) := by
  have e : (ByteArray.mk s.toArray).get! (i + 0) = s[i] := by
    simp [ByteArray.get!, hi]
  have h2 : (s[i]).toNat < 128 := by simpa [UInt8.lt_iff_toNat_lt] using ha
  unfold Utf8.decode
  simp only [e, h2, ↓reduceIte]

def badS (s : List UInt8) : Bool := s.any fun b => badR b.toNat

theorem indexFunc_loop {Q : AX → St → Prop} (s : List UInt8) (ha : ∀ b ∈ s, b < 128)
    (h0 : badS s = false → Q (.exit 0) ⟨[(1, .t (.fn 134 [])), (2, .t (tB true)), (10, .li 10), (11, .t (.tup [tB false])), (12, .t (tB false))], [(10, .it ⟨s.toArray⟩ s.length)]⟩)
    (h1 : badS s = true → ∀ i : Nat, Q .ret ⟨[(6, .t (tI i))], []⟩) : ∀ (k i : Nat), k + i = s.length → (∀ j, j < i → ∀ b, s[j]? = some b → badR b.toNat = false) →
    run Tryd.prog Γ strings_indexFunc_l1 Q ⟨[(1, .t (.fn 134 [])), (2, .t (tB true)), (10, .li 10)], [(10, .it ⟨s.toArray⟩ i)]⟩
  | 0, i, h, hq => by
    refine strings_indexFunc_l1_run fun K hK => ?_
    have h2 : ¬ i < s.length := by omega
    have h3 : i = s.length := by omega
    have h4 : ¬ i < (ByteArray.mk s.toArray).size := by simpa [ByteArray.size] using h2
    simp [h2]
    subst h3
    refine h0 (List.any_eq_false.2 fun b hb => ?_)
    obtain ⟨j, hj, rfl⟩ := List.getElem_of_mem hb
    simp [hq j hj _ (List.getElem?_eq_getElem hj)]
  | k + 1, i, h, hq => by
    refine strings_indexFunc_l1_run fun K hK => ?_
    have h2 : i < s.length := by omega
    have h4 : i < (ByteArray.mk s.toArray).size := by simpa [ByteArray.size] using h2
    simp [h2, decode_asc s i h2 (ha _ (List.getElem_mem h2))]
    refine callK_fresh (badR_spec s[i].toNat) rfl ?_
    simp
    refine ⟨fun hc => ?_, fun hc => ?_⟩
    · simp [Later]
      exact h1 (List.any_eq_true.2 ⟨_, List.getElem_mem h2, hc⟩) i
    · simp [Later]
      rw [hK]
      exact indexFunc_loop s ha h0 h1 k (i + 1) (by omega) (fun j hj b hb => by
        rcases Nat.lt_succ_iff_lt_or_eq.1 hj with hj | rfl
        · exact hq j hj b hb
        · rw [List.getElem?_eq_getElem h2] at hb; simp at hb; subst hb; exact hc)

theorem indexFunc_ex (s : List UInt8) (ha : ∀ b ∈ s, b < 128) : ∃ n : Int, FreshCalls Tryd.prog Γ 150 [tS s, .fn 134 [], tB true] (tI n) ∧ (0 ≤ n ↔ badS s = true) := by
  have : ∃ r, FreshCalls Tryd.prog Γ 150 [tS s, .fn 134 [], tB true] r ∧ ∃ n, r = tI n ∧ (0 ≤ n ↔ badS s = true) := by
    refine run_fresh strings_indexFunc_chk rfl ?_
    simp [strings_indexFunc_ic, tS, sV]
    refine indexFunc_loop s ha (fun h => ?_) (fun h i => ?_) s.length 0 (by omega) (by simp)
    · simp [strings_indexFunc_rv, h]
    · simp [strings_indexFunc_rv, h]
  obtain ⟨_, h1, n, rfl, h2⟩ := this
  exact ⟨n, h1, h2⟩

theorem strIndexFunc_ex (s : List UInt8) (ha : ∀ b ∈ s, b < 128) : ∃ n : Int, FreshCalls Tryd.prog Γ 144 [tS s, .fn 134 []] (tI n) ∧ (0 ≤ n ↔ badS s = true) := by
  obtain ⟨n, h1, h2⟩ := indexFunc_ex (Γ := Γ) s ha
  refine ⟨n, run_freshQ strings_IndexFunc_chk rfl ?_, h2⟩
  simp [strings_IndexFunc_ic]
  refine callK_fresh h1 rfl ?_
  simp [strings_IndexFunc_rv]

theorem strContainsFunc_spec (s : List UInt8) (ha : ∀ b ∈ s, b < 128) : FreshCalls Tryd.prog Γ 136 [tS s, .fn 134 []] (tB (badS s)) := by
  obtain ⟨n, h1, h2⟩ := strIndexFunc_ex (Γ := Γ) s ha
  refine run_freshQ strings_ContainsFunc_chk rfl ?_
  simp [strings_ContainsFunc_ic]
  refine callK_fresh h1 rfl ?_
  simp [strings_ContainsFunc_rv, h2]

def isName (s : List UInt8) : Bool := decide (s ≠ [] ∧ s.length ≤ 32) && !badS s

theorem isName_spec (s : List UInt8) (ha : ∀ b ∈ s, b < 128) : FreshCalls Tryd.prog Γ 123 [tS s] (tB (isName s)) := by
  refine run_freshQ netlists_IsName_chk rfl ?_
  have h := strContainsFunc_spec (Γ := Γ) s ha
  by_cases h1 : s = []
  · simp [netlists_IsName_ic, netlists_IsName_rv, tS, sV, h1, isName]
  have h1' : s.isEmpty = false := by simpa using h1
  by_cases h2 : s.length ≤ 32
  · have h2' : (s.length : Int) ≤ 32 := by omega
    simp [netlists_IsName_ic, tS, sV, h1, h1', h2']
    refine callK_fresh h rfl ?_
    simp [netlists_IsName_rv, isName, h1, h2]
  · have h2' : ¬ (s.length : Int) ≤ 32 := by omega
    simp [netlists_IsName_ic, netlists_IsName_rv, tS, sV, h1, h1', h2', h2, isName]
end Go.Lg

/- The shape of a circuit. Conditions: none. -/
set_option linter.unusedSimpArgs false
set_option linter.unusedVariables false
set_option maxRecDepth 100000
namespace Go.Lg
open Go Go.Proofs
variable {Γ : Tables}

def memErr (c : Cir) (m : Mm) : Int :=
  if memOut m.addr.l 8 = true ∨ memOut m.data.l 32 = true then 8 else if m.addr.l.any (outP c) = true ∨ m.data.l.any (outP c) = true ∨ outP c m.write = true then 1 else 0

theorem memory_spec (c : Cir) (m : Mm) (hc : CirOk c) (hm : m.addr.l.length ≤ 1000000000 ∧ m.data.l.length ≤ 1000000000) : FreshCalls Tryd.prog Γ 105 [.agg (tC c), .agg (tMm m)] (tI (memErr c m)) := by
  refine run_freshQ netlists_memory_chk rfl ?_
  have hn := hc.nodes
  have e1 := containsOut (Γ := Γ) c hn m.addr.l m.addr.cap m.addr.nl hm.1
  have e2 := containsOut (Γ := Γ) c hn m.data.l m.data.cap m.data.nl hm.2
  have e3 := outside_spec (Γ := Γ) c
  have e4 := memory1_spec (Γ := Γ) m.addr.l m.addr.cap m.addr.nl 8 hm.1
  have e5 := memory1_spec (Γ := Γ) m.data.l m.data.cap m.data.nl 32 hm.2
  have e6 := outside1_spec (Γ := Γ) c m.write hn
  simp [netlists_memory_ic, tC, tMm, tNodes, tNames, tMems, tSl]
  refine callK_pure e3 rfl ?_
  simp
  refine callK_fresh e4 rfl ?_
  have fin2 : ∀ b : Bool, b = decide (m.addr.l.any (outP c) = true ∨ m.data.l.any (outP c) = true ∨ outP c m.write = true) → (memOut m.addr.l 8 = false) → (memOut m.data.l 32 = false) → memErr c m = if b then 1 else 0 := by
    intro b hb h1 h2
    subst hb
    unfold memErr
    rw [if_neg (by simp [h1, h2])]
    simp
  by_cases h1 : memOut m.addr.l 8 = true
  · simp [h1, netlists_memory_rv, memErr]
  have h1' : memOut m.addr.l 8 = false := by simpa using h1
  simp [h1']
  refine callK_fresh e5 rfl ?_
  by_cases h2 : memOut m.data.l 32 = true
  · simp [h2, netlists_memory_rv, memErr]
  have h2' : memOut m.data.l 32 = false := by simpa using h2
  simp [h2']
  refine callK_fresh e1 rfl ?_
  generalize m.addr.l.any (outP c) = b1 at e1 fin2
  generalize m.data.l.any (outP c) = b2 at e2 fin2
  generalize outP c m.write = b3 at e6 fin2
  cases b1 with
  | true => simp [netlists_memory_rv, fin2 true (by simp) h1' h2']
  | false =>
    simp
    refine callK_fresh e2 rfl ?_
    cases b2 with
    | true => simp [netlists_memory_rv, fin2 true (by simp) h1' h2']
    | false =>
      simp
      refine callK_clos e6 ?_
      cases b3 with
      | true => simp [netlists_memory_rv, fin2 true (by simp) h1' h2']
      | false => simp [netlists_memory_rv, fin2 false (by simp) h1' h2']

/-- The names seen so far, as the map that the program keeps. -/
def seenM (l : List (List UInt8)) : List (Value × T) := l.map fun s => (sV s, tB true)
theorem sV_eq (a b : List UInt8) : keyEq (sV a) (sV b) = decide (a = b) := by
  simp only [keyEq, sV]
  by_cases h : a = b
  · subst h; simp [ba_beq]
  · have : ¬ (ByteArray.mk a.toArray) = ⟨b.toArray⟩ := fun e => h (by simpa using e)
    have h2 : ((ByteArray.mk a.toArray) == ⟨b.toArray⟩) = false := by
      cases hq : ((ByteArray.mk a.toArray) == ⟨b.toArray⟩)
      · rfl
      · exact absurd ((ba_beq _ _).1 hq) this
    rw [h2]; simp [h]
theorem seenM_find (x : List UInt8) : ∀ l : List (List UInt8), findM (sV x) (seenM l) = if x ∈ l then some (tB true) else none
  | [] => rfl
  | y :: l => by
    have ih := seenM_find x l
    simp only [seenM, List.map_cons, findM, sV_eq] at ih ⊢
    by_cases h : x = y
    · simp [h]
    · simp [h, ih]
theorem seenM_set (x : List UInt8) : ∀ l : List (List UInt8), x ∉ l → setM (sV x) (tB true) (seenM l) = seenM (l ++ [x])
  | [], _ => rfl
  | y :: l, h => by
    have ih := seenM_set x l (fun hm => h (List.mem_cons_of_mem _ hm))
    have hne : x ≠ y := fun e => h (by simp [e])
    simp only [seenM, List.map_cons, setM, sV_eq, List.cons_append] at ih ⊢
    simp [hne, ih]
theorem seenM_fit (l : List (List UInt8)) : keysFit .str (seenM l) := by
  intro e he; obtain ⟨s, _, rfl⟩ := List.mem_map.1 he; rfl

def namesErr : List (List UInt8) → List (List UInt8) → Int
  | _, [] => 0
  | done, s :: l => if isName s = false ∨ s ∈ done then 5 else namesErr (done ++ [s]) l

theorem names_loop {Q : AX → St → Prop} (n : Sl (List UInt8)) (hl : n.l.length ≤ 1000000000) (ha : ∀ s ∈ n.l, ∀ b ∈ s, b < 128) (R : Int)
    (h0 : R = 0 → ∀ m : List (Value × T), Q (.exit 0) ⟨[(3, .lm 6), (8, .t (tNames n)), (9, .t (tI n.l.length)), (10, .t (tI n.l.length)), (11, .t (tB false))], [(6, .mp m)]⟩)
    (h5 : R = 5 → Q .ret ⟨[(2, .t (tI 5))], []⟩) : ∀ (k i : Nat), k + i = n.l.length → namesErr (n.l.take i) (n.l.drop i) = R →
    run Tryd.prog Γ netlists_names_l1 Q ⟨[(3, .lm 6), (8, .t (tNames n)), (9, .t (tI n.l.length)), (10, .t (tI i))], [(6, .mp (seenM (n.l.take i)))]⟩
  | 0, i, h, hR => by
    refine netlists_names_l1_run fun K hK => ?_
    have h2 : ¬ i < n.l.length := by omega
    have h3 : i = n.l.length := by omega
    simp [h2, tNames]
    subst h3
    refine h0 ?_ _
    rw [← hR]; simp [namesErr]
  | k + 1, i, h, hR => by
    refine netlists_names_l1_run fun K hK => ?_
    have h2 : i < n.l.length := by omega
    simp (disch := omega) [h2, tNames, enc1_len, enc1_get ([] : List UInt8), enc1_wid]
    refine callK_fresh (isName_spec n.l[i] (ha _ (List.getElem_mem h2))) rfl ?_
    have hd : n.l.drop i = n.l[i] :: n.l.drop (i + 1) := List.drop_eq_getElem_cons h2
    rw [hd] at hR
    simp only [namesErr] at hR
    have ht : n.l.take i ++ [n.l[i]] = n.l.take (i + 1) := by rw [List.take_add_one]; simp [h2]
    by_cases hq : isName n.l[i] = true
    · have hfit := seenM_fit (n.l.take i)
      simp [hq, tS, KT.fits, sV, hfit]
      rw [show (Value.string ⟨(n.l[i]).toArray⟩) = sV n.l[i] from rfl, seenM_find]
      by_cases hm : n.l[i] ∈ n.l.take i
      · simp [hm]
        refine h5 ?_
        rw [← hR, if_pos (.inr hm)]
      · rw [if_neg (by simp [hq, hm]), ht] at hR
        simp (disch := omega) [hm, sV, KT.fits, hfit, wrap_i64]
        rw [hK]
        have := names_loop n hl ha R h0 h5 k (i + 1) (by omega) hR
        rw [show (Value.string ⟨(n.l[i]).toArray⟩) = sV n.l[i] from rfl, seenM_set _ _ hm, ht]
        exact_mod_cast this
    · have hq' : isName n.l[i] = false := by simpa using hq
      simp [hq']
      refine h5 ?_
      rw [← hR, if_pos (.inl hq')]

theorem names_spec (c : Cir) (hc : CirOk c) (ha : ∀ s ∈ c.names.l, ∀ b ∈ s, b < 128) : FreshCalls Tryd.prog Γ 104 [.agg (tC c)] (tI (namesErr [] c.names.l)) := by
  refine run_freshQ netlists_names_chk rfl ?_
  simp [netlists_names_ic, tC, tNodes, tNames, tMems, tSl, enc1_len]
  refine names_loop c.names hc.names ha (namesErr [] c.names.l) (fun h m => ?_) (fun h => ?_) c.names.l.length 0 (by omega) (by simp)
  · simp [netlists_names_rv, h]
  · simp [netlists_names_rv, h]
end Go.Lg

/- The shape of a circuit, continued; nodes of given kinds. Conditions: none. -/
set_option linter.unusedSimpArgs false
set_option linter.unusedVariables false
set_option maxRecDepth 100000
namespace Go.Lg
open Go Go.Proofs
variable {Γ : Tables}

def firstErr : List Int → Int
  | [] => 0
  | e :: l => if e ≠ 0 then e else firstErr l

theorem firstErr_drop {α : Type} (f : α → Int) (l : List α) (i : Nat) (h : i < l.length) : firstErr ((l.drop i).map f) = if f l[i] ≠ 0 then f l[i] else firstErr ((l.drop (i + 1)).map f) := by
  rw [List.drop_eq_getElem_cons h]; rfl

theorem shape_nodes {Q : AX → St → Prop} (hΓ : GOk Γ) (c : Cir) (hc : CirOk c) (R : Int)
    (h0 : R = 0 → Q (.exit 1) ⟨[(1, .t (.ip (tC c) 0)), (36, .t (tNodes c.nodes)), (37, .t (tI c.nodes.l.length)), (38, .t (tI c.nodes.l.length)), (39, .t (tB false))], []⟩)
    (h5 : R ≠ 0 → Q .ret ⟨[(2, .t (tI R))], []⟩) : ∀ (k i : Nat), k + i = c.nodes.l.length → firstErr ((c.nodes.l.drop i).map (nodeErr c)) = R →
    run Tryd.prog Γ netlists_shape_l1 Q ⟨[(1, .t (.ip (tC c) 0)), (36, .t (tNodes c.nodes)), (37, .t (tI c.nodes.l.length)), (38, .t (tI i))], []⟩
  | 0, i, h, hR => by
    refine netlists_shape_l1_run fun K hK => ?_
    have h2 : ¬ i < c.nodes.l.length := by omega
    have h3 : i = c.nodes.l.length := by omega
    simp [h2]
    subst h3
    exact h0 (by rw [← hR]; simp [firstErr])
  | k + 1, i, h, hR => by
    refine netlists_shape_l1_run fun K hK => ?_
    have h2 : i < c.nodes.l.length := by omega
    have hn := hc.nodes
    have hx := List.getElem_mem h2
    rw [firstErr_drop (nodeErr c) _ _ h2] at hR
    have e := node_spec (Γ := Γ) hΓ c c.nodes.l[i] hc (hc.kind _ hx) (hc.inn _ hx)
    simp (disch := omega) [h2, tNodes, encN_len, encN_get Nd.d, tNd_wid, tNd, tC, tSl]
    refine callK_fresh e rfl ?_
    by_cases hq : nodeErr c c.nodes.l[i] = 0
    · rw [if_neg (by simp [hq])] at hR
      simp (disch := omega) [hq, wrap_i64]
      rw [hK]
      have := shape_nodes hΓ c hc R h0 h5 k (i + 1) (by omega) hR
      simpa [tC, tNodes, tSl] using this
    · rw [if_pos (by simpa using hq)] at hR
      simp [hq]
      rw [hR]
      exact h5 (by rw [← hR]; exact hq)

theorem shape_mems {Q : AX → St → Prop} (c : Cir) (hc : CirOk c) (R : Int)
    (h0 : R = 0 → Q (.exit 3) ⟨[(1, .t (.ip (tC c) 0)), (55, .t (tMems c.mems)), (56, .t (tI c.mems.l.length)), (57, .t (tI c.mems.l.length)), (58, .t (tB false))], []⟩)
    (h5 : R ≠ 0 → Q .ret ⟨[(2, .t (tI R))], []⟩) : ∀ (k i : Nat), k + i = c.mems.l.length → firstErr ((c.mems.l.drop i).map (memErr c)) = R →
    run Tryd.prog Γ netlists_shape_l3 Q ⟨[(1, .t (.ip (tC c) 0)), (55, .t (tMems c.mems)), (56, .t (tI c.mems.l.length)), (57, .t (tI i))], []⟩
  | 0, i, h, hR => by
    refine netlists_shape_l3_run fun K hK => ?_
    have h2 : ¬ i < c.mems.l.length := by omega
    have h3 : i = c.mems.l.length := by omega
    simp [h2]
    subst h3
    exact h0 (by rw [← hR]; simp [firstErr])
  | k + 1, i, h, hR => by
    refine netlists_shape_l3_run fun K hK => ?_
    have h2 : i < c.mems.l.length := by omega
    have hn := hc.mems
    have hx := List.getElem_mem h2
    rw [firstErr_drop (memErr c) _ _ h2] at hR
    have e := memory_spec (Γ := Γ) c c.mems.l[i] hc (hc.addr _ hx)
    simp (disch := omega) [h2, tMems, encN_len, encN_get Mm.d, tMm_wid, tMm, tC, tSl]
    refine callK_fresh e rfl ?_
    by_cases hq : memErr c c.mems.l[i] = 0
    · rw [if_neg (by simp [hq])] at hR
      simp (disch := omega) [hq, wrap_i64]
      rw [hK]
      have := shape_mems c hc R h0 h5 k (i + 1) (by omega) hR
      simpa [tC, tMems, tSl] using this
    · rw [if_pos (by simpa using hq)] at hR
      simp [hq]
      rw [hR]
      exact h5 (by rw [← hR]; exact hq)

def shapeErr (c : Cir) : Int :=
  if 16384 < c.nodes.l.length ∨ 16 < c.mems.l.length ∨ 16384 < c.outs.l.length then 3 else if c.names.l.length ≠ c.nodes.l.length then 8
  else if firstErr (c.nodes.l.map (nodeErr c)) ≠ 0 then firstErr (c.nodes.l.map (nodeErr c))
  else if namesErr [] c.names.l ≠ 0 then namesErr [] c.names.l
  else if firstErr (c.mems.l.map (memErr c)) ≠ 0 then firstErr (c.mems.l.map (memErr c))
  else if c.outs.l.any (outP c) = true then 1 else 0

theorem shape_spec (hΓ : GOk Γ) (c : Cir) (hc : CirOk c) (ha : ∀ s ∈ c.names.l, ∀ b ∈ s, b < 128) : FreshCalls Tryd.prog Γ 76 [.agg (tC c)] (tI (shapeErr c)) := by
  refine run_freshQ netlists_shape_chk rfl ?_
  have hn := hc.nodes
  have hm := hc.mems
  have ho := hc.outs
  have hnn := hc.names
  have en := names_spec (Γ := Γ) c hc ha
  have eo := outside_spec (Γ := Γ) c
  have ec := containsOut (Γ := Γ) c hn c.outs.l c.outs.cap c.outs.nl ho
  by_cases h1 : 16384 < c.nodes.l.length ∨ 16 < c.mems.l.length ∨ 16384 < c.outs.l.length
  · have : shapeErr c = 3 := by unfold shapeErr; rw [if_pos h1]
    rw [this]
    by_cases g1 : (16384 : Int) < c.nodes.l.length
    · simp [netlists_shape_ic, netlists_shape_rv, tC, tNodes, tNames, tMems, tSl, encN_len, enc1_len, g1]
    by_cases g2 : (16 : Int) < c.mems.l.length
    · simp [netlists_shape_ic, netlists_shape_rv, tC, tNodes, tNames, tMems, tSl, encN_len, enc1_len, g1, g2]
    have g3 : (16384 : Int) < c.outs.l.length := by omega
    simp [netlists_shape_ic, netlists_shape_rv, tC, tNodes, tNames, tMems, tSl, encN_len, enc1_len, g1, g2, g3]
  have g1 : ¬ (16384 : Int) < c.nodes.l.length := by omega
  have g2 : ¬ (16 : Int) < c.mems.l.length := by omega
  have g3 : ¬ (16384 : Int) < c.outs.l.length := by omega
  by_cases h2 : c.names.l.length = c.nodes.l.length
  case neg =>
    have : shapeErr c = 8 := by unfold shapeErr; rw [if_neg h1, if_pos h2]
    have h2' : ¬ (c.names.l.length : Int) = c.nodes.l.length := by omega
    rw [this]
    simp [netlists_shape_ic, netlists_shape_rv, tC, tNodes, tNames, tMems, tSl, encN_len, enc1_len, g1, g2, g3, h2']
  simp [netlists_shape_ic, tC, tNodes, tNames, tMems, tSl, encN_len, enc1_len, g1, g2, g3, h2]
  have e0 : shapeErr c = if firstErr (c.nodes.l.map (nodeErr c)) ≠ 0 then firstErr (c.nodes.l.map (nodeErr c))
      else if namesErr [] c.names.l ≠ 0 then namesErr [] c.names.l
      else if firstErr (c.mems.l.map (memErr c)) ≠ 0 then firstErr (c.mems.l.map (memErr c))
      else if c.outs.l.any (outP c) = true then 1 else 0 := by
    unfold shapeErr; rw [if_neg h1, if_neg (by simp [h2])]
  refine shape_nodes hΓ c hc (firstErr (c.nodes.l.map (nodeErr c))) (fun h3 => ?_) (fun h3 => ?_) c.nodes.l.length 0 (by omega) (by simp)
  case refine_2 =>
    rw [if_pos h3] at e0
    simp [netlists_shape_rv, e0]
  rw [if_neg (by rw [h3]; decide)] at e0
  simp [tC, tNodes, tNames, tMems, tSl]
  refine callK_fresh en rfl ?_
  by_cases h4 : namesErr [] c.names.l = 0
  case neg =>
    rw [if_pos h4] at e0
    simp [h4, netlists_shape_rv, e0]
  rw [if_neg (by rw [h4]; decide)] at e0
  simp [h4, encN_len]
  refine shape_mems c hc (firstErr (c.mems.l.map (memErr c))) (fun h5 => ?_) (fun h5 => ?_) c.mems.l.length 0 (by omega) (by simp)
  case refine_2 =>
    rw [if_pos h5] at e0
    simp [netlists_shape_rv, e0]
  rw [if_neg (by rw [h5]; decide)] at e0
  simp [tC, tNodes, tNames, tMems, tSl]
  refine callK_pure eo rfl ?_
  simp
  refine callK_fresh ec rfl ?_
  generalize c.outs.l.any (outP c) = b at e0
  cases b <;> simp [netlists_shape_rv, e0]

def ofL (ks : List Int) : List Nd → Nat → List Int
  | [], _ => []
  | x :: l, i => if ks.contains x.k then (i : Int) :: ofL ks l (i + 1) else ofL ks l (i + 1)
theorem ofL_app (ks : List Int) : ∀ (a b : List Nd) (i : Nat), ofL ks (a ++ b) i = ofL ks a i ++ ofL ks b (i + a.length)
  | [], b, i => by simp [ofL]
  | x :: a, b, i => by
    have := ofL_app ks a b (i + 1)
    simp only [List.cons_append, ofL, this, List.length_cons]
    split <;> simp [Nat.add_assoc, Nat.add_comm 1]
theorem ofL_len (ks : List Int) : ∀ (a : List Nd) (i : Nat), (ofL ks a i).length ≤ a.length
  | [], _ => by simp [ofL]
  | x :: a, i => by
    have := ofL_len ks a (i + 1)
    simp only [ofL]
    split <;> simp <;> omega

theorem of_loop {Q : AX → St → Prop} (n : Sl Nd) (hl : n.l.length ≤ 1000000000) (ks : List Int) (kc : Option Nat) (kn : Option Bool) (hk : ks.length ≤ 1000000000)
    (h0 : Q (.exit 0) ⟨[(1, .t (.sl (enc1 tK ks) kc kn)), (5, .ls 23 0 (ofL ks n.l 0).length none), (9, .t (tNodes n)), (10, .t (tI n.l.length)), (11, .t (tI n.l.length)), (12, .t (tB false))], [(23, .sl 3 1 (ints (ofL ks n.l 0)))]⟩) : ∀ (k i : Nat), k + i = n.l.length →
    run Tryd.prog Γ netlists_Of_l1 Q ⟨[(1, .t (.sl (enc1 tK ks) kc kn)), (5, .ls 23 0 (ofL ks (n.l.take i) 0).length none), (9, .t (tNodes n)), (10, .t (tI n.l.length)), (11, .t (tI i))], [(23, .sl 3 1 (ints (ofL ks (n.l.take i) 0)))]⟩
  | 0, i, h => by
    refine netlists_Of_l1_run fun K hK => ?_
    have h2 : ¬ i < n.l.length := by omega
    have h3 : i = n.l.length := by omega
    simp [h2]
    subst h3
    simpa using h0
  | k + 1, i, h => by
    refine netlists_Of_l1_run fun K hK => ?_
    have h2 : i < n.l.length := by omega
    have ht : n.l.take (i + 1) = n.l.take i ++ [n.l[i]] := by rw [List.take_add_one]; simp [h2]
    have hlen := ofL_len ks (n.l.take i) 0
    have htl : (n.l.take i).length = i := by simp; omega
    have hal : ofL ks (n.l.take (i + 1)) 0 = if ks.contains n.l[i].k then ofL ks (n.l.take i) 0 ++ [(i : Int)] else ofL ks (n.l.take i) 0 := by
      rw [ht, ofL_app, htl]
      simp only [ofL, Nat.zero_add]
      split <;> simp
    have e := contains_kind (Γ := Γ) ks kc kn n.l[i].k hk
    simp (disch := omega) [h2, tNodes, encN_len, encN_get Nd.d, tNd_wid, tNd, tSl]
    refine callK_fresh e rfl ?_
    generalize ks.contains n.l[i].k = b at hal
    have ih := of_loop n hl ks kc kn hk h0 k (i + 1) (by omega)
    rw [hal] at ih
    cases b with
    | false =>
      simp (disch := omega) [wrap_i64]
      rw [hK]
      simpa [tNodes] using ih
    | true =>
      have hw : wid 1 [[tI (i : Int)]] := by intro e he; simp at he; subst he; rfl
      simp (disch := omega) [wrap_i64, enc1_len, enc1_wid, hw]
      rw [hK]
      simp [tNodes] at ih
      rw [enc1_snoc (f := tI) (x := (i : Int))]
      exact ⟨by omega, ih⟩

theorem of_spec (c : Cir) (hc : CirOk c) (ks : List Int) (kc : Option Nat) (kn : Option Bool) (hk : ks.length ≤ 1000000000) :
    FreshCalls Tryd.prog Γ 15 [.agg (tC c), .sl (enc1 tK ks) kc kn] (.sl (ints (ofL ks c.nodes.l 0)) (some (ofL ks c.nodes.l 0).length) none) := by
  refine run_freshQ netlists_Of_chk rfl ?_
  simp [netlists_Of_ic, tC, tNodes, tNames, tMems, tSl, encN_len]
  refine of_loop c.nodes hc.nodes ks kc kn hk ?_ c.nodes.l.length 0 (by omega)
  simp
  refine ⟨_, _, clip_int_h 3 (ints (ofL ks c.nodes.l 0)) (ofL ks c.nodes.l 0).length none enc1_wid, ?_⟩
  simp [netlists_Of_rv]
end Go.Lg

/- The fanout of a circuit: the rows. Conditions: none. -/
set_option linter.unusedSimpArgs false
set_option linter.unusedVariables false
set_option maxRecDepth 100000
namespace Go.Lg
open Go Go.Proofs
variable {Γ : Tables}

abbrev Row := List (Int × Int)
def tLn (p : Int × Int) : List T := [tI p.1, tI p.2]
def rowC (i : Nat) (r : Row) : AV := if r = [] then .t (.sl [] (some 0) (some true)) else .ls (100000 + i) 0 r.length none
def rowsC (rows : List Row) : List AV := rows.mapIdx rowC
def rowR (rows : List Row) (id : Nat) : Option Reg := match rows[id - 100000]? with
  | some r => if r = [] then none else some (.sl 149 2 (encN tLn r))
  | none => none
def rowsK (k : Nat) (g : Nat → Option Reg) : List (Nat × Reg) := (List.range' 100000 k).filterMap fun id => (g id).map fun r => (id, r)
def rowsH (rows : List Row) : List (Nat × Reg) := rowsK 16384 (rowR rows)

theorem fm_congr {α β : Type} {f g : α → Option β} : ∀ {l : List α}, (∀ x ∈ l, f x = g x) → l.filterMap f = l.filterMap g
  | [], _ => rfl
  | x :: l, h => by
    rw [List.filterMap_cons, List.filterMap_cons, h x List.mem_cons_self, fm_congr (l := l) fun y hy => h y (List.mem_cons_of_mem _ hy)]

theorem look_fm {l : List Nat} {g : Nat → Option Reg} {t : Nat} : look (l.filterMap fun id => (g id).map fun r => (id, r)) t = if t ∈ l then g t else none := by
  induction l with
  | nil => simp [look]
  | cons k l ih =>
    rw [List.filterMap_cons]
    cases hg : g k with
    | none =>
      simp only [Option.map_none, ih]
      by_cases h : t = k
      · subst h; simp [hg]
      · simp [h]
    | some r =>
      simp only [Option.map_some, look, ih]
      by_cases h : k = t
      · subst h; simp [hg]
      · simp [h, Ne.symm h]
theorem look_rowsK {k : Nat} {g : Nat → Option Reg} {t : Nat} : look (rowsK k g) t = if 100000 ≤ t ∧ t < 100000 + k then g t else none := by
  unfold rowsK; rw [look_fm]
  by_cases h : 100000 ≤ t ∧ t < 100000 + k
  · rw [if_pos h, if_pos (by rw [List.mem_range'_1]; exact h)]
  · rw [if_neg h, if_neg (by rw [List.mem_range'_1]; exact h)]

theorem keep_rows {rows : List Row} {l : List (Nat × Reg)} (h : ∀ t ∈ List.range' 100000 16384, look l t = rowR rows t) : Lg.keep (List.range' 100000 16384) l = rowsH rows := by
  unfold Lg.keep rowsH rowsK
  exact fm_congr fun t ht => by rw [h t ht]

/-- What is kept: the table, and the rows in their order. -/
theorem keepB_gen {env : List (Nat × AV)} {hp : List (Nat × Reg)} {ks : List Nat} {rows : List Row} (hk : (hp.map (·.1)).filter (fun id => !([14] : List Nat).contains id && !(decide (100000 ≤ id) && decide (id < 100000 + 16384))) = [])
    (h14 : look hp 14 = some (.bx (rowsC rows))) (hr : ∀ t, 100000 ≤ t → t < 116384 → look hp t = rowR rows t) :
    Gh.run (.keepB ks [14] 100000 16384) ⟨env, hp⟩ = ⟨Lg.keep ks env, (14, .bx (rowsC rows)) :: rowsH rows⟩ := by
  simp only [Gh.run, keepBSt, hk, killAll, keep_cons, h14, keep_nil, List.cons_append, List.nil_append]
  congr 2
  simp only [Lg.keep, rowsH, rowsK]
  refine fm_congr fun t ht => ?_
  rw [List.mem_range'_1] at ht
  rw [hr t ht.1 (by omega)]

theorem mem_rowsK {k : Nat} {g : Nat → Option Reg} : ∀ p ∈ rowsK k g, 100000 ≤ p.1 ∧ p.1 < 100000 + k := by
  intro p hp
  obtain ⟨id, hid, he⟩ := List.mem_filterMap.1 hp
  rw [List.mem_range'_1] at hid
  cases hg : g id with
  | none => rw [hg] at he; cases he
  | some r => rw [hg] at he; simp at he; subst he; exact hid

theorem filter_rows {rows : List Row} : ((rowsH rows).map (·.1)).filter (fun id => !([14] : List Nat).contains id && !(decide (100000 ≤ id) && decide (id < 100000 + 16384))) = [] := by
  rw [List.filter_eq_nil_iff]
  intro id hid
  obtain ⟨p, hp, rfl⟩ := List.mem_map.1 hid
  have := mem_rowsK p hp
  simp [this.1, this.2]

theorem look_rows {rows : List Row} {t : Nat} : look ((14, .bx (rowsC rows)) :: rowsH rows) t = if t = 14 then some (.bx (rowsC rows)) else if 100000 ≤ t ∧ t < 116384 then rowR rows t else none := by
  simp only [look, rowsH, look_rowsK]
  by_cases h : t = 14
  · simp [h]
  · simp [h, Ne.symm h]

theorem keepB_S {env : List (Nat × AV)} {ks : List Nat} {rows : List Row} : Gh.run (.keepB ks [14] 100000 16384) ⟨env, (14, .bx (rowsC rows)) :: rowsH rows⟩ = ⟨Lg.keep ks env, (14, .bx (rowsC rows)) :: rowsH rows⟩ := by
  refine keepB_gen ?_ (by simp [look]) fun t h1 h2 => ?_
  · rw [List.map_cons, List.filter_cons]; simp only [filter_rows]; simp
  · rw [look_rows, if_neg (by omega), if_pos ⟨h1, h2⟩]

theorem killRef_rows {id : Nat} (h : id < 100000) (rows : List Row) : (rowsC rows).map (killRef id) = rowsC rows := by
  apply List.ext_getElem?
  intro i
  simp only [rowsC, List.getElem?_map, List.getElem?_mapIdx, Option.map_map]
  cases rows[i]? with
  | none => rfl
  | some r =>
    simp only [Option.map_some, Function.comp_def, rowC]
    split
    · rfl
    · simp only [killRef, kill1]; rw [if_neg (by omega)]

/-- .. and a variable that has gone. -/
theorem keepB_6 {env : List (Nat × AV)} {ks : List Nat} {rows : List Row} {q : Reg} : Gh.run (.keepB ks [14] 100000 16384) ⟨env, (6, q) :: (14, .bx (rowsC rows)) :: rowsH rows⟩ = ⟨(Lg.keep ks env).map (fun p => (p.1, killRef 6 p.2)), (14, .bx (rowsC rows)) :: rowsH rows⟩ := by
  have hk : (((6, q) :: (14, Reg.bx (rowsC rows)) :: rowsH rows).map (·.1)).filter (fun id => !([14] : List Nat).contains id && !(decide (100000 ≤ id) && decide (id < 100000 + 16384))) = [6] := by
    rw [List.map_cons, List.map_cons, List.filter_cons, List.filter_cons]; simp only [filter_rows]; simp
  have hl : ∀ t, t ≠ 6 → look (St.kill 6 ⟨Lg.keep ks env, (6, q) :: (14, .bx (rowsC rows)) :: rowsH rows⟩).hp t = look ((14, .bx (rowsC rows)) :: rowsH rows) t := by
    intro t ht
    rw [look_kill, if_neg ht]
    show (look ((6, q) :: (14, .bx (rowsC rows)) :: rowsH rows) t).map _ = _
    rw [look, if_neg (Ne.symm ht), look_rows]
    by_cases h : t = 14
    · simp [h, killReg, killRef_rows]
    · simp only [h, ↓reduceIte]
      split
      · unfold rowR
        split
        · split <;> simp [killReg]
        · rfl
      · rfl
  simp only [Gh.run, keepBSt, hk, killAll, keep_cons, keep_nil, List.cons_append, List.nil_append]
  rw [hl 14 (by omega)]
  simp only [look, ↓reduceIte, List.cons_append, List.nil_append]
  congr 2
  refine keep_rows fun t ht => ?_
  rw [List.mem_range'_1] at ht
  rw [hl t (by omega), look_rows, if_neg (by omega), if_pos ⟨ht.1, by omega⟩]

def addRow (rows : List Row) (n : Nat) (p : Int × Int) : List Row := rows.set n (rows.getD n [] ++ [p])

theorem addRow_len {rows : List Row} {n : Nat} {p : Int × Int} : (addRow rows n p).length = rows.length := by simp [addRow]

/-- The row n, longer by one, under its own name again. -/
theorem keepB_add {env : List (Nat × AV)} {ks : List Nat} {rows : List Row} {n : Nat} {p : Int × Int} {hp : List (Nat × Reg)} {cs : List AV} (hn : n < rows.length) (hn2 : rows.length ≤ 16384)
    (hlen : cs.length = rows.length) (hcs : ∀ i, i ≠ n → cs[i]? = (rowsC rows)[i]?) (hc : cs[n]? = some (.ls 47 0 ((rows.getD n []).length + 1) none)) (h47 : look hp 47 = some (.sl 149 2 (encN tLn (rows.getD n [] ++ [p])))) (h14 : look hp 14 = some (.bx cs))
    (hno : look hp (100000 + n) = none) (hoth : ∀ t, 100000 ≤ t → t < 116384 → t ≠ 100000 + n → look hp t = rowR rows t) (hkeys : ∀ q ∈ hp, q.1 = 47 ∨ q.1 = 14 ∨ (100000 ≤ q.1 ∧ q.1 < 116384)) :
    Gh.run (.keepB ks [14] 100000 16384) (renSt 47 (100000 + n) ⟨env, hp⟩) = ⟨(Lg.keep ks (env.map fun q => (q.1, renRef (toName 47 (100000 + n)) q.2))), (14, .bx (rowsC (addRow rows n p))) :: rowsH (addRow rows n p)⟩ := by
  have hr : renSt 47 (100000 + n) ⟨env, hp⟩ = ⟨env.map fun q => (q.1, renRef (toName 47 (100000 + n)) q.2), renHp 47 (100000 + n) hp⟩ := by
    unfold renSt
    rw [if_pos]
    simp [hno, h47]; omega
  rw [hr]
  have hget : ∀ i, (addRow rows n p)[i]? = if i = n then some (rows.getD n [] ++ [p]) else rows[i]? := by
    intro i
    unfold addRow
    rw [List.getElem?_set]
    by_cases h : n = i
    · subst h; simp [hn]
    · simp [h, Ne.symm h]
  have hl := fun t => look_renHp (a := 47) (b := 100000 + n) (t := t) hno (by omega)
  refine keepB_gen ?_ ?_ fun t h1 h2 => ?_
  · rw [List.filter_eq_nil_iff]
    intro id hid
    have : id = 100000 + n ∨ id ≠ 47 ∧ ∃ q ∈ hp, q.1 = id := by
      clear hl hr hno hoth h14 h47
      induction hp with
      | nil => simp [renHp] at hid
      | cons q l ih =>
        obtain ⟨k, r⟩ := q
        simp only [renHp, List.map_cons, List.mem_cons] at hid
        rcases hid with hid | hid
        · by_cases h : k = 47
          · left; simpa [h] using hid
          · right; simp [h] at hid; subst hid; exact ⟨h, _, List.mem_cons_self, rfl⟩
        · rcases ih (fun q hq => hkeys q (List.mem_cons_of_mem _ hq)) hid with h | ⟨h, q, hq, e⟩
          · exact .inl h
          · exact .inr ⟨h, q, List.mem_cons_of_mem _ hq, e⟩
    rcases this with h | ⟨h, q, hq, rfl⟩
    · subst h; simp; intro _; omega
    · rcases hkeys q hq with e | e | ⟨e1, e2⟩
      · exact absurd e h
      · simp [e]
      · simp; intro _; omega
  · rw [hl, if_neg (by omega), if_neg (by omega), h14]
    simp only [Option.map_some, renReg, Option.some.injEq, Reg.bx.injEq]
    apply List.ext_getElem?
    intro i
    simp only [List.getElem?_map, rowsC, List.getElem?_mapIdx]
    rw [hget]
    by_cases h : i = n
    · subst h
      rw [hc]
      have : ¬ (rows.getD i [] ++ [p] = []) := by simp
      simp only [↓reduceIte, Option.map_some, Option.some.injEq]
      unfold rowC
      rw [if_neg this]
      simp [renRef, ren1, ren0, toName]
    · rw [hcs i h, if_neg h]
      simp only [rowsC, List.getElem?_mapIdx, Option.map_map]
      cases hrow : rows[i]? with
      | none => rfl
      | some r =>
        simp only [Option.map_some, Function.comp_def, rowC, Option.some.injEq]
        split
        · rfl
        · simp only [renRef, ren1, ren0, toName]; rw [if_neg (by omega)]
  · rw [hl]
    by_cases h : t = 100000 + n
    · rw [if_pos h, h47]
      subst h
      unfold rowR
      rw [show 100000 + n - 100000 = n by omega, hget, if_pos rfl]
      simp [renReg]
    · rw [if_neg h, if_neg (by omega), hoth t h1 h2 h]
      unfold rowR
      rw [hget, if_neg (by omega)]
      cases rows[t - 100000]? with
      | none => rfl
      | some r => simp only; split <;> simp [renReg]

/-- The rows, frozen from the last to the k-th. -/
def rowF (k i : Nat) (r : Row) : AV := if r = [] then .t (.sl [] (some 0) (some true)) else if k ≤ i then .t (.sl (encN tLn r) none none) else .ls (100000 + i) 0 r.length none

theorem frz_step {env : List (Nat × AV)} {rows : List Row} (he : ∀ id r, 100000 ≤ id → ∀ p ∈ env, frzRef id r p.2 = p.2) (k : Nat) : St.freeze (100000 + k) ⟨env, (14, .bx (rows.mapIdx (rowF (k + 1)))) :: rowsK (k + 1) (rowR rows)⟩ = ⟨env, (14, .bx (rows.mapIdx (rowF k))) :: rowsK k (rowR rows)⟩ := by
  have hsplit : rowsK (k + 1) (rowR rows) = rowsK k (rowR rows) ++ (match rowR rows (100000 + k) with | some r => [(100000 + k, r)] | none => []) := by
    unfold rowsK
    rw [← List.range'_append (s := 100000) (m := k) (n := 1) (step := 1)]
    rw [List.filterMap_append]
    congr 1
    cases hr : rowR rows (100000 + k) <;> simp [hr]
  have hl : look ((14, Reg.bx (rows.mapIdx (rowF (k + 1)))) :: rowsK (k + 1) (rowR rows)) (100000 + k) = rowR rows (100000 + k) := by
    rw [look, if_neg (by omega), look_rowsK, if_pos (by omega)]
  simp only [St.freeze, hl]
  cases hr : rowR rows (100000 + k) with
  | none =>
    rw [hr] at hsplit
    simp only [hsplit, List.append_nil]
    refine congrArg (fun l => (⟨env, (14, Reg.bx l) :: rowsK k (rowR rows)⟩ : St)) ?_
    apply List.ext_getElem?
    intro i
    simp only [List.getElem?_mapIdx]
    cases hi : rows[i]? with
    | none => rfl
    | some r =>
      simp only [Option.map_some, rowF]
      by_cases h0 : r = []
      · simp [h0]
      · by_cases hik : i = k
        · subst hik
          unfold rowR at hr
          rw [show 100000 + i - 100000 = i by omega, hi] at hr
          simp [h0] at hr
        · have : (k + 1 ≤ i) = (k ≤ i) := by apply propext; omega
          simp [this]
  | some q =>
    obtain ⟨r, hrow, hne, rfl⟩ : ∃ r, rows[k]? = some r ∧ r ≠ [] ∧ q = .sl 149 2 (encN tLn r) := by
      unfold rowR at hr
      rw [show 100000 + k - 100000 = k by omega] at hr
      split at hr
      · rename_i r h
        split at hr
        · cases hr
        · rename_i hne; simp only [Option.some.injEq] at hr; exact ⟨r, h, hne, hr.symm⟩
      · cases hr
    rw [hr] at hsplit
    simp only [Reg.closed, ↓reduceIte]
    have e1 : env.map (fun p => (p.1, frzRef (100000 + k) (.sl 149 2 (encN tLn r)) p.2)) = env := by
      conv => rhs; rw [← List.map_id env]
      refine List.map_congr_left fun p hp => ?_
      rw [he _ _ (by omega) p hp]; rfl
    have e2 : del (100000 + k) ((14, Reg.bx (rows.mapIdx (rowF (k + 1)))) :: rowsK (k + 1) (rowR rows)) = (14, Reg.bx (rows.mapIdx (rowF (k + 1)))) :: rowsK k (rowR rows) := by
      rw [hsplit]
      unfold del
      rw [List.filter_cons, if_pos (by simp; omega), List.filter_append]
      congr 1
      have h1 : (rowsK k (rowR rows)).filter (fun p => p.1 != 100000 + k) = rowsK k (rowR rows) := by
        rw [List.filter_eq_self]
        intro p hp
        have := mem_rowsK p hp
        simp; omega
      rw [h1]; simp
    rw [e1, e2]
    have e3 : (rowsK k (rowR rows)).map (fun p => (p.1, frzReg (100000 + k) (.sl 149 2 (encN tLn r)) p.2)) = rowsK k (rowR rows) := by
      conv => rhs; rw [← List.map_id (rowsK k (rowR rows))]
      refine List.map_congr_left fun p hp => ?_
      obtain ⟨id, hid, hee⟩ := List.mem_filterMap.1 hp
      cases hg : rowR rows id with
      | none => rw [hg] at hee; cases hee
      | some q =>
        rw [hg] at hee
        simp only [Option.map_some, Option.some.injEq] at hee; subst hee
        unfold rowR at hg
        split at hg
        · split at hg
          · cases hg
          · simp only [Option.some.injEq] at hg; subst hg; rfl
        · cases hg
    rw [List.map_cons, e3]
    refine congrArg (fun l => (⟨env, (14, Reg.bx l) :: rowsK k (rowR rows)⟩ : St)) ?_
    apply List.ext_getElem?
    intro i
    simp only [List.getElem?_map, List.getElem?_mapIdx, Option.map_map]
    cases hi : rows[i]? with
    | none => rfl
    | some r' =>
      simp only [Option.map_some, Function.comp_def, rowF]
      by_cases h0 : r' = []
      · simp [h0, frzRef, frz1, frz0]
      · simp only [h0, ↓reduceIte]
        by_cases hik : i = k
        · subst hik
          rw [hrow] at hi; cases hi
          rw [if_neg (by omega), if_pos (Nat.le_refl _)]
          simp [frzRef, frz1, frz0, reify, look]
        · by_cases hlt : k + 1 ≤ i
          · rw [if_pos hlt, if_pos (by omega)]; rfl
          · rw [if_neg hlt, if_neg (by omega)]
            simp only [frzRef, frz1, frz0]
            rw [if_neg (by omega)]

theorem frz_all {env : List (Nat × AV)} {rows : List Row} (he : ∀ id r, 100000 ≤ id → ∀ p ∈ env, frzRef id r p.2 = p.2) : ∀ k, frzN 100000 k ⟨env, (14, .bx (rows.mapIdx (rowF k))) :: rowsK k (rowR rows)⟩ = ⟨env, (14, .bx (rows.mapIdx (rowF 0))) :: []⟩
  | 0 => by simp [frzN, rowsK]
  | k + 1 => by
    rw [frzN, frz_step he k]
    exact frz_all he k

def rowT (r : Row) : T := if r = [] then .sl [] (some 0) (some true) else .sl (encN tLn r) none none

theorem frz_rows {env : List (Nat × AV)} {rows : List Row} (hl : rows.length ≤ 16384) (he : ∀ id r, 100000 ≤ id → ∀ p ∈ env, frzRef id r p.2 = p.2) : Gh.run (.frzs 100000 16384) ⟨env, (14, .bx (rowsC rows)) :: rowsH rows⟩ = ⟨env, [(14, .bx (rows.map fun r => .t (rowT r)))]⟩ := by
  have h1 : rowsC rows = rows.mapIdx (rowF 16384) := by
    apply List.ext_getElem?
    intro i
    simp only [rowsC, List.getElem?_mapIdx]
    cases hi : rows[i]? with
    | none => rfl
    | some r =>
      have := (List.getElem?_eq_some_iff.1 hi).1
      simp only [Option.map_some, rowC, rowF]
      rw [if_neg (show ¬ 16384 ≤ i by omega)]
  have h2 : rows.mapIdx (rowF 0) = rows.map fun r => .t (rowT r) := by
    apply List.ext_getElem?
    intro i
    simp only [List.getElem?_mapIdx, List.getElem?_map]
    cases rows[i]? with
    | none => rfl
    | some r =>
      simp only [Option.map_some, rowF, rowT, Nat.zero_le, ↓reduceIte]
      split <;> rfl
  have := frz_all (rows := rows) he 16384
  rw [h2] at this
  simp only [Gh.run, h1, rowsH]
  exact this
end Go.Lg

/- The fanout of a circuit: the walk. Conditions: none. -/
set_option linter.unusedSimpArgs false
set_option linter.unusedVariables false
set_option maxRecDepth 100000
namespace Go.Lg
open Go Go.Proofs
variable {Γ : Tables}

theorem rowsC_len {rows : List Row} : (rowsC rows).length = rows.length := by simp [rowsC]
theorem rowsC_at {rows : List Row} {n : Nat} (h : n < rows.length) : ((rowsC rows).drop n).take 1 = [rowC n (rows.getD n [])] := by
  have : (rowsC rows).drop n = rowC n (rows.getD n []) :: (rowsC rows).drop (n + 1) := by
    rw [List.drop_eq_getElem_cons (by rw [rowsC_len]; exact h)]
    simp [rowsC, h]
  rw [this]; rfl
theorem tLn_wid {l : Row} : wid 2 (encN tLn l) := encN_wid fun _ => rfl

theorem r10_ok {Q : AX → St → Prop} (rows : List Row) (n : Nat) (hn : n < rows.length) (hn2 : rows.length ≤ 16384) (i k : Int) (hr : (rows.getD n []).length ≤ 1000000000) (t4 t18 t19 t20 t26 t27 t28 t36 : T) (m : Nat) (hm : m = rows.length)
    (h : Q .normal ⟨[(3, .lb 14 m), (4, .t t4), (5, .t (tI i)), (18, .t t18), (19, .t t19), (20, .t t20), (26, .t t26), (27, .t t27), (28, .t t28)], (14, .bx (rowsC (addRow rows n (i, k)))) :: rowsH (addRow rows n (i, k))⟩) :
    stepsK Tryd.prog Γ netlists_Fanout_r10 ⟨[(3, .lb 14 m), (4, .t t4), (5, .t (tI i)), (7, .t (tI k)), (8, .t (tI n)), (18, .t t18), (19, .t t19), (20, .t t20), (26, .t t26), (27, .t t27), (28, .t t28), (36, .t t36)], (14, .bx (rowsC rows)) :: rowsH rows⟩
      (fun s1 => Q .normal (ghs [.renS 47 100000 8, .keepB [3, 4, 5, 18, 19, 20, 26, 27, 28] [14] 100000 16384] s1)) ⟨⟩ := by
  subst hm
  have hw : wid 2 [[tI i, tI k]] := by intro e he; simp at he; subst he; rfl
  have hlk47 : look (rowsH rows) 47 = none := by rw [rowsH, look_rowsK, if_neg (by omega)]
  have hat := rowsC_at hn
  have hlk : look (rowsH rows) (100000 + n) = if rows.getD n [] = [] then none else some (.sl 149 2 (encN tLn (rows.getD n []))) := by
    rw [rowsH, look_rowsK, if_pos (by omega)]
    unfold rowR
    rw [show 100000 + n - 100000 = n by omega, List.getElem?_eq_getElem hn]
    simp [hn]
  have hadd : addRow rows n (i, k) = rows.set n (rows.getD n [] ++ [(i, k)]) := rfl
  have fin := @keepB_add
  generalize hrow : rows.getD n [] = row at hr hat hlk hadd
  have hlen1 : n + 1 ≤ rows.length := hn
  have hset : ∀ (j : Nat), j ≠ n → ∀ (l : List AV) (x : AV), l.length = rows.length → (l.take n ++ x :: l.drop (n + 1))[j]? = l[j]? := by
    intro j hj l x hl
    rw [List.getElem?_append]
    by_cases hlt : j < n
    · rw [if_pos (by simp; omega), List.getElem?_take, if_pos hlt]
    · rw [if_neg (by simp; omega)]
      have e : (l.take n).length = n := by simp; omega
      rw [e, show j - n = (j - n - 1) + 1 by omega, List.getElem?_cons_succ, List.getElem?_drop]
      congr 1; omega
  have hseta : ∀ (l : List AV) (x : AV), l.length = rows.length → (l.take n ++ x :: l.drop (n + 1))[n]? = some x := by
    intro l x hl
    rw [List.getElem?_append, if_neg (by simp; omega)]
    have e : (l.take n).length = n := by simp; omega
    rw [e]; simp
  by_cases h0 : row = []
  · subst h0
    simp only [rowC, ↓reduceIte] at hat hlk
    simp (disch := omega) [-Gh.run, ghs_cons', hat, rowsC_len, hn, hw, hlk47, hlen1]
    rw [show ∀ st, look st.env 8 = some (.t (tI n)) → (Gh.renS 47 100000 8).run st = renSt 47 (100000 + n) st from fun st hs => by simp [Gh.run, hs]]
    rw [fin (p := (i, k)) hn hn2 (by simp [rowsC_len]; omega) (fun j hj => hset j hj _ _ rowsC_len) (by rw [hseta _ _ rowsC_len, hrow]; first | done | rfl) (by rw [hrow]; first | done | rfl) (by simp [look]) (by rw [look, if_neg (by omega), look, if_neg (by omega)]; exact hlk) (fun t h1 h2 h3 => ?_) (fun q hq => ?_)]
    · simpa [renRef, ren1, ren0, toName] using h
    · rw [look, if_neg (by omega), look, if_neg (by omega), rowsH, look_rowsK, if_pos (by omega)]
    · rcases List.mem_cons.1 hq with rfl | hq
      · exact .inl rfl
      · rcases List.mem_cons.1 hq with rfl | hq
        · exact .inr (.inl rfl)
        · have := mem_rowsK q hq; exact .inr (.inr (by omega))
    · rfl
  · simp only [rowC, h0, ↓reduceIte] at hat hlk
    have h14 : ¬ 14 = 100000 + n := by omega
    have htl : ∀ t, look ((rowsH rows).filter fun p => p.1 != 100000 + n) t = if t = 100000 + n then none else look (rowsH rows) t := fun t => look_del (100000 + n) (rowsH rows) t
    have hkl : ∀ l : List (Nat × Reg), (∀ p ∈ l, p ∈ rowsH rows) → l.map (fun p => (p.1, killReg (100000 + n) p.2)) = l := by
      intro l hl
      conv => rhs; rw [← List.map_id l]
      refine List.map_congr_left fun p hp => ?_
      obtain ⟨id, hid, hee⟩ := List.mem_filterMap.1 (hl p hp)
      cases hg : rowR rows id with
      | none => rw [hg] at hee; cases hee
      | some q =>
        rw [hg] at hee
        simp only [Option.map_some, Option.some.injEq] at hee; subst hee
        unfold rowR at hg
        split at hg
        · split at hg
          · cases hg
          · simp only [Option.some.injEq] at hg; subst hg; rfl
        · cases hg
    have hk : (del (100000 + n) ((14, Reg.bx (rowsC rows)) :: rowsH rows)).map (fun p => (p.1, killReg (100000 + n) p.2)) = (14, .bx ((rowsC rows).map (killRef (100000 + n)))) :: (rowsH rows).filter fun p => p.1 != 100000 + n := by
      have e : del (100000 + n) ((14, Reg.bx (rowsC rows)) :: rowsH rows) = (14, Reg.bx (rowsC rows)) :: (rowsH rows).filter fun p => p.1 != 100000 + n := by
        unfold del
        rw [List.filter_cons, if_pos (by simp; omega)]
      rw [e, List.map_cons, hkl _ (fun p hp => (List.mem_filter.1 hp).1)]
      rfl
    have hl47 : look ((rowsH rows).filter fun p => p.1 != 100000 + n) 47 = none := by rw [htl, if_neg (by omega)]; exact hlk47
    generalize htail : (rowsH rows).filter (fun p => p.1 != 100000 + n) = tl at htl hk hl47
    have hkeys : ∀ q ∈ tl, 100000 ≤ q.1 ∧ q.1 < 116384 := by
      intro q hq
      rw [← htail] at hq
      have := mem_rowsK q (List.mem_filter.1 hq).1
      omega
    have hcs : ∀ j, j ≠ n → ((rowsC rows).map (killRef (100000 + n)))[j]? = (rowsC rows)[j]? := by
      intro j hj
      simp only [rowsC, List.getElem?_map, List.getElem?_mapIdx, Option.map_map]
      cases rows[j]? with
      | none => rfl
      | some r =>
        simp only [Option.map_some, Function.comp_def, rowC]
        split
        · rfl
        · simp only [killRef, kill1]; rw [if_neg (by omega)]
    have hcl : ((rowsC rows).map (killRef (100000 + n))).length = rows.length := by simp [rowsC_len]
    simp (disch := omega) [-Gh.run, ghs_cons', -del, -killReg, hat, rowsC_len, hn, hw, hlk, hlen1, encN_len, tLn_wid, h14, hk, hl47]
    refine ⟨by omega, ?_⟩
    rw [show ∀ st, look st.env 8 = some (.t (tI n)) → (Gh.renS 47 100000 8).run st = renSt 47 (100000 + n) st from fun st hs => by simp [Gh.run, hs]]
    · rw [fin (p := (i, k)) hn hn2 (by simp [hcl]; omega) (fun j hj => (hset j hj _ _ hcl).trans (hcs j hj)) (by rw [hseta _ _ hcl, hrow]) (by rw [hrow]; simp [look]; rw [show [tI i, tI k] = tLn (i, k) from rfl, encN_snoc]) (by simp [look]) (by rw [look, if_neg (by omega), look, if_neg (by omega), htl, if_pos rfl]) (fun t h1 h2 h3 => ?_) (fun q hq => ?_)]
      · simpa [renRef, ren1, ren0, toName] using h
      · rw [look, if_neg (by omega), look, if_neg (by omega), htl, if_neg h3, rowsH, look_rowsK, if_pos (by omega)]
      · rcases List.mem_cons.1 hq with rfl | hq
        · exact .inl rfl
        · rcases List.mem_cons.1 hq with rfl | hq
          · exact .inr (.inl rfl)
          · exact .inr (.inr (hkeys q hq))
    · rfl
end Go.Lg

/- The fanout of a circuit: its contract. Conditions: none. -/
set_option linter.unusedSimpArgs false
set_option linter.unusedVariables false
set_option maxRecDepth 100000
namespace Go.Lg
open Go Go.Proofs
variable {Γ : Tables}

def fanPins (c : Cir) (i : Nat) : List Int → Nat → List Row → List Row
  | [], _, rows => rows
  | n :: l, k, rows => fanPins c i l (k + 1) (if outP c n then rows else addRow rows n.toNat (i, k))
def fanNodes (c : Cir) : List Nd → Nat → List Row → List Row
  | [], _, rows => rows
  | x :: l, i, rows => fanNodes c l (i + 1) (fanPins c i x.inn.l 0 rows)
def RB (rows : List Row) (B : Nat) : Prop := ∀ r ∈ rows, r.length ≤ B

theorem RB.add {rows : List Row} {B n : Nat} {p : Int × Int} (h : RB rows B) : RB (addRow rows n p) (B + 1) := by
  intro r hr
  unfold addRow at hr
  by_cases hn : n < rows.length
  · rcases List.mem_or_eq_of_mem_set hr with hr | rfl
    · have := h r hr; omega
    · have : (rows.getD n []).length ≤ B := by
        have e : rows.getD n [] = rows[n] := by simp [hn]
        rw [e]; exact h _ (List.getElem_mem hn)
      simp at this ⊢; omega
  · rw [List.set_eq_of_length_le (by omega)] at hr
    have := h r hr; omega
theorem RB.mono {rows : List Row} {B C : Nat} (h : RB rows B) (hc : B ≤ C) : RB rows C := fun r hr => Nat.le_trans (h r hr) hc
theorem RB.at {rows : List Row} {B : Nat} (h : RB rows B) (n : Nat) : (rows.getD n []).length ≤ B := by
  by_cases hn : n < rows.length
  · have e : rows.getD n [] = rows[n] := by simp [hn]
    rw [e]; exact h _ (List.getElem_mem hn)
  · simp [List.getD, List.getElem?_eq_none (Nat.not_lt.1 hn)]
theorem fanPins_ok (c : Cir) (i : Nat) : ∀ (l : List Int) (k : Nat) (rows : List Row) (B : Nat), RB rows B → (fanPins c i l k rows).length = rows.length ∧ RB (fanPins c i l k rows) (B + l.length)
  | [], k, rows, B, h => ⟨rfl, h⟩
  | n :: l, k, rows, B, h => by
    simp only [fanPins, List.length_cons]
    split
    · have := fanPins_ok c i l (k + 1) rows B h
      exact ⟨this.1, this.2.mono (by omega)⟩
    · have := fanPins_ok c i l (k + 1) _ (B + 1) (h.add (n := n.toNat) (p := (i, k)))
      exact ⟨this.1.trans addRow_len, this.2.mono (by omega)⟩

theorem pins_loop {Q : AX → St → Prop} (c : Cir) (hn : c.nodes.l.length ≤ 16384) (i : Nat) (s : Sl Int) (hs : s.l.length ≤ 1000000000) (R : List Row)
    (h0 : Q (.exit 2) ⟨[(3, .lb 14 c.nodes.l.length), (4, .t (.fn 126 [.ip (tC c) 0])), (5, .t (tI i)), (18, .t (tNodes c.nodes)), (19, .t (tI c.nodes.l.length)), (20, .t (tI i)), (26, .t (tSl s)), (27, .t (tI s.l.length)), (28, .t (tI s.l.length)), (29, .t (tB false))], (14, .bx (rowsC R)) :: rowsH R⟩) :
    ∀ (kk k : Nat) (rows : List Row), kk + k = s.l.length → rows.length = c.nodes.l.length → (∀ n, (rows.getD n []).length + kk ≤ 1000000000) → fanPins c i (s.l.drop k) k rows = R →
    run Tryd.prog Γ netlists_Fanout_l1 Q ⟨[(3, .lb 14 c.nodes.l.length), (4, .t (.fn 126 [.ip (tC c) 0])), (5, .t (tI i)), (18, .t (tNodes c.nodes)), (19, .t (tI c.nodes.l.length)), (20, .t (tI i)), (26, .t (tSl s)), (27, .t (tI s.l.length)), (28, .t (tI k))], (14, .bx (rowsC rows)) :: rowsH rows⟩
  | 0, k, rows, h, hl, hb, hR => by
    refine netlists_Fanout_l1_run fun K hK => ?_
    have h2 : ¬ k < s.l.length := by omega
    have h3 : k = s.l.length := by omega
    simp [h2, -Gh.run, ghs_cons', keepB_S]
    subst h3
    rw [List.drop_of_length_le (Nat.le_refl _)] at hR
    simp only [fanPins] at hR
    subst hR
    exact h0
  | kk + 1, k, rows, h, hl, hb, hR => by
    refine netlists_Fanout_l1_run fun K hK => ?_
    have h2 : k < s.l.length := by omega
    rw [List.drop_eq_getElem_cons h2] at hR
    simp only [fanPins] at hR
    have e := outside1_spec (Γ := Γ) c s.l[k] (by omega)
    simp (disch := omega) [h2, -Gh.run, ghs_cons', keepB_S, -netlists_Fanout_r10, tSl, enc1_len, enc1_get (0 : Int), enc1_wid]
    refine callK_clos e ?_
    by_cases ho : outP c s.l[k] = true
    · rw [if_pos ho] at hR
      simp (disch := omega) [ho, -Gh.run, ghs_cons', keepB_S, -netlists_Fanout_r10, wrap_i64]
      rw [hK]
      have := pins_loop c hn i s hs R h0 kk (k + 1) rows (by omega) hl (fun n => by have := hb n; omega) hR
      simpa [tSl] using this
    · have ho' : outP c s.l[k] = false := by simpa using ho
      rw [if_neg ho] at hR
      have hr := any_out (c := c) (l := [s.l[k]]) (by simp [ho']) s.l[k] (by simp)
      simp (disch := omega) [ho', -Gh.run, ghs_cons', keepB_S, -netlists_Fanout_r10]
      have hz : ((s.l[k]).toNat : Int) = s.l[k] := by omega
      have := r10_ok (Γ := Γ) (Q := blockX 3 (thenX (run Tryd.prog Γ (.reg netlists_Fanout_r11 [.keepB [3, 4, 5, 18, 19, 20, 26, 27, 28] [14] 100000 16384]) (thenX (fun s => thenX K Q .normal (ghs [.keepB [3, 4, 5, 18, 19, 20, 26, 27, 28] [14] 100000 16384] s)) (thenX K Q))) (thenX (fun s => thenX K Q .normal (ghs [.keepB [3, 4, 5, 18, 19, 20, 26, 27, 28] [14] 100000 16384] s)) (thenX K Q)))) rows (s.l[k]).toNat (by omega) (by omega) i k (by have := hb (s.l[k]).toNat; omega)
        (.fn 126 [.ip (tC c) 0]) (tNodes c.nodes) (tI c.nodes.l.length) (tI i) (.sl (ints s.l) s.cap s.nl) (tI s.l.length) (tI k) (tB true) c.nodes.l.length hl.symm ?_
      · rw [hz] at this; exact this
      · simp (disch := omega) [-Gh.run, ghs_cons', keepB_S, wrap_i64]
        rw [hK]
        have hbb : ∀ n, ((addRow rows (s.l[k]).toNat (i, k)).getD n []).length + kk ≤ 1000000000 := by
          intro n
          unfold addRow
          have h5 := hb n
          have h6 := hb (s.l[k]).toNat
          by_cases hq : n = (s.l[k]).toNat
          · subst hq
            have hlt : (s.l[k]).toNat < rows.length := by omega
            simp [List.getD, List.getElem?_set, hlt] at h6 ⊢
            omega
          · have : ¬ (s.l[k]).toNat = n := fun e => hq e.symm
            simp [List.getD, List.getElem?_set, this] at h5 ⊢
            omega
        have := pins_loop c hn i s hs R h0 kk (k + 1) (addRow rows (s.l[k]).toNat (i, k)) (by omega) (addRow_len.trans hl) hbb hR
        simpa [tSl] using this
end Go.Lg

/- The fanout of a circuit: its contract, the outer loops. Conditions: none. -/
set_option linter.unusedSimpArgs false
set_option linter.unusedVariables false
set_option maxRecDepth 100000
namespace Go.Lg
open Go Go.Proofs
variable {Γ : Tables}

theorem gh_keep {ks rs : List Nat} {st : St} : Gh.run (.keep ks rs) st = ⟨(killAll ((st.hp.map (·.1)).filter fun id => !rs.contains id) ⟨Lg.keep ks st.env, st.hp⟩).env, Lg.keep rs (killAll ((st.hp.map (·.1)).filter fun id => !rs.contains id) ⟨Lg.keep ks st.env, st.hp⟩).hp⟩ := rfl

theorem keepB_6k {env : List (Nat × AV)} {ks : List Nat} {rows : List Row} {q : Reg} : Gh.run (.keepB ks [6, 14] 100000 16384) ⟨env, (6, q) :: (14, .bx (rowsC rows)) :: rowsH rows⟩ = ⟨Lg.keep ks env, (6, q) :: (14, .bx (rowsC rows)) :: rowsH rows⟩ := by
  have hk : (((6, q) :: (14, Reg.bx (rowsC rows)) :: rowsH rows).map (·.1)).filter (fun id => !([6, 14] : List Nat).contains id && !(decide (100000 ≤ id) && decide (id < 100000 + 16384))) = [] := by
    rw [List.filter_eq_nil_iff]
    intro id hid
    simp only [List.map_cons, List.mem_cons] at hid
    rcases hid with rfl | rfl | hid
    · simp
    · simp
    · obtain ⟨p, hp, rfl⟩ := List.mem_map.1 hid
      have := mem_rowsK p hp
      simp; omega
  simp only [Gh.run, keepBSt, hk, killAll, keep_cons, keep_nil, look, ↓reduceIte]
  simp only [show ¬ (6 = 14) by omega, ↓reduceIte, List.cons_append, List.nil_append]
  congr 3
  refine keep_rows fun t ht => ?_
  rw [List.mem_range'_1] at ht
  rw [look, if_neg (by omega), look_rows, if_neg (by omega), if_pos ⟨ht.1, by omega⟩]

theorem nodes_loop {Q : AX → St → Prop} (c : Cir) (hn : c.nodes.l.length ≤ 16384) (hi : ∀ x ∈ c.nodes.l, x.inn.l.length ≤ 16) (R : List Row)
    (h0 : Q (.exit 0) ⟨[(3, .lb 14 c.nodes.l.length), (4, .t (.fn 126 [.ip (tC c) 0])), (18, .t (tNodes c.nodes)), (19, .t (tI c.nodes.l.length)), (20, .t (tI c.nodes.l.length)), (21, .t (tB false))], (14, .bx (rowsC R)) :: rowsH R⟩) :
    ∀ (kk i : Nat) (rows : List Row), kk + i = c.nodes.l.length → rows.length = c.nodes.l.length → RB rows (16 * i) → fanNodes c (c.nodes.l.drop i) i rows = R →
    run Tryd.prog Γ netlists_Fanout_l3 Q ⟨[(3, .lb 14 c.nodes.l.length), (4, .t (.fn 126 [.ip (tC c) 0])), (18, .t (tNodes c.nodes)), (19, .t (tI c.nodes.l.length)), (20, .t (tI i))], (14, .bx (rowsC rows)) :: rowsH rows⟩
  | 0, i, rows, h, hl, hb, hR => by
    refine netlists_Fanout_l3_run fun K hK => ?_
    have h2 : ¬ i < c.nodes.l.length := by omega
    have h3 : i = c.nodes.l.length := by omega
    simp [h2, -Gh.run, ghs_cons', keepB_S]
    subst h3
    rw [List.drop_of_length_le (Nat.le_refl _)] at hR
    simp only [fanNodes] at hR
    subst hR
    exact h0
  | kk + 1, i, rows, h, hl, hb, hR => by
    refine netlists_Fanout_l3_run fun K hK => ?_
    have h2 : i < c.nodes.l.length := by omega
    rw [List.drop_eq_getElem_cons h2] at hR
    simp only [fanNodes] at hR
    have hx := hi _ (List.getElem_mem h2)
    have hlk6 : look (rowsH rows) 6 = none := by rw [rowsH, look_rowsK, if_neg (by omega)]
    simp (disch := omega) [h2, -Gh.run, ghs_cons', keepB_S, keepB_6, keepB_6k, tNodes, encN_len, encN_get Nd.d, tNd_wid, tNd, tSl, hlk6, enc1_len]
    refine pins_loop c hn i c.nodes.l[i].inn (by omega) _ ?_ c.nodes.l[i].inn.l.length 0 rows (by omega) hl (fun n => by have := hb.at n; omega) rfl
    obtain ⟨hf1, hf2⟩ := fanPins_ok c i c.nodes.l[i].inn.l 0 rows (16 * i) hb
    simp (disch := omega) [-Gh.run, ghs_cons', keepB_S, wrap_i64, List.drop_zero]
    rw [hK]
    have := nodes_loop c hn hi R h0 kk (i + 1) _ (by omega) (hf1.trans hl) (hf2.mono (by omega)) hR
    simpa [tNodes] using this

def rowTC (r : Row) : T := .sl (encN tLn r) (some r.length) (if r = [] then some true else none)
theorem clip_row (r : Row) : PureCalls Tryd.prog Γ 108 [rowT r] (rowTC r) := by
  unfold rowT rowTC
  by_cases h : r = []
  · subst h; simpa [encN] using clip_line (Γ := Γ) [] (some 0) (some true) wid_nil
  · rw [if_neg h, if_neg h]
    have := clip_line (Γ := Γ) (encN tLn r) none none tLn_wid
    rwa [encN_len] at this

def mixC (rows : List Row) (i : Nat) : List AV := rows.mapIdx fun j r => .t (if j < i then rowTC r else rowT r)

theorem mixC_len {rows : List Row} {i : Nat} : (mixC rows i).length = rows.length := by simp [mixC]
theorem mixC_at {rows : List Row} {i : Nat} (h : i < rows.length) : ((mixC rows i).drop i).take 1 = [.t (rowT rows[i])] := by
  rw [List.drop_eq_getElem_cons (by rw [mixC_len]; exact h)]
  simp [mixC]
theorem mixC_next {rows : List Row} {i : Nat} (h : i < rows.length) : (mixC rows i).take i ++ .t (rowTC rows[i]) :: (mixC rows i).drop (i + 1) = mixC rows (i + 1) := by
  apply List.ext_getElem?
  intro j
  rw [List.getElem?_append]
  have e : ((mixC rows i).take i).length = i := by simp [mixC_len]; omega
  rw [e]
  by_cases h1 : j < i
  · rw [if_pos h1, List.getElem?_take, if_pos h1]
    simp only [mixC, List.getElem?_mapIdx]
    cases rows[j]? with
    | none => rfl
    | some r => simp only [Option.map_some]; rw [if_pos h1, if_pos (by omega)]
  · rw [if_neg h1]
    by_cases h2 : j = i
    · subst h2
      simp [mixC, List.getElem?_eq_getElem h]
    · rw [show j - i = (j - i - 1) + 1 by omega, List.getElem?_cons_succ, List.getElem?_drop]
      rw [show i + 1 + (j - i - 1) = j by omega]
      simp only [mixC, List.getElem?_mapIdx]
      cases rows[j]? with
      | none => rfl
      | some r => simp only [Option.map_some]; rw [if_neg h1, if_neg (by omega)]

theorem clip_loop {Q : AX → St → Prop} (rows : List Row) (hn : rows.length ≤ 16384)
    (h0 : Q (.exit 4) ⟨[(3, .lb 14 rows.length), (51, .lb 14 rows.length), (52, .t (tI rows.length)), (53, .t (tI rows.length)), (54, .t (tB false))], [(14, .bx (mixC rows rows.length))]⟩) :
    ∀ (kk i : Nat), kk + i = rows.length →
    run Tryd.prog Γ netlists_Fanout_l5 Q ⟨[(3, .lb 14 rows.length), (51, .lb 14 rows.length), (52, .t (tI rows.length)), (53, .t (tI i))], [(14, .bx (mixC rows i))]⟩
  | 0, i, h => by
    refine netlists_Fanout_l5_run fun K hK => ?_
    have h2 : ¬ i < rows.length := by omega
    have h3 : i = rows.length := by omega
    simp [h2]
    subst h3
    exact h0
  | kk + 1, i, h => by
    refine netlists_Fanout_l5_run fun K hK => ?_
    have h2 : i < rows.length := by omega
    have h3 : i + 1 ≤ rows.length := h2
    have e := clip_row (Γ := Γ) rows[i]
    have ho : (rowT rows[i]).one = true := by unfold rowT; split <;> rfl
    simp (disch := omega) [h2, h3, mixC_at h2, mixC_len]
    refine callK_pure e rfl ?_
    simp (disch := omega) [h2, h3, mixC_len, wrap_i64, rowTC]
    rw [hK]
    have := clip_loop rows hn h0 kk (i + 1) (by omega)
    rw [← mixC_next h2] at this
    simpa [rowTC] using this

def fanRows (c : Cir) : List Row := fanNodes c c.nodes.l 0 (List.replicate c.nodes.l.length [])
def tFan (rows : List Row) : T := .sl (enc1 rowTC rows) (some rows.length) none

theorem fanNodes_len (c : Cir) : ∀ (l : List Nd) (i : Nat) (rows : List Row), (fanNodes c l i rows).length = rows.length
  | [], _, _ => rfl
  | x :: l, i, rows => by
    simp only [fanNodes]
    rw [fanNodes_len c l]
    exact (fanPins_ok c i x.inn.l 0 rows (rows.foldr (fun r m => r.length + m) 0) (by
      intro r hr
      induction rows with
      | nil => cases hr
      | cons y ys ih =>
        simp only [List.foldr_cons]
        rcases List.mem_cons.1 hr with rfl | hr
        · omega
        · have := ih hr; omega)).1
theorem fanRows_len (c : Cir) : (fanRows c).length = c.nodes.l.length := by rw [fanRows, fanNodes_len]; simp

theorem fanout_spec (c : Cir) (hn : c.nodes.l.length ≤ 16384) (hi : ∀ x ∈ c.nodes.l, x.inn.l.length ≤ 16) : PureCalls Tryd.prog Γ 77 [.agg (tC c)] (tFan (fanRows c)) := by
  refine run_pureQ netlists_Fanout_chk rfl ?_
  have eo := outside_spec (Γ := Γ) c
  have hR := fanRows_len c
  have hk1 : ∀ (env : List (Nat × AV)) (ks : List Nat), Gh.run (.keepB ks [14] 100000 16384) ⟨env, [(14, .bx (List.replicate c.nodes.l.length (.t (.sl [] (some 0) (some true)))))]⟩ = ⟨Lg.keep ks env, (14, .bx (rowsC (List.replicate c.nodes.l.length []))) :: rowsH (List.replicate c.nodes.l.length [])⟩ := by
    intro env ks
    have hc : rowsC (List.replicate c.nodes.l.length []) = List.replicate c.nodes.l.length (.t (.sl [] (some 0) (some true))) := by
      apply List.ext_getElem?
      intro j
      simp only [rowsC, List.getElem?_mapIdx, List.getElem?_replicate]
      split <;> simp [rowC]
    refine keepB_gen (by simp) (by simp [look, hc]) fun t h1 h2 => ?_
    rw [look, if_neg (by omega)]
    unfold rowR
    rw [List.getElem?_replicate]
    split <;> rename_i hq
    · split at hq
      · simp only [Option.some.injEq] at hq; subst hq; rfl
      · cases hq
    · rfl
  simp (disch := omega) [netlists_Fanout_ic, tC, tNodes, tNames, tMems, tSl, encN_len, -Gh.run, ghs_cons', gh_keep, hk1, wrap_i64]
  refine ⟨by omega, ?_⟩
  refine callK_pure eo rfl ?_
  simp (disch := omega) [-Gh.run, ghs_cons', keepB_S, encN_len]
  have hp0 : RB (List.replicate c.nodes.l.length []) (16 * 0) := by
    intro r hr; rw [List.eq_of_mem_replicate hr]; simp
  refine nodes_loop c hn hi (fanRows c) ?_ c.nodes.l.length 0 (List.replicate c.nodes.l.length []) (by omega) (by simp) hp0 rfl
  generalize fanRows c = R at hR
  rw [← hR]
  simp (disch := omega) [-Gh.run, ghs_cons']
  rw [frz_rows (by omega) (fun id r h p hp => by
    simp only [List.mem_cons, List.not_mem_nil, or_false] at hp
    have h14 : ¬ 14 = id := by omega
    rcases hp with rfl | rfl | rfl | rfl | rfl | rfl | rfl | rfl | rfl <;> simp [frzRef, frz1, frz0, h14])]
  have hmix : (R.map fun r => AV.t (rowT r)) = mixC R 0 := by
    apply List.ext_getElem?
    intro j
    simp only [List.getElem?_map, mixC, List.getElem?_mapIdx]
    cases R[j]? <;> simp
  rw [hmix]
  simp
  refine clip_loop R (by omega) ?_ R.length 0 (by omega)
  have hfin : mixC R R.length = (R.map rowTC).map .t := by
    apply List.ext_getElem?
    intro j
    simp only [List.getElem?_map, mixC, List.getElem?_mapIdx, Option.map_map]
    cases hj : R[j]? with
    | none => rfl
    | some r =>
      have := (List.getElem?_eq_some_iff.1 hj).1
      simp only [Option.map_some, Function.comp_def]
      rw [if_pos this]
  have hopt : optAll ((mixC R R.length).map (reify [(14, .bx (mixC R R.length))] 3)) = some (R.map rowTC) := by
    conv => lhs; rw [hfin]
    rw [List.map_map]
    have : (R.map rowTC).map (reify [(14, .bx ((R.map rowTC).map .t))] 3 ∘ AV.t) = (R.map rowTC).map fun t => some t := List.map_congr_left fun t _ => by simp [reify]
    rw [this]; exact optAll_some
  simp [netlists_Fanout_rv, tFan, hopt, enc1]
end Go.Lg

/- The levels of a circuit: what they are. Conditions: none. -/
set_option linter.unusedSimpArgs false
set_option linter.unusedVariables false
set_option maxRecDepth 100000
namespace Go.Lg
open Go Go.Proofs

/-- Every line names a node. -/
def LinesIn (N : Nat) (rows : List Row) : Prop := ∀ r ∈ rows, ∀ p ∈ r, ∃ i : Nat, i < N ∧ p.1 = i

theorem LinesIn.add {N : Nat} {rows : List Row} {n i : Nat} {k : Int} (h : LinesIn N rows) (hi : i < N) : LinesIn N (addRow rows n (i, k)) := by
  intro r hr p hp
  unfold addRow at hr
  by_cases hn : n < rows.length
  · rcases List.mem_or_eq_of_mem_set hr with hr | rfl
    · exact h r hr p hp
    · rcases List.mem_append.1 hp with hp | hp
      · have e : rows.getD n [] = rows[n] := by simp [hn]
        rw [e] at hp
        exact h _ (List.getElem_mem hn) p hp
      · simp at hp; subst hp; exact ⟨i, hi, rfl⟩
  · rw [List.set_eq_of_length_le (by omega)] at hr
    exact h r hr p hp
theorem fanPins_in {N : Nat} (c : Cir) (i : Nat) (hi : i < N) : ∀ (l : List Int) (k : Nat) (rows : List Row), LinesIn N rows → LinesIn N (fanPins c i l k rows)
  | [], _, _, h => h
  | n :: l, k, rows, h => by
    simp only [fanPins]
    split
    · exact fanPins_in c i hi l (k + 1) rows h
    · exact fanPins_in c i hi l (k + 1) _ (h.add hi)
theorem fanNodes_in {N : Nat} (c : Cir) : ∀ (l : List Nd) (i : Nat) (rows : List Row), i + l.length ≤ N → LinesIn N rows → LinesIn N (fanNodes c l i rows)
  | [], _, _, _, h => h
  | x :: l, i, rows, hl, h => by
    simp only [fanNodes]
    simp at hl
    exact fanNodes_in c l (i + 1) _ (by omega) (fanPins_in c i (by omega) _ _ _ h)
theorem fanRows_in (c : Cir) : LinesIn c.nodes.l.length (fanRows c) := by
  refine fanNodes_in c c.nodes.l 0 _ (by omega) fun r hr p hp => ?_
  rw [List.eq_of_mem_replicate hr] at hp; cases hp
theorem fanNodes_rb (c : Cir) : ∀ (l : List Nd) (i B : Nat) (rows : List Row), (∀ x ∈ l, x.inn.l.length ≤ 16) → RB rows B → RB (fanNodes c l i rows) (B + 16 * l.length)
  | [], _, _, _, _, h => h
  | x :: l, i, B, rows, hl, h => by
    simp only [fanNodes, List.length_cons]
    have h1 := (fanPins_ok c i x.inn.l 0 rows B h).2
    have h2 := hl x List.mem_cons_self
    exact (fanNodes_rb c l (i + 1) (B + 16) _ (fun y hy => hl y (List.mem_cons_of_mem _ hy)) (h1.mono (by omega))).mono (by omega)
theorem fanRows_rb (c : Cir) (hn : c.nodes.l.length ≤ 16384) (hi : ∀ x ∈ c.nodes.l, x.inn.l.length ≤ 16) : RB (fanRows c) 262144 := by
  refine (fanNodes_rb c c.nodes.l 0 0 _ hi fun r hr => ?_).mono (by omega)
  rw [List.eq_of_mem_replicate hr]; simp

structure LS where
  out : List Int
  left : List Int
  rdy : List Int

def combB (k : Int) : Bool := decide (1 ≤ k ∧ k ≤ 13)
def kindAt (c : Cir) (j : Nat) : Int := (c.nodes.l.getD j Nd.d).k

def stepL (c : Cir) (n : Nat) (s : LS) (p : Int × Int) : LS :=
  if combB (kindAt c p.1.toNat) then
    ⟨s.out.set p.1.toNat (max (s.out.getD p.1.toNat 0) (s.out.getD n 0 + 1)), s.left.set p.1.toNat (s.left.getD p.1.toNat 0 - 1), if s.left.getD p.1.toNat 0 - 1 = 0 then s.rdy ++ [p.1] else s.rdy⟩
  else s
def rowOf (c : Cir) (n : Nat) : Row := (fanRows c).getD n []
def mainL (c : Cir) : Nat → Nat → LS → Nat × LS
  | 0, d, s => (d, s)
  | f + 1, d, s => if d < s.rdy.length then mainL c f (d + 1) ((rowOf c (s.rdy.getD d 0).toNat).foldl (stepL c (s.rdy.getD d 0).toNat) s) else (d, s)

def leftOf (x : Nd) : Int := if combB x.k then x.inn.l.length else 0
def rdyFrom : List Nd → Nat → List Int
  | [], _ => []
  | x :: l, i => if leftOf x = 0 then (i : Int) :: rdyFrom l (i + 1) else rdyFrom l (i + 1)
def initL (c : Cir) : LS := ⟨List.replicate c.nodes.l.length 0, c.nodes.l.map leftOf, rdyFrom c.nodes.l 0⟩
def endL (c : Cir) : Nat × LS := mainL c (c.nodes.l.length + 1) 0 (initL c)

/-- What holds on the way: M bounds the numbers. -/
structure LI (N M : Nat) (s : LS) : Prop where
  lo : s.out.length = N
  ll : s.left.length = N
  rd : ∀ j ∈ s.rdy, ∃ i : Nat, i < N ∧ j = i ∧ s.left.getD i 0 ≤ 0
  nd : s.rdy.Nodup
  bo : ∀ i, 0 ≤ s.out.getD i 0 ∧ s.out.getD i 0 ≤ M
  bl : ∀ i, -(M : Int) ≤ s.left.getD i 0 ∧ s.left.getD i 0 ≤ 1000

theorem nodup_len {N : Nat} {l : List Int} (h : l.Nodup) (hb : ∀ j ∈ l, ∃ i : Nat, i < N ∧ j = i) : l.length ≤ N := by
  have h1 : (l.map Int.toNat).Nodup := by
    rw [List.nodup_iff_pairwise_ne] at h ⊢
    rw [List.pairwise_map]
    refine h.imp_of_mem fun {a b} ha hb' hne e => hne ?_
    obtain ⟨i, _, rfl⟩ := hb a ha
    obtain ⟨j, _, rfl⟩ := hb b hb'
    have : i = j := by simpa using e
    rw [this]
  have h2 : (l.map Int.toNat) ⊆ List.range N := by
    intro j hj
    obtain ⟨a, ha, rfl⟩ := List.mem_map.1 hj
    obtain ⟨i, hi, rfl⟩ := hb a ha
    simpa using hi
  have := (List.Nodup.length_le_of_subset h1 h2)
  simpa using this

theorem LI.len {N M : Nat} {s : LS} (h : LI N M s) : s.rdy.length ≤ N := nodup_len h.nd fun j hj => by obtain ⟨i, h1, h2, _⟩ := h.rd j hj; exact ⟨i, h1, h2⟩

theorem getD_set {l : List Int} {j i : Nat} {v : Int} (hj : j < l.length) : (l.set j v).getD i 0 = if i = j then v else l.getD i 0 := by
  simp only [List.getD, List.getElem?_set]
  by_cases h : j = i
  · subst h; simp [hj]
  · simp [h, Ne.symm h]

theorem LI.step {N M : Nat} {c : Cir} {s : LS} {n i : Nat} {k : Int} (h : LI N M s) (hi : i < N) : LI N (M + 1) (stepL c n s (i, k)) := by
  unfold stepL
  simp only [Int.toNat_natCast]
  split
  case isFalse => exact ⟨h.lo, h.ll, h.rd, h.nd, fun j => ⟨(h.bo j).1, by have := (h.bo j).2; omega⟩, fun j => ⟨by have := (h.bl j).1; omega, (h.bl j).2⟩⟩
  refine ⟨by simp [h.lo], by simp [h.ll], ?_, ?_, ?_, ?_⟩
  · intro j hj
    have old : ∀ j ∈ s.rdy, ∃ i0 : Nat, i0 < N ∧ j = i0 ∧ (s.left.set i (s.left.getD i 0 - 1)).getD i0 0 ≤ 0 := by
      intro j hj
      obtain ⟨i0, h1, h2, h3⟩ := h.rd j hj
      refine ⟨i0, h1, h2, ?_⟩
      rw [getD_set (by rw [h.ll]; exact hi)]
      split
      · rename_i e; subst e; omega
      · exact h3
    split at hj
    · rename_i hz
      rcases List.mem_append.1 hj with hj | hj
      · exact old j hj
      · simp at hj; subst hj
        refine ⟨i, hi, rfl, ?_⟩
        rw [getD_set (by rw [h.ll]; exact hi), if_pos rfl]; omega
    · exact old j hj
  · split
    · rename_i hz
      rw [List.nodup_append]
      refine ⟨h.nd, by simp, ?_⟩
      intro a ha b hb e
      simp at hb; subst hb; subst e
      obtain ⟨i0, h1, h2, h3⟩ := h.rd _ ha
      have : i = i0 := by omega
      subst this
      omega
    · exact h.nd
  · intro j
    rw [getD_set (by rw [h.lo]; exact hi)]
    have h1 := h.bo j
    have h2 := h.bo i
    have h3 := h.bo n
    split
    · rename_i e
      omega
    · omega
  · intro j
    rw [getD_set (by rw [h.ll]; exact hi)]
    have h1 := h.bl j
    have h2 := h.bl i
    split <;> omega

theorem LI.fold {N : Nat} {c : Cir} {n : Nat} : ∀ {r : Row} {s : LS} {M : Nat}, LI N M s → (∀ p ∈ r, ∃ i : Nat, i < N ∧ p.1 = i) → LI N (M + r.length) (r.foldl (stepL c n) s)
  | [], _, _, h, _ => h
  | p :: r, s, M, h, hr => by
    obtain ⟨i, hi, he⟩ := hr p List.mem_cons_self
    obtain ⟨p1, p2⟩ := p
    simp only at he; subst he
    have := LI.fold (c := c) (n := n) (h.step (c := c) (n := n) (k := p2) hi) fun q hq => hr q (List.mem_cons_of_mem _ hq)
    simp only [List.foldl_cons, List.length_cons]
    rw [show M + (r.length + 1) = M + 1 + r.length by omega]
    exact this

theorem rdyFrom_in : ∀ (l : List Nd) (i : Nat), (∀ j ∈ rdyFrom l i, ∃ a : Nat, i ≤ a ∧ a < i + l.length ∧ j = a ∧ (l.map leftOf).getD (a - i) 0 = 0) ∧ (rdyFrom l i).Nodup
  | [], _ => ⟨fun j h => (by cases h), List.nodup_nil⟩
  | x :: l, i => by
    obtain ⟨h1, h2⟩ := rdyFrom_in l (i + 1)
    have h3 : ∀ j ∈ rdyFrom l (i + 1), ∃ a : Nat, i ≤ a ∧ a < i + (l.length + 1) ∧ j = a ∧ ((x :: l).map leftOf).getD (a - i) 0 = 0 := by
      intro j hj
      obtain ⟨a, e1, e2, e3, e4⟩ := h1 j hj
      refine ⟨a, by omega, by omega, e3, ?_⟩
      rw [show a - i = (a - (i + 1)) + 1 by omega]
      simpa using e4
    simp only [rdyFrom, List.length_cons]
    split
    · rename_i hz
      refine ⟨fun j hj => ?_, ?_⟩
      · rcases List.mem_cons.1 hj with rfl | hj
        · exact ⟨i, by omega, by omega, rfl, by simp [hz]⟩
        · exact h3 j hj
      · rw [List.nodup_cons]
        refine ⟨fun hm => ?_, h2⟩
        obtain ⟨a, e1, _, e3, _⟩ := h1 _ hm
        omega
    · exact ⟨h3, h2⟩

theorem initL_ok (c : Cir) (hi : ∀ x ∈ c.nodes.l, x.inn.l.length ≤ 16) : LI c.nodes.l.length 0 (initL c) := by
  obtain ⟨h1, h2⟩ := rdyFrom_in c.nodes.l 0
  refine ⟨by simp [initL], by simp [initL], fun j hj => ?_, h2, fun i => ?_, fun i => ?_⟩
  · obtain ⟨a, _, e2, e3, e4⟩ := h1 j hj
    exact ⟨a, by omega, e3, by simp only [Nat.sub_zero] at e4; simp only [initL]; omega⟩
  · simp only [initL, List.getD, List.getElem?_replicate]
    split <;> simp
  · simp only [initL, List.getD, List.getElem?_map]
    cases hx : c.nodes.l[i]? with
    | none => simp
    | some x =>
      have := hi x (List.mem_of_getElem? hx)
      simp only [Option.map_some, Option.getD_some, leftOf]
      split <;> simp <;> omega
end Go.Lg

/- The levels of a circuit: the walk. Conditions: none. -/
set_option linter.unusedSimpArgs false
set_option linter.unusedVariables false
set_option maxRecDepth 100000
namespace Go.Lg
open Go Go.Proofs
variable {Γ : Tables}

theorem enc1_get_set {α : Type} {f : α → T} {l : List α} {j : Nat} {x : α} (h : j < l.length) : (enc1 f (l.set j x))[j]?.getD [] = [f x] := by simp [enc1, h]
theorem tLn_get {r : Row} {i : Nat} (h : i < r.length) : (encN tLn r)[i]?.getD [] = tLn r[i] := by simp [encN, h]

/-- Where the levels, the counts and the nodes that are ready lie. -/
def lsH (s : LS) : List (Nat × Reg) := [(23, .sl 3 1 (ints s.out)), (27, .sl 3 1 (ints s.left)), (53, .sl 3 1 (ints s.rdy))]

theorem lines_loop {Q : AX → St → Prop} (c : Cir) (hc : CirOk c) (hn : c.nodes.l.length ≤ 16384) (n : Nat) (hnn : n < c.nodes.l.length) (d : Int) (r : Row) (nl : Option Bool) (hr : r.length ≤ 262144) (hin : ∀ p ∈ r, ∃ i : Nat, i < c.nodes.l.length ∧ p.1 = i) (fan : T) (S : LS)
    (h0 : Q (.exit 4) ⟨[(1, .t (.ip (tC c) 0)), (5, .ls 23 0 c.nodes.l.length none), (6, .ls 27 0 c.nodes.l.length none), (7, .ls 53 0 S.rdy.length none), (10, .t fan), (11, .t (tI d)), (12, .t (tI n)), (76, .t (.sl (encN tLn r) (some r.length) nl)), (77, .t (tI r.length)), (78, .t (tI r.length)), (79, .t (tB false))], lsH S⟩) :
    ∀ (kk k : Nat) (s : LS) (M : Nat), kk + k = r.length → LI c.nodes.l.length M s → M + kk ≤ 4611686018427387904 → (r.drop k).foldl (stepL c n) s = S →
    run Tryd.prog Γ netlists_Levels_l3 Q ⟨[(1, .t (.ip (tC c) 0)), (5, .ls 23 0 c.nodes.l.length none), (6, .ls 27 0 c.nodes.l.length none), (7, .ls 53 0 s.rdy.length none), (10, .t fan), (11, .t (tI d)), (12, .t (tI n)), (76, .t (.sl (encN tLn r) (some r.length) nl)), (77, .t (tI r.length)), (78, .t (tI k))], lsH s⟩
  | 0, k, s, M, h, hI, hM, hS => by
    refine netlists_Levels_l3_run fun K hK => ?_
    have h2 : ¬ k < r.length := by omega
    have h3 : k = r.length := by omega
    simp [h2, lsH]
    subst h3
    rw [List.drop_of_length_le (Nat.le_refl _)] at hS
    simp only [List.foldl_nil] at hS
    subst hS
    exact h0
  | kk + 1, k, s, M, h, hI, hM, hS => by
    refine netlists_Levels_l3_run fun K hK => ?_
    have h2 : k < r.length := by omega
    rw [List.drop_eq_getElem_cons h2] at hS
    simp only [List.foldl_cons] at hS
    obtain ⟨j, hj, hpj⟩ := hin _ (List.getElem_mem h2)
    have hstep := hI.step (c := c) (n := n) (k := r[k].2) hj
    have hpair : r[k] = ((j : Int), r[k].2) := by rw [← hpj]
    rw [hpair] at hS
    generalize r[k].2 = q at hS hstep hpair
    have e := comb_spec (Γ := Γ) c.nodes.l[j].k
    have hkind : kindAt c j = c.nodes.l[j].k := by simp [kindAt, hj]
    simp (disch := omega) [h2, lsH, encN_len, tLn_get h2, tLn_wid, hpair, tLn, tC, tNodes, encN_get Nd.d, tNd_wid, tNd, tSl, hj]
    refine callK_fresh e rfl ?_
    by_cases hcb : combB c.nodes.l[j].k = true
    case neg =>
      have hcb' : decide (1 ≤ c.nodes.l[j].k ∧ c.nodes.l[j].k ≤ 13) = false := by simpa [combB] using hcb
      have hcb2 : combB (kindAt c j) = false := by rw [hkind]; exact hcb'
      have hst : stepL c n s ((j : Int), q) = s := by unfold stepL; simp [hcb2]
      rw [hst] at hS hstep
      rw [hcb']
      simp (disch := omega) [wrap_i64]
      rw [hK]
      have := lines_loop c hc hn n hnn d r nl hr hin fan S h0 kk (k + 1) s (M + 1) (by omega) hstep (by omega) hS
      simpa [lsH, tC, tNodes, tSl] using this
    have hcb' : decide (1 ≤ c.nodes.l[j].k ∧ c.nodes.l[j].k ≤ 13) = true := by simpa [combB] using hcb
    have hcb2 : combB (kindAt c j) = true := by rw [hkind]; exact hcb'
    rw [hcb']
    have ho := hI.lo
    have hll := hI.ll
    have b1 := hI.bo n
    have b2 := hI.bo j
    have b3 := hI.bl j
    have hrl := hI.len
    have hst : stepL c n s ((j : Int), q) = ⟨s.out.set j (max (s.out.getD j 0) (s.out.getD n 0 + 1)), s.left.set j (s.left.getD j 0 - 1), if s.left.getD j 0 - 1 = 0 then s.rdy ++ [(j : Int)] else s.rdy⟩ := by
      unfold stepL; simp [hcb2]
    have hw : wid 1 [[tI (j : Int)]] := by intro e he; simp at he; subst he; rfl
    have hmax : max (s.out.getD j 0) (s.out.getD n 0 + 1) = if s.out.getD j 0 < s.out.getD n 0 + 1 then s.out.getD n 0 + 1 else s.out.getD j 0 := by
      split <;> omega
    have ih := fun S2 (e : S2 = stepL c n s ((j : Int), q)) => lines_loop c hc hn n hnn d r nl hr hin fan S h0 kk (k + 1) S2 (M + 1) (by omega) (e ▸ hstep) (by omega) (e ▸ hS)
    have ljo : j < s.out.length := by omega
    have lno : n < s.out.length := by omega
    have ljl : j < s.left.length := by omega
    simp only [List.getD, List.getElem?_eq_getElem ljo, List.getElem?_eq_getElem lno, List.getElem?_eq_getElem ljl, Option.getD_some] at b1 b2 b3 hst hmax
    have b1a := b1.1
    have b1b := b1.2
    have b2a := b2.1
    have b2b := b2.2
    have b3a := b3.1
    have b3b := b3.2
    simp (disch := omega) [wrap_i64, enc1_len, enc1_get (0 : Int), enc1_wid, enc1_set, ljo, lno, ljl, hj, hnn]
    rw [show (if s.out[j] < s.out[n] + 1 then s.out[n] + 1 else s.out[j]) = max s.out[j] (s.out[n] + 1) from hmax.symm]
    by_cases hz : s.left[j] - 1 = 0
    · rw [if_pos hz] at hst
      have ih' := ih _ hst.symm
      simp (disch := omega) [hz, wrap_i64, enc1_len, enc1_wid, hw, enc1_get_set]
      refine ⟨by omega, ?_⟩
      rw [hK]
      rw [enc1_snoc (f := tI) (x := (j : Int))]
      simpa [lsH, tC, tNodes, tSl, hz] using ih'
    · rw [if_neg hz] at hst
      have ih' := ih _ hst.symm
      simp (disch := omega) [hz, wrap_i64, enc1_get_set, enc1_wid]
      rw [hK]
      simpa [lsH, tC, tNodes, tSl] using ih'
end Go.Lg

/- The levels of a circuit: the contract. Conditions: none. -/
set_option linter.unusedSimpArgs false
set_option linter.unusedVariables false
set_option maxRecDepth 100000
namespace Go.Lg
open Go Go.Proofs
variable {Γ : Tables}

theorem main_loop {Q : AX → St → Prop} (c : Cir) (hc : CirOk c) (hn : c.nodes.l.length ≤ 16384) (hi : ∀ x ∈ c.nodes.l, x.inn.l.length ≤ 16) (R : Nat × LS)
    (h0 : Q (.exit 2) ⟨[(1, .t (.ip (tC c) 0)), (5, .ls 23 0 c.nodes.l.length none), (6, .ls 27 0 c.nodes.l.length none), (7, .ls 53 0 R.2.rdy.length none), (10, .t (tFan (fanRows c))), (11, .t (tI R.1)), (60, .t (tB false))], lsH R.2⟩) :
    ∀ (f d : Nat) (s : LS) (M : Nat), f + d = c.nodes.l.length + 1 → LI c.nodes.l.length M s → M = d * 262144 → mainL c f d s = R →
    run Tryd.prog Γ netlists_Levels_l5 Q ⟨[(1, .t (.ip (tC c) 0)), (5, .ls 23 0 c.nodes.l.length none), (6, .ls 27 0 c.nodes.l.length none), (7, .ls 53 0 s.rdy.length none), (10, .t (tFan (fanRows c))), (11, .t (tI d))], lsH s⟩
  | 0, d, s, M, h, hI, hM, hR => by
    refine netlists_Levels_l5_run fun K hK => ?_
    have hlen := hI.len
    have h2 : ¬ d < s.rdy.length := by omega
    simp [h2, lsH]
    simp only [mainL] at hR
    subst hR
    exact h0
  | f + 1, d, s, M, h, hI, hM, hR => by
    refine netlists_Levels_l5_run fun K hK => ?_
    have hlen := hI.len
    by_cases h2 : d < s.rdy.length
    case neg =>
      simp [h2, lsH]
      simp only [mainL, h2, ↓reduceIte] at hR
      subst hR
      exact h0
    simp only [mainL, h2, ↓reduceIte] at hR
    obtain ⟨j, hj, he, hz⟩ := hI.rd _ (List.getElem_mem h2)
    have hgd : s.rdy.getD d 0 = (j : Int) := by simp [h2, he]
    rw [hgd] at hR
    simp only [Int.toNat_natCast] at hR
    have hfr := fanRows_len c
    have hrl : rowOf c j ∈ fanRows c := by
      have e : rowOf c j = (fanRows c)[j]'(by omega) := by simp [rowOf, hfr, hj]
      rw [e]; exact List.getElem_mem _
    have hin := fanRows_in c _ hrl
    have hrb := fanRows_rb c hn hi _ hrl
    have hfold := hI.fold (c := c) (n := j) hin
    have hel : (fanRows c)[j]? = some (rowOf c j) := by
      have hlt : j < (fanRows c).length := by omega
      simp [rowOf, hlt]
    have hrt : rowTC (rowOf c j) = .sl (encN tLn (rowOf c j)) (some (rowOf c j).length) (if rowOf c j = [] then some true else none) := rfl
    have hg1 : (enc1 rowTC (fanRows c))[j]?.getD [] = [rowTC (rowOf c j)] := by simp [enc1, hel]
    have hM2 : LI c.nodes.l.length ((d + 1) * 262144) ((rowOf c j).foldl (stepL c j) s) := ⟨hfold.lo, hfold.ll, hfold.rd, hfold.nd, fun i => ⟨(hfold.bo i).1, by have := (hfold.bo i).2; omega⟩, fun i => ⟨by have := (hfold.bl i).1; omega, (hfold.bl i).2⟩⟩
    have ih := main_loop c hc hn hi R h0 f (d + 1) _ _ (by omega) hM2 rfl hR
    have hrdy : (s.rdy)[d]?.getD 0 = (j : Int) := by simpa using hgd
    simp (disch := omega) [h2, lsH, enc1_len, enc1_get (0 : Int), enc1_wid, wrap_i64, he, tFan, hfr, hj, hg1, hrt, encN_len]
    by_cases hr0 : (rowOf c j).length = 0
    · have hr0' : rowOf c j = [] := List.eq_nil_of_length_eq_zero hr0
      simp [hr0', Later]
      rw [hK]
      rw [hr0'] at ih
      simp only [List.foldl_nil, tFan, hfr, lsH] at ih
      exact_mod_cast ih
    · have hr0' : ¬ rowOf c j = [] := fun e => hr0 (by simp [e])
      simp (disch := omega) [Later, hr0', lsH, enc1_len, enc1_get (0 : Int), enc1_wid, wrap_i64, he, tFan, hfr, hj, hg1, hrt, encN_len]
      refine lines_loop c hc hn j hj ((d : Int) + 1) (rowOf c j) _ (by omega) hin _ _ ?_ (rowOf c j).length 0 s M (by omega) hI (by omega) rfl
      simp [lsH]
      rw [hK]
      simp only [tFan, hfr, lsH] at ih
      exact_mod_cast ih

theorem rdyFrom_snoc (x : Nd) : ∀ (l : List Nd) (i : Nat), rdyFrom (l ++ [x]) i = if leftOf x = 0 then rdyFrom l i ++ [((i + l.length : Nat) : Int)] else rdyFrom l i
  | [], i => by simp [rdyFrom]
  | y :: l, i => by
    have := rdyFrom_snoc x l (i + 1)
    simp only [List.cons_append, rdyFrom, this, List.length_cons]
    rw [show i + 1 + l.length = i + (l.length + 1) by omega]
    split <;> split <;> rfl
theorem rdyFrom_len : ∀ (l : List Nd) (i : Nat), (rdyFrom l i).length ≤ l.length
  | [], _ => by simp [rdyFrom]
  | x :: l, i => by
    have := rdyFrom_len l (i + 1)
    simp only [rdyFrom]
    split <;> simp <;> omega

/-- The counts as far as they are laid. -/
def leftAt (c : Cir) (i : Nat) : List Int := (c.nodes.l.take i).map leftOf ++ List.replicate (c.nodes.l.length - i) 0
theorem leftAt_len {c : Cir} {i : Nat} (h : i ≤ c.nodes.l.length) : (leftAt c i).length = c.nodes.l.length := by simp [leftAt]; omega
theorem leftAt_set {c : Cir} {i : Nat} (h : i < c.nodes.l.length) : (leftAt c i).set i (leftOf c.nodes.l[i]) = leftAt c (i + 1) := by
  unfold leftAt
  have e1 : ((c.nodes.l.take i).map leftOf).length = i := by simp; omega
  rw [List.set_append_right _ _ (by rw [e1]; exact Nat.le_refl i), e1, Nat.sub_self]
  rw [show c.nodes.l.length - i = (c.nodes.l.length - (i + 1)) + 1 by omega, List.replicate_succ, List.set_cons_zero]
  have e3 : (c.nodes.l.map leftOf).take (i + 1) = (c.nodes.l.map leftOf).take i ++ [leftOf c.nodes.l[i]] := by rw [List.take_add_one]; simp [h]
  simp [e3]
theorem leftAt_same {c : Cir} {i : Nat} (h : i < c.nodes.l.length) (h0 : leftOf c.nodes.l[i] = 0) : leftAt c i = leftAt c (i + 1) := by
  unfold leftAt
  rw [show c.nodes.l.length - i = (c.nodes.l.length - (i + 1)) + 1 by omega, List.replicate_succ]
  have e3 : (c.nodes.l.map leftOf).take (i + 1) = (c.nodes.l.map leftOf).take i ++ [leftOf c.nodes.l[i]] := by rw [List.take_add_one]; simp [h]
  simp [e3, h0]
theorem init_loop {Q : AX → St → Prop} (c : Cir) (hn : c.nodes.l.length ≤ 16384) (hi : ∀ x ∈ c.nodes.l, x.inn.l.length ≤ 16) (out : List Int)
    (h0 : Q (.exit 0) ⟨[(1, .t (.ip (tC c) 0)), (5, .ls 23 0 c.nodes.l.length none), (6, .ls 27 0 c.nodes.l.length none), (7, .ls 53 0 (rdyFrom c.nodes.l 0).length none), (29, .t (tNodes c.nodes)), (30, .t (tI c.nodes.l.length)), (31, .t (tI c.nodes.l.length)), (32, .t (tB false))], [(23, .sl 3 1 (ints out)), (27, .sl 3 1 (ints (c.nodes.l.map leftOf))), (53, .sl 3 1 (ints (rdyFrom c.nodes.l 0)))]⟩) :
    ∀ (kk i : Nat), kk + i = c.nodes.l.length →
    run Tryd.prog Γ netlists_Levels_l1 Q ⟨[(1, .t (.ip (tC c) 0)), (5, .ls 23 0 c.nodes.l.length none), (6, .ls 27 0 c.nodes.l.length none), (7, .ls 53 0 (rdyFrom (c.nodes.l.take i) 0).length none), (29, .t (tNodes c.nodes)), (30, .t (tI c.nodes.l.length)), (31, .t (tI i))], [(23, .sl 3 1 (ints out)), (27, .sl 3 1 (ints (leftAt c i))), (53, .sl 3 1 (ints (rdyFrom (c.nodes.l.take i) 0)))]⟩
  | 0, i, h => by
    refine netlists_Levels_l1_run fun K hK => ?_
    have h2 : ¬ i < c.nodes.l.length := by omega
    have h3 : i = c.nodes.l.length := by omega
    simp [h2]
    subst h3
    simpa [leftAt] using h0
  | kk + 1, i, h => by
    refine netlists_Levels_l1_run fun K hK => ?_
    have h2 : i < c.nodes.l.length := by omega
    have hx := hi _ (List.getElem_mem h2)
    have ht : c.nodes.l.take (i + 1) = c.nodes.l.take i ++ [c.nodes.l[i]] := by rw [List.take_add_one]; simp [h2]
    have htl : (c.nodes.l.take i).length = i := by simp; omega
    have hrl := rdyFrom_len (c.nodes.l.take i) 0
    have hll := leftAt_len (c := c) (i := i) (by omega)
    have hll1 := leftAt_len (c := c) (i := i + 1) (by omega)
    have hsn := rdyFrom_snoc c.nodes.l[i] (c.nodes.l.take i) 0
    rw [← ht, htl, Nat.zero_add] at hsn
    have e := comb_spec (Γ := Γ) c.nodes.l[i].k
    have ih := init_loop c hn hi out h0 kk (i + 1) (by omega)
    have hw : wid 1 [[tI (i : Int)]] := by intro e he; simp at he; subst he; rfl
    simp (disch := omega) [h2, encN_len, encN_get Nd.d, tNd_wid, tNodes, tNd, tSl, -netlists_Levels_r12]
    refine callK_fresh e rfl ?_
    have tail : ∀ (lf : List Int), lf = leftAt c (i + 1) → run Tryd.prog Γ (.seq (.reg netlists_Levels_r12 [.keep [1, 5, 6, 7, 8, 29, 30, 31, 49] [23, 27, 53]]) (.cond (.tmp 49) (.reg netlists_Levels_r13 [.keep [1, 5, 6, 7, 29, 30, 31] [23, 27, 53]]) .skip))
        (blockX 1 (thenX (run Tryd.prog Γ (.reg netlists_Levels_r14 [.keep [1, 5, 6, 7, 29, 30, 31] [23, 27, 53]]) (thenX (fun s => thenX K Q .normal (ghs [.keep [1, 5, 6, 7, 29, 30, 31] [23, 27, 53]] s)) (thenX K Q))) (thenX (fun s => thenX K Q .normal (ghs [.keep [1, 5, 6, 7, 29, 30, 31] [23, 27, 53]] s)) (thenX K Q))))
        ⟨[(1, .t (.ip (tC c) 0)), (5, .ls 23 0 c.nodes.l.length none), (6, .ls 27 0 c.nodes.l.length none), (7, .ls 53 0 (rdyFrom (c.nodes.l.take i) 0).length none), (8, .t (tI i)), (29, .t (tNodes c.nodes)), (30, .t (tI c.nodes.l.length)), (31, .t (tI i))], [(23, .sl 3 1 (ints out)), (27, .sl 3 1 (ints lf)), (53, .sl 3 1 (ints (rdyFrom (c.nodes.l.take i) 0)))]⟩ := by
      rintro lf rfl
      have hget : (leftAt c (i + 1))[i]?.getD 0 = leftOf c.nodes.l[i] := by
        rw [← leftAt_set h2]
        simp [hll, h2]
      have hge := hget
      rw [List.getElem?_eq_getElem (by rw [hll1]; exact h2), Option.getD_some] at hge
      by_cases hz : leftOf c.nodes.l[i] = 0
      · rw [if_pos hz] at hsn
        simp (disch := omega) [h2, enc1_len, enc1_get (0 : Int), enc1_wid, hll1, hge, hz, hw, wrap_i64]
        refine ⟨by omega, ?_⟩
        rw [hK]
        rw [hsn] at ih
        rw [enc1_snoc (f := tI) (x := (i : Int))]
        simpa using ih
      · rw [if_neg hz] at hsn
        simp (disch := omega) [h2, enc1_len, enc1_get (0 : Int), enc1_wid, hll1, hge, hz, wrap_i64]
        rw [hK]
        rw [hsn] at ih
        exact_mod_cast ih
    by_cases hcb : combB c.nodes.l[i].k = true
    · have hcb' : decide (1 ≤ c.nodes.l[i].k ∧ c.nodes.l[i].k ≤ 13) = true := by simpa [combB] using hcb
      have hlo : leftOf c.nodes.l[i] = c.nodes.l[i].inn.l.length := by simp [leftOf, hcb]
      rw [hcb']
      have := tail ((leftAt c i).set i c.nodes.l[i].inn.l.length) (by rw [← hlo]; exact leftAt_set h2)
      simp (disch := omega) [h2, enc1_len, enc1_wid, hll, enc1_set, -netlists_Levels_r12]
      exact this
    · have hcb' : decide (1 ≤ c.nodes.l[i].k ∧ c.nodes.l[i].k ≤ 13) = false := by simpa [combB] using hcb
      have hlo : leftOf c.nodes.l[i] = 0 := by simp [leftOf, hcb]
      rw [hcb', leftAt_same h2 hlo]
      rw [if_pos hlo] at hsn
      have hge : (leftAt c (i + 1))[i]'(by rw [hll1]; exact h2) = 0 := by
        have hget : (leftAt c (i + 1))[i]?.getD 0 = leftOf c.nodes.l[i] := by
          rw [← leftAt_set h2]
          simp [hll, h2]
        rw [List.getElem?_eq_getElem (by rw [hll1]; exact h2), Option.getD_some] at hget
        rw [hget, hlo]
      simp (disch := omega) [h2, enc1_len, enc1_get (0 : Int), enc1_wid, hll1, hge, hw, wrap_i64]
      refine ⟨by omega, ?_⟩
      rw [hK]
      rw [hsn] at ih
      rw [enc1_snoc (f := tI) (x := (i : Int))]
      simpa [tNodes] using ih

/-- What Levels hands back: the levels and the error. -/
def levErr (c : Cir) : Int := if shapeErr c ≠ 0 then shapeErr c else if (endL c).1 < c.nodes.l.length then 6 else 0

theorem fan_le (k : Int) : (fan k).2 ≤ 16 := by
  unfold fan
  split
  · decide
  · have : ∀ n : Nat, (fanL.getD n (0, 0)).2 ≤ 16 := by
      intro n
      by_cases h : n < 16
      · have : n = 0 ∨ n = 1 ∨ n = 2 ∨ n = 3 ∨ n = 4 ∨ n = 5 ∨ n = 6 ∨ n = 7 ∨ n = 8 ∨ n = 9 ∨ n = 10 ∨ n = 11 ∨ n = 12 ∨ n = 13 ∨ n = 14 ∨ n = 15 := by omega
        rcases this with rfl | rfl | rfl | rfl | rfl | rfl | rfl | rfl | rfl | rfl | rfl | rfl | rfl | rfl | rfl | rfl <;> decide
      · rw [List.getD, List.getElem?_eq_none (by simp [fanL]; omega)]; decide
    exact this _

theorem firstErr_zero {α : Type} {f : α → Int} : ∀ {l : List α}, firstErr (l.map f) = 0 → ∀ x ∈ l, f x = 0
  | [], _, x, h => by cases h
  | y :: l, h, x, hx => by
    simp only [List.map_cons, firstErr] at h
    split at h
    · rename_i hy; exact absurd h hy
    · rename_i hy
      rcases List.mem_cons.1 hx with rfl | hx
      · simpa using hy
      · exact firstErr_zero h x hx

theorem shape_facts {c : Cir} (h : shapeErr c = 0) : c.nodes.l.length ≤ 16384 ∧ (∀ x ∈ c.nodes.l, x.inn.l.length ≤ 16) ∧ (∀ x ∈ c.nodes.l, nodeErr c x = 0) ∧ c.mems.l.length ≤ 16 := by
  unfold shapeErr at h
  split at h
  · cases h
  rename_i h1
  split at h
  · cases h
  split at h
  · rename_i h2; exact absurd h h2
  rename_i h2
  have h3 := firstErr_zero (by simpa using h2)
  refine ⟨by omega, fun x hx => ?_, h3, by omega⟩
  have h4 := h3 x hx
  have h5 := fan_le x.k
  unfold nodeErr at h4
  split at h4
  · cases h4
  split at h4
  · cases h4
  rename_i h6
  omega

theorem levels_spec (hΓ : GOk Γ) (c : Cir) (hc : CirOk c) (ha : ∀ s ∈ c.names.l, ∀ b ∈ s, b < 128) :
    FreshCalls Tryd.prog Γ 45 [.agg (tC c)] (.tup [if levErr c = 0 then .sl (ints (endL c).2.out) none none else .sl [] (some 0) (some true), tI (levErr c)]) := by
  refine run_freshQ netlists_Levels_chk rfl ?_
  have e1 := shape_spec hΓ c hc ha
  simp [netlists_Levels_ic, tC, tNodes, tNames, tMems, tSl]
  refine callK_fresh e1 rfl ?_
  by_cases h1 : shapeErr c = 0
  case neg =>
    have : levErr c = shapeErr c := by unfold levErr; rw [if_pos h1]
    simp [h1, netlists_Levels_rv, this]
  obtain ⟨hn, hi, _⟩ := shape_facts h1
  have e2 := fanout_spec (Γ := Γ) c hn hi
  have hl0 : levErr c = if (endL c).1 < c.nodes.l.length then 6 else 0 := by unfold levErr; rw [if_neg (show ¬ (shapeErr c ≠ 0) by simp [h1])]
  simp (disch := omega) [h1, encN_len, wrap_i64]
  refine ⟨by omega, ?_⟩
  have e0 : List.replicate c.nodes.l.length [T.v (Value.int .i64 0)] = ints (List.replicate c.nodes.l.length 0) := by simp [enc1]
  rw [e0]
  have hl := fun Q h0 => init_loop (Γ := Γ) (Q := Q) c hn hi (List.replicate c.nodes.l.length 0) h0 c.nodes.l.length 0 (by omega)
  have el0 : leftAt c 0 = List.replicate c.nodes.l.length 0 := by simp [leftAt]
  simp only [el0, rdyFrom, List.take_zero, List.length_nil] at hl
  refine hl _ ?_
  simp [tC, tNodes, tNames, tMems, tSl]
  refine callK_pure e2 rfl ?_
  have hI := initL_ok c hi
  have hm := fun Q h0 => main_loop (Γ := Γ) (Q := Q) c hc hn hi (endL c) h0 (c.nodes.l.length + 1) 0 (initL c) 0 (by omega) hI (by omega) rfl
  simp
  refine hm _ ?_
  have hend : (endL c).1 < c.nodes.l.length ↔ ((endL c).1 : Int) < c.nodes.l.length := by omega
  have hol : (endL c).2.out.length = c.nodes.l.length := by
    have : ∀ (f d : Nat) (s : LS), s.out.length = c.nodes.l.length → (mainL c f d s).2.out.length = c.nodes.l.length := by
      intro f
      induction f with
      | zero => intro d s h; exact h
      | succ f ih =>
        intro d s h
        simp only [mainL]
        split
        · refine ih _ _ ?_
          have : ∀ (r : Row) (n : Nat) (s : LS), s.out.length = c.nodes.l.length → (r.foldl (stepL c n) s).out.length = c.nodes.l.length := by
            intro r n
            induction r with
            | nil => intro s h; exact h
            | cons p r ih2 =>
              intro s h
              rw [List.foldl_cons]
              refine ih2 _ ?_
              unfold stepL
              split
              · simp [h]
              · exact h
          exact this _ _ _ h
        · exact h
    exact this _ _ _ hI.lo
  by_cases h2 : (endL c).1 < c.nodes.l.length
  · rw [if_pos h2] at hl0
    have h2' := hend.1 h2
    simp [lsH, tC, tNodes, encN_len, h2', netlists_Levels_rv, hl0]
  · rw [if_neg h2] at hl0
    have h2' : ¬ ((endL c).1 : Int) < c.nodes.l.length := fun h => h2 (hend.2 h)
    have ht : (ints (endL c).2.out).take c.nodes.l.length = ints (endL c).2.out := by rw [← hol]; simp
    simp [lsH, tC, tNodes, encN_len, h2, h2', netlists_Levels_rv, hl0, ht]
end Go.Lg

/- Check, States, plain. Conditions: none. -/
set_option linter.unusedSimpArgs false
set_option linter.unusedVariables false
set_option maxRecDepth 100000
namespace Go.Lg
open Go Go.Proofs
variable {Γ : Tables}

/-- A circuit that the program may be asked about. -/
structure COk (c : Cir) : Prop extends CirOk c where
  asc : ∀ s ∈ c.names.l, ∀ b ∈ s, b < 128

theorem check_spec (hΓ : GOk Γ) (c : Cir) (hc : COk c) : FreshCalls Tryd.prog Γ 14 [.agg (tC c)] (tI (levErr c)) := by
  refine run_freshQ netlists_Check_chk rfl ?_
  have e := levels_spec hΓ c hc.toCirOk hc.asc
  simp [netlists_Check_ic, tC, tNodes, tNames, tMems, tSl]
  refine callK_fresh e rfl ?_
  simp
  simp [netlists_Check_rv]

def states (c : Cir) : List Int := ofL [14] c.nodes.l 0
def mems (c : Cir) : List Int := ofL [15] c.nodes.l 0

theorem of_one (c : Cir) (hc : COk c) (k : Int) : FreshCalls Tryd.prog Γ 15 [.agg (tC c), .sl [[tK k]] (some 1) (some false)] (.sl (ints (ofL [k] c.nodes.l 0)) (some (ofL [k] c.nodes.l 0).length) none) := by
  have := of_spec (Γ := Γ) c hc.toCirOk [k] (some 1) (some false) (by simp)
  simpa [enc1] using this

theorem states_spec (c : Cir) (hc : COk c) : PureCalls Tryd.prog Γ 17 [.agg (tC c)] (.sl (ints (states c)) (some (states c).length) none) := by
  refine run_pureQ netlists_States_chk rfl ?_
  simp [netlists_States_ic, tC, tNodes, tNames, tMems, tSl]
  refine callK_fresh (of_one c hc 14) rfl ?_
  simp [netlists_States_rv, states]

def plainErr (c : Cir) : Int := if levErr c ≠ 0 then levErr c else if 0 < c.mems.l.length ∨ 0 < (mems c).length then 7 else 0

theorem plain_spec (hΓ : GOk Γ) (c : Cir) (hc : COk c) : FreshCalls Tryd.prog Γ 41 [.agg (tC c)] (tI (plainErr c)) := by
  refine run_freshQ scans_plain_chk rfl ?_
  simp [scans_plain_ic, tC, tNodes, tNames, tMems, tSl]
  refine callK_fresh (check_spec hΓ c hc) rfl ?_
  by_cases h1 : levErr c = 0
  case neg =>
    have : plainErr c = levErr c := by unfold plainErr; rw [if_pos h1]
    simp [h1, scans_plain_rv, this]
  have hp : plainErr c = if 0 < c.mems.l.length ∨ 0 < (mems c).length then 7 else 0 := by unfold plainErr; rw [if_neg (show ¬ (levErr c ≠ 0) by simp [h1])]
  by_cases h2 : 0 < c.mems.l.length
  · rw [if_pos (.inl h2)] at hp
    have h2' : (0 : Int) < c.mems.l.length := by omega
    simp [h1, encN_len, h2, h2', scans_plain_rv, hp]
  · have h2' : ¬ (0 : Int) < c.mems.l.length := by omega
    simp [h1, encN_len, h2, h2']
    refine callK_fresh (of_one c hc 15) rfl ?_
    have hml : c.mems.l = [] := List.eq_nil_of_length_eq_zero (by omega)
    by_cases h3 : 0 < (ofL [15] c.nodes.l 0).length
    · rw [if_pos (show 0 < c.mems.l.length ∨ 0 < (mems c).length from .inr h3)] at hp
      have h3' : (0 : Int) < (ofL [15] c.nodes.l 0).length := by omega
      have h4 : ¬ ofL [15] c.nodes.l 0 = [] := fun e => by rw [e] at h3; simp at h3
      simp [enc1_len]
      simp [h3, h4, Later, scans_plain_rv, hp]
    · have h3m : ¬ 0 < (mems c).length := h3
      rw [if_neg (show ¬ (0 < c.mems.l.length ∨ 0 < (mems c).length) by omega)] at hp
      have h4 : ofL [15] c.nodes.l 0 = [] := List.eq_nil_of_length_eq_zero (by omega)
      simp [enc1_len, h4]
      simp [h4, Later, scans_plain_rv, hp]
end Go.Lg

/- Small facts on lists of ints and of nodes. Conditions: none. -/
set_option linter.unusedSimpArgs false
set_option linter.unusedVariables false
set_option maxRecDepth 100000
namespace Go.Lg
open Go Go.Proofs

def tChs (s : Sl (Sl Int)) : T := .sl (enc1 tSl s.l) s.cap s.nl

def Sl.d : Sl Int := ⟨[], none, none⟩

def swapL (l : List Int) (a b : Nat) : List Int := (l.set a (l.getD b 0)).set b (l.getD a 0)

theorem swapL_len {l : List Int} {a b : Nat} : (swapL l a b).length = l.length := by simp [swapL]

theorem getD_eq {l : List Int} {i : Nat} (h : i < l.length) : l.getD i 0 = l[i] := by simp [List.getD_eq_getElem?_getD, h]

theorem swapL_perm {l : List Int} {a b : Nat} (ha : a < l.length) (hb : b < l.length) : (swapL l a b).Perm l := by
  unfold swapL
  rw [getD_eq ha, getD_eq hb]
  exact List.set_set_perm ha hb

theorem ofL_nodup (ks : List Int) : ∀ (l : List Nd) (i : Nat), (∀ j ∈ ofL ks l i, (i : Int) ≤ j) ∧ (ofL ks l i).Nodup
  | [], _ => ⟨fun j h => (by cases h), List.nodup_nil⟩
  | x :: l, i => by
    obtain ⟨h1, h2⟩ := ofL_nodup ks l (i + 1)
    simp only [ofL]
    split
    · refine ⟨fun j hj => ?_, List.nodup_cons.2 ⟨fun hm => ?_, h2⟩⟩
      · rcases List.mem_cons.1 hj with rfl | hj
        · omega
        · have := h1 j hj; omega
      · have := h1 _ hm; omega
    · exact ⟨fun j hj => by have := h1 j hj; omega, h2⟩

theorem ofL_kind (ks : List Int) : ∀ (l : List Nd) (i : Nat), ∀ n ∈ ofL ks l i, (i : Int) ≤ n ∧ n < i + l.length ∧ ks.contains (l.getD (n.toNat - i) Nd.d).k = true
  | [], _, n, h => by cases h
  | x :: l, i, n, h => by
    have tail : n ∈ ofL ks l (i + 1) → (i : Int) ≤ n ∧ n < i + (x :: l).length ∧ ks.contains ((x :: l).getD (n.toNat - i) Nd.d).k = true := fun h => by
      obtain ⟨h1, h2, h3⟩ := ofL_kind ks l (i + 1) n h
      refine ⟨by omega, by simp only [List.length_cons]; omega, ?_⟩
      have e : n.toNat - i = (n.toNat - (i + 1)) + 1 := by omega
      rw [e, List.getD_cons_succ]
      exact h3
    simp only [ofL] at h
    split at h
    · rename_i hk
      rcases List.mem_cons.1 h with rfl | h
      · refine ⟨by omega, by simp only [List.length_cons]; omega, ?_⟩
        have e : ((i : Int).toNat - i) = 0 := by omega
        rw [e, List.getD_cons_zero]
        exact hk
      · exact tail h
    · exact tail h
end Go.Lg

/- The abstract code of some functions, as the program gen.py prints it. Conditions: none. -/
set_option linter.unusedVariables false
namespace Go.Lg
open Go
section
variable {P : Program} {Γ : Tables} {Q : AX → St → Prop} {s : St}
/- (probecard/probecardlaw03.C).Of (function 12) -/
def law03_C_Of_r0 : List RO := [
    ⟨some 1, .box true (.tmp 0), none, none⟩,
    ⟨some 2, .alloc false [(.slice none 0 0), (.slice none 0 0), (.slice none 0 0), (.slice none 0 0)], none, none⟩]
def law03_C_Of_r1 : List RO := [
    ⟨some 3, .alloc false [(.slice none 0 0), (.slice none 0 0), (.slice none 0 0), (.slice none 0 0)], none, none⟩]
def law03_C_Of_r2 : List RO := [
    ⟨some 4, .mv (.const (.int .i64 0)), none, none⟩]
def law03_C_Of_r3 : List RO := [
    ⟨some 13, .mv (.tmp 4), none, none⟩,
    ⟨some 14, .fadr 0 (.tmp 1), none, none⟩,
    ⟨some 15, .load 1 false (.tmp 14), none, none⟩,
    ⟨some 16, .bin .rem (.tmp 15) (.const (.int .u8 4)), none, none⟩,
    ⟨some 17, .conv .i64 (.tmp 16), none, none⟩,
    ⟨some 18, .bin .leq (.tmp 13) (.tmp 17), none, none⟩]
def law03_C_Of_r5 : List RO := [
    ⟨some 21, .fadr 0 (.tmp 3), none, none⟩,
    ⟨some 22, .load 1 false (.tmp 21), none, none⟩,
    ⟨some 23, .build [(1, (.const (.int .u8 0))), (1, (.const (.slice none 0 0))), (1, (.const (.int .i64 0))), (1, (.const (.int .i64 0)))], none, none⟩,
    ⟨some 24, .bsl true 48 4 [(.tmp 23)], none, none⟩,
    ⟨some 25, .app false 48 4 (.tmp 22) (.tmp 24), none, none⟩,
    ⟨some 26, .fadr 0 (.tmp 3), none, none⟩,
    ⟨none, .store 1 (.tmp 26) (.tmp 25), none, none⟩]
def law03_C_Of_r4 : List RO := [
    ⟨some 19, .mv (.tmp 4), none, none⟩,
    ⟨some 20, .bin .add (.tmp 19) (.const (.int .i64 1)), none, none⟩,
    ⟨some 4, .mv (.tmp 20), none, none⟩]
def law03_C_Of_g0 : IC := .gh (.seq (.seq (.reg law03_C_Of_r3 [.keep [1, 2, 3, 4, 18] [2, 3, 25, 144, 168]]) (.cond (.tmp 18) .skip (.exit 0))) (.seq (.block 1 (.reg law03_C_Of_r5 [.keep [1, 2, 3, 4] [2, 3, 25, 144, 168]])) (.reg law03_C_Of_r4 [.keep [1, 2, 3, 4] [2, 3, 25, 144, 168]]))) [.keep [1, 2, 3, 4] [2, 3, 25, 144, 168]]
def law03_C_Of_l1 : IC := .loop law03_C_Of_g0
def law03_C_Of_r6 : List RO := [
    ⟨some 27, .fadr 0 (.tmp 3), none, none⟩,
    ⟨some 28, .load 1 false (.tmp 27), none, none⟩,
    ⟨some 29, .len 0 (.tmp 28), none, none⟩,
    ⟨some 5, .mv (.tmp 29), none, none⟩]
def law03_C_Of_r7 : List RO := [
    ⟨some 30, .fadr 1 (.tmp 1), none, none⟩,
    ⟨some 31, .load 1 false (.tmp 30), none, none⟩,
    ⟨some 32, .bin .rem (.tmp 31) (.const (.int .u8 3)), none, none⟩,
    ⟨some 33, .conv .i64 (.tmp 32), none, none⟩,
    ⟨some 6, .mv (.tmp 33), none, none⟩]
def law03_C_Of_r8 : List RO := [
    ⟨some 7, .mv (.const (.int .i64 0)), none, none⟩]
def law03_C_Of_r9 : List RO := [
    ⟨some 34, .mv (.tmp 7), none, none⟩,
    ⟨some 35, .mv (.tmp 6), none, none⟩,
    ⟨some 36, .bin .lss (.tmp 34) (.tmp 35), none, none⟩]
def law03_C_Of_r11 : List RO := [
    ⟨some 39, .fadr 0 (.tmp 3), none, none⟩,
    ⟨some 40, .load 1 false (.tmp 39), none, none⟩,
    ⟨some 41, .bsl true 3 1 [(.const (.int .i64 0))], none, none⟩,
    ⟨some 42, .build [(1, (.const (.int .u8 14))), (1, (.tmp 41)), (1, (.const (.int .i64 0))), (1, (.const (.int .i64 0)))], none, none⟩,
    ⟨some 43, .bsl true 48 4 [(.tmp 42)], none, none⟩,
    ⟨some 44, .app false 48 4 (.tmp 40) (.tmp 43), none, some 25⟩,
    ⟨some 45, .fadr 0 (.tmp 3), none, none⟩,
    ⟨none, .store 1 (.tmp 45) (.tmp 44), none, none⟩]
def law03_C_Of_r10 : List RO := [
    ⟨some 37, .mv (.tmp 7), none, none⟩,
    ⟨some 38, .bin .add (.tmp 37) (.const (.int .i64 1)), none, none⟩,
    ⟨some 7, .mv (.tmp 38), none, none⟩]
def law03_C_Of_g2 : IC := .gh (.seq (.seq (.reg law03_C_Of_r9 [.keep [1, 2, 3, 5, 6, 7, 36] [2, 3, 25, 144, 168]]) (.cond (.tmp 36) .skip (.exit 2))) (.seq (.block 3 (.reg law03_C_Of_r11 [.keep [1, 2, 3, 5, 6, 7] [2, 3, 25, 144, 168]])) (.reg law03_C_Of_r10 [.keep [1, 2, 3, 5, 6, 7] [2, 3, 25, 144, 168]]))) [.keep [1, 2, 3, 5, 6, 7] [2, 3, 25, 144, 168]]
def law03_C_Of_l3 : IC := .loop law03_C_Of_g2
def law03_C_Of_r12 : List RO := [
    ⟨some 46, .fadr 5 (.tmp 1), none, none⟩,
    ⟨some 47, .load 1 false (.tmp 46), none, none⟩]
def law03_C_Of_r13 : List RO := [
    ⟨some 48, .fadr 0 (.tmp 3), none, none⟩,
    ⟨some 49, .load 1 false (.tmp 48), none, none⟩,
    ⟨some 50, .build [(1, (.const (.int .u8 15))), (1, (.const (.slice none 0 0))), (1, (.const (.int .i64 0))), (1, (.const (.int .i64 0)))], none, none⟩,
    ⟨some 51, .build [(1, (.const (.int .u8 15))), (1, (.const (.slice none 0 0))), (1, (.const (.int .i64 0))), (1, (.const (.int .i64 1)))], none, none⟩,
    ⟨some 52, .bsl true 48 4 [(.tmp 50), (.tmp 51)], none, none⟩,
    ⟨some 53, .app false 48 4 (.tmp 49) (.tmp 52), none, some 25⟩,
    ⟨some 54, .fadr 0 (.tmp 3), none, none⟩,
    ⟨none, .store 1 (.tmp 54) (.tmp 53), none, none⟩]
def law03_C_Of_r14 : List RO := [
    ⟨some 8, .mv (.const (.int .i64 0)), none, none⟩]
def law03_C_Of_r15 : List RO := [
    ⟨some 55, .mv (.tmp 8), none, none⟩,
    ⟨some 56, .fadr 10 (.tmp 1), none, none⟩,
    ⟨some 57, .load 1 false (.tmp 56), none, none⟩,
    ⟨some 58, .len 0 (.tmp 57), none, none⟩,
    ⟨some 59, .bin .lss (.tmp 55) (.tmp 58), none, none⟩,
    ⟨some 60, .mv (.tmp 59), none, none⟩,
    ⟨some 61, .mv (.tmp 8), some (60, true), none⟩,
    ⟨some 62, .bin .lss (.tmp 61) (.const (.int .i64 8)), some (60, true), none⟩,
    ⟨some 63, .pick (.tmp 60) (.tmp 62) (.const (.bool false)), none, none⟩]
def law03_C_Of_r17 : List RO := [
    ⟨some 66, .fadr 0 (.tmp 3), none, none⟩,
    ⟨some 67, .ldR 3 1 false (.tmp 66), none, none⟩,
    ⟨some 68, .ldT 12 true (.tmp 1), none, none⟩,
    ⟨some 69, .fadr 10 (.tmp 1), none, none⟩,
    ⟨some 70, .ldT 1 false (.tmp 69), none, none⟩,
    ⟨some 71, .mv (.tmp 8), none, none⟩,
    ⟨some 72, .iadr 4 (.tmp 70) (.tmp 71), none, none⟩,
    ⟨some 73, .ldT 4 true (.tmp 72), none, none⟩,
    ⟨some 74, .fadr 0 (.tmp 3), none, none⟩,
    ⟨some 75, .ldR 3 1 false (.tmp 74), none, none⟩,
    ⟨some 76, .call 39 [(.tmp 68), (.tmp 73), (.tmp 75)], none, none⟩,
    ⟨some 77, .bsl true 48 4 [(.tmp 76)], none, none⟩,
    ⟨some 78, .app false 48 4 (.tmp 67) (.tmp 77), none, some 25⟩,
    ⟨some 79, .fadr 0 (.tmp 3), none, none⟩,
    ⟨none, .stR 3 1 (.tmp 79) (.tmp 78), none, none⟩]
def law03_C_Of_r16 : List RO := [
    ⟨some 64, .mv (.tmp 8), none, none⟩,
    ⟨some 65, .bin .add (.tmp 64) (.const (.int .i64 1)), none, none⟩,
    ⟨some 8, .mv (.tmp 65), none, none⟩]
def law03_C_Of_g4 : IC := .gh (.seq (.seq (.reg law03_C_Of_r15 [.keep [1, 2, 3, 5, 6, 8, 63] [2, 3, 25, 144, 168]]) (.cond (.tmp 63) .skip (.exit 4))) (.seq (.block 5 (.reg law03_C_Of_r17 [.keep [1, 2, 3, 5, 6, 8] [2, 3, 25, 144, 168]])) (.reg law03_C_Of_r16 [.keep [1, 2, 3, 5, 6, 8] [2, 3, 25, 144, 168]]))) [.keep [1, 2, 3, 5, 6, 8] [2, 3, 25, 144, 168]]
def law03_C_Of_l5 : IC := .loop law03_C_Of_g4
def law03_C_Of_r18 : List RO := [
    ⟨some 80, .fadr 0 (.tmp 3), none, none⟩,
    ⟨some 81, .load 1 false (.tmp 80), none, none⟩,
    ⟨some 82, .len 0 (.tmp 81), none, none⟩,
    ⟨some 9, .mv (.tmp 82), none, none⟩]
def law03_C_Of_r19 : List RO := [
    ⟨some 10, .mv (.const (.int .i64 0)), none, none⟩]
def law03_C_Of_r20 : List RO := [
    ⟨some 83, .mv (.tmp 10), none, none⟩,
    ⟨some 84, .mv (.tmp 6), none, none⟩,
    ⟨some 85, .bin .lss (.tmp 83) (.tmp 84), none, none⟩]
def law03_C_Of_r22 : List RO := [
    ⟨some 88, .fadr 0 (.tmp 3), none, none⟩,
    ⟨some 89, .ldR 3 1 false (.tmp 88), none, none⟩,
    ⟨some 90, .mv (.tmp 5), none, none⟩,
    ⟨some 91, .mv (.tmp 10), none, none⟩,
    ⟨some 92, .bin .add (.tmp 90) (.tmp 91), none, none⟩,
    ⟨some 93, .mv (.tmp 10), none, none⟩,
    ⟨some 94, .fadr 2 (.tmp 1), none, none⟩,
    ⟨some 95, .iadrA 2 1 (.tmp 94) (.tmp 93), none, none⟩,
    ⟨some 96, .ldT 1 false (.tmp 95), none, none⟩,
    ⟨some 97, .conv .i64 (.tmp 96), none, none⟩,
    ⟨some 98, .mv (.tmp 9), none, none⟩,
    ⟨some 99, .bin .rem (.tmp 97) (.tmp 98), none, none⟩,
    ⟨some 100, .bsl true 3 1 [(.tmp 99)], none, none⟩,
    ⟨some 101, .iadr 4 (.tmp 89) (.tmp 92), none, none⟩,
    ⟨some 102, .fadr 1 (.tmp 101), none, none⟩,
    ⟨none, .store 1 (.tmp 102) (.tmp 100), none, none⟩]
def law03_C_Of_r21 : List RO := [
    ⟨some 86, .mv (.tmp 10), none, none⟩,
    ⟨some 87, .bin .add (.tmp 86) (.const (.int .i64 1)), none, none⟩,
    ⟨some 10, .mv (.tmp 87), none, none⟩]
def law03_C_Of_g6 : IC := .gh (.seq (.seq (.reg law03_C_Of_r20 [.keep [1, 2, 3, 5, 6, 9, 10, 85] [2, 3, 25, 144, 168]]) (.cond (.tmp 85) .skip (.exit 6))) (.seq (.block 7 (.reg law03_C_Of_r22 [.keep [1, 2, 3, 5, 6, 9, 10] [2, 3, 25, 144, 168]])) (.reg law03_C_Of_r21 [.keep [1, 2, 3, 5, 6, 9, 10] [2, 3, 25, 144, 168]]))) [.keep [1, 2, 3, 5, 6, 9, 10] [2, 3, 25, 144, 168]]
def law03_C_Of_l7 : IC := .loop law03_C_Of_g6
def law03_C_Of_r23 : List RO := [
    ⟨some 103, .fadr 5 (.tmp 1), none, none⟩,
    ⟨some 104, .load 1 false (.tmp 103), none, none⟩]
def law03_C_Of_r24 : List RO := [
    ⟨some 105, .fadr 6 (.tmp 1), none, none⟩,
    ⟨some 106, .iadrA 4 1 (.tmp 105) (.const (.int .i64 0)), none, none⟩,
    ⟨some 107, .ldT 1 false (.tmp 106), none, none⟩,
    ⟨some 108, .conv .i64 (.tmp 107), none, none⟩,
    ⟨some 109, .mv (.tmp 9), none, none⟩,
    ⟨some 110, .bin .rem (.tmp 108) (.tmp 109), none, none⟩,
    ⟨some 111, .bsl true 3 1 [(.tmp 110)], none, none⟩,
    ⟨some 112, .fadr 6 (.tmp 1), none, none⟩,
    ⟨some 113, .iadrA 4 1 (.tmp 112) (.const (.int .i64 1)), none, none⟩,
    ⟨some 114, .ldT 1 false (.tmp 113), none, none⟩,
    ⟨some 115, .conv .i64 (.tmp 114), none, none⟩,
    ⟨some 116, .mv (.tmp 9), none, none⟩,
    ⟨some 117, .bin .rem (.tmp 115) (.tmp 116), none, none⟩,
    ⟨some 118, .fadr 6 (.tmp 1), none, none⟩,
    ⟨some 119, .iadrA 4 1 (.tmp 118) (.const (.int .i64 2)), none, none⟩,
    ⟨some 120, .ldT 1 false (.tmp 119), none, none⟩,
    ⟨some 121, .conv .i64 (.tmp 120), none, none⟩,
    ⟨some 122, .mv (.tmp 9), none, none⟩,
    ⟨some 123, .bin .rem (.tmp 121) (.tmp 122), none, none⟩,
    ⟨some 124, .bsl true 3 1 [(.tmp 117), (.tmp 123)], none, none⟩,
    ⟨some 125, .fadr 6 (.tmp 1), none, none⟩,
    ⟨some 126, .iadrA 4 1 (.tmp 125) (.const (.int .i64 3)), none, none⟩,
    ⟨some 127, .ldT 1 false (.tmp 126), none, none⟩,
    ⟨some 128, .conv .i64 (.tmp 127), none, none⟩,
    ⟨some 129, .mv (.tmp 9), none, none⟩,
    ⟨some 130, .bin .rem (.tmp 128) (.tmp 129), none, none⟩,
    ⟨some 131, .build [(1, (.tmp 111)), (1, (.tmp 124)), (1, (.tmp 130))], none, none⟩,
    ⟨some 132, .bsl true 102 3 [(.tmp 131)], none, none⟩,
    ⟨some 133, .fadr 2 (.tmp 3), none, none⟩,
    ⟨none, .stR 3 1 (.tmp 133) (.tmp 132), none, none⟩]
def law03_C_Of_r25 : List RO := [
    ⟨some 11, .mv (.const (.int .i64 0)), none, none⟩]
def law03_C_Of_r26 : List RO := [
    ⟨some 134, .mv (.tmp 11), none, none⟩,
    ⟨some 135, .mv (.tmp 9), none, none⟩,
    ⟨some 136, .bin .lss (.tmp 134) (.tmp 135), none, none⟩]
def law03_C_Of_r28 : List RO := [
    ⟨some 139, .fadr 1 (.tmp 3), none, none⟩,
    ⟨some 140, .ldR 3 1 false (.tmp 139), none, none⟩,
    ⟨some 141, .mv (.tmp 11), none, none⟩,
    ⟨some 142, .call 40 [(.tmp 141)], none, none⟩,
    ⟨some 143, .bsl true 9 1 [(.tmp 142)], none, none⟩,
    ⟨some 144, .app false 9 1 (.tmp 140) (.tmp 143), none, none⟩,
    ⟨some 145, .fadr 1 (.tmp 3), none, none⟩,
    ⟨none, .stR 3 1 (.tmp 145) (.tmp 144), none, none⟩]
def law03_C_Of_r27 : List RO := [
    ⟨some 137, .mv (.tmp 11), none, none⟩,
    ⟨some 138, .bin .add (.tmp 137) (.const (.int .i64 1)), none, none⟩,
    ⟨some 11, .mv (.tmp 138), none, none⟩]
def law03_C_Of_g8 : IC := .gh (.seq (.seq (.reg law03_C_Of_r26 [.keep [1, 2, 3, 9, 11, 136] [2, 3, 25, 144, 168]]) (.cond (.tmp 136) .skip (.exit 8))) (.seq (.block 9 (.reg law03_C_Of_r28 [.keep [1, 2, 3, 9, 11] [2, 3, 25, 144, 168]])) (.reg law03_C_Of_r27 [.keep [1, 2, 3, 9, 11] [2, 3, 25, 144, 168]]))) [.keep [1, 2, 3, 9, 11] [2, 3, 25, 144, 168]]
def law03_C_Of_l9 : IC := .loop law03_C_Of_g8
def law03_C_Of_r29 : List RO := [
    ⟨some 12, .mv (.const (.int .i64 0)), none, none⟩]
def law03_C_Of_r30 : List RO := [
    ⟨some 146, .mv (.tmp 12), none, none⟩,
    ⟨some 147, .fadr 11 (.tmp 1), none, none⟩,
    ⟨some 148, .load 1 false (.tmp 147), none, none⟩,
    ⟨some 149, .len 0 (.tmp 148), none, none⟩,
    ⟨some 150, .bin .lss (.tmp 146) (.tmp 149), none, none⟩,
    ⟨some 151, .mv (.tmp 150), none, none⟩,
    ⟨some 152, .mv (.tmp 12), some (151, true), none⟩,
    ⟨some 153, .bin .lss (.tmp 152) (.const (.int .i64 3)), some (151, true), none⟩,
    ⟨some 154, .pick (.tmp 151) (.tmp 153) (.const (.bool false)), none, none⟩]
def law03_C_Of_r32 : List RO := [
    ⟨some 157, .fadr 3 (.tmp 3), none, none⟩,
    ⟨some 158, .ldR 3 1 false (.tmp 157), none, none⟩,
    ⟨some 159, .fadr 11 (.tmp 1), none, none⟩,
    ⟨some 160, .ldT 1 false (.tmp 159), none, none⟩,
    ⟨some 161, .mv (.tmp 12), none, none⟩,
    ⟨some 162, .iadr 1 (.tmp 160) (.tmp 161), none, none⟩,
    ⟨some 163, .ldT 1 false (.tmp 162), none, none⟩,
    ⟨some 164, .conv .i64 (.tmp 163), none, none⟩,
    ⟨some 165, .mv (.tmp 9), none, none⟩,
    ⟨some 166, .bin .rem (.tmp 164) (.tmp 165), none, none⟩,
    ⟨some 167, .bsl true 3 1 [(.tmp 166)], none, none⟩,
    ⟨some 168, .app false 3 1 (.tmp 158) (.tmp 167), none, none⟩,
    ⟨some 169, .fadr 3 (.tmp 3), none, none⟩,
    ⟨none, .stR 3 1 (.tmp 169) (.tmp 168), none, none⟩]
def law03_C_Of_r31 : List RO := [
    ⟨some 155, .mv (.tmp 12), none, none⟩,
    ⟨some 156, .bin .add (.tmp 155) (.const (.int .i64 1)), none, none⟩,
    ⟨some 12, .mv (.tmp 156), none, none⟩]
def law03_C_Of_g10 : IC := .gh (.seq (.seq (.reg law03_C_Of_r30 [.keep [1, 2, 3, 9, 12, 154] [2, 3, 25, 144, 168]]) (.cond (.tmp 154) .skip (.exit 10))) (.seq (.block 11 (.reg law03_C_Of_r32 [.keep [1, 2, 3, 9, 12] [2, 3, 25, 144, 168]])) (.reg law03_C_Of_r31 [.keep [1, 2, 3, 9, 12] [2, 3, 25, 144, 168]]))) [.keep [1, 2, 3, 9, 12] [2, 3, 25, 144, 168]]
def law03_C_Of_l11 : IC := .loop law03_C_Of_g10
def law03_C_Of_r33 : List RO := [
    ⟨some 170, .fadr 3 (.tmp 3), none, none⟩,
    ⟨some 171, .load 1 false (.tmp 170), none, none⟩,
    ⟨some 172, .mv (.tmp 9), none, none⟩,
    ⟨some 173, .bin .sub (.tmp 172) (.const (.int .i64 1)), none, none⟩,
    ⟨some 174, .bsl true 3 1 [(.tmp 173)], none, none⟩,
    ⟨some 175, .app false 3 1 (.tmp 171) (.tmp 174), none, some 168⟩,
    ⟨some 176, .fadr 3 (.tmp 3), none, none⟩,
    ⟨none, .store 1 (.tmp 176) (.tmp 175), none, none⟩]
def law03_C_Of_r34 : List RO := [
    ⟨some 177, .load 4 true (.tmp 3), none, none⟩,
    ⟨none, .store 4 (.tmp 2) (.tmp 177), none, none⟩]
def law03_C_Of_ic : IC := (.seq (.reg law03_C_Of_r0 [.keep [1, 2] [2, 25, 144, 168]]) (.seq (.reg law03_C_Of_r1 [.nlb 3 0 25 48 4, .nlb 3 1 144 9 1, .nlb 3 3 168 3 1, .keep [1, 2, 3] [2, 3, 25, 144, 168]]) (.seq (.seq (.reg law03_C_Of_r2 [.keep [1, 2, 3, 4] [2, 3, 25, 144, 168]]) (.block 0 law03_C_Of_l1)) (.seq (.reg law03_C_Of_r6 [.keep [1, 2, 3, 5] [2, 3, 25, 144, 168]]) (.seq (.reg law03_C_Of_r7 [.keep [1, 2, 3, 5, 6] [2, 3, 25, 144, 168]]) (.seq (.seq (.reg law03_C_Of_r8 [.keep [1, 2, 3, 5, 6, 7] [2, 3, 25, 144, 168]]) (.block 2 law03_C_Of_l3)) (.seq (.seq (.reg law03_C_Of_r12 [.keep [1, 2, 3, 5, 6, 47] [2, 3, 25, 144, 168]]) (.cond (.tmp 47) (.reg law03_C_Of_r13 [.keep [1, 2, 3, 5, 6] [2, 3, 25, 144, 168]]) .skip)) (.seq (.seq (.reg law03_C_Of_r14 [.keep [1, 2, 3, 5, 6, 8] [2, 3, 25, 144, 168]]) (.block 4 law03_C_Of_l5)) (.seq (.reg law03_C_Of_r18 [.keep [1, 2, 3, 5, 6, 9] [2, 3, 25, 144, 168]]) (.seq (.seq (.reg law03_C_Of_r19 [.keep [1, 2, 3, 5, 6, 9, 10] [2, 3, 25, 144, 168]]) (.block 6 law03_C_Of_l7)) (.seq (.seq (.reg law03_C_Of_r23 [.keep [1, 2, 3, 9, 104] [2, 3, 25, 144, 168]]) (.cond (.tmp 104) (.reg law03_C_Of_r24 [.keep [1, 2, 3, 9] [2, 3, 25, 144, 168]]) .skip)) (.seq (.seq (.reg law03_C_Of_r25 [.keep [1, 2, 3, 9, 11] [2, 3, 25, 144, 168]]) (.block 8 law03_C_Of_l9)) (.seq (.seq (.reg law03_C_Of_r29 [.keep [1, 2, 3, 9, 12] [2, 3, 25, 144, 168]]) (.block 10 law03_C_Of_l11)) (.seq (.reg law03_C_Of_r33 [.keep [2, 3] [2, 3, 25, 144, 168]]) (.seq (.reg law03_C_Of_r34 [.keep [2] [2, 25, 144, 168]]) .ret)))))))))))))))
@[simp ↓] theorem law03_C_Of_g0_run : run P Γ law03_C_Of_g0 Q s = run P Γ (.gh (.seq (.seq (.reg law03_C_Of_r3 [.keep [1, 2, 3, 4, 18] [2, 3, 25, 144, 168]]) (.cond (.tmp 18) .skip (.exit 0))) (.seq (.block 1 (.reg law03_C_Of_r5 [.keep [1, 2, 3, 4] [2, 3, 25, 144, 168]])) (.reg law03_C_Of_r4 [.keep [1, 2, 3, 4] [2, 3, 25, 144, 168]]))) [.keep [1, 2, 3, 4] [2, 3, 25, 144, 168]]) Q s := Eq.trans rfl rfl
@[simp ↓] theorem law03_C_Of_g2_run : run P Γ law03_C_Of_g2 Q s = run P Γ (.gh (.seq (.seq (.reg law03_C_Of_r9 [.keep [1, 2, 3, 5, 6, 7, 36] [2, 3, 25, 144, 168]]) (.cond (.tmp 36) .skip (.exit 2))) (.seq (.block 3 (.reg law03_C_Of_r11 [.keep [1, 2, 3, 5, 6, 7] [2, 3, 25, 144, 168]])) (.reg law03_C_Of_r10 [.keep [1, 2, 3, 5, 6, 7] [2, 3, 25, 144, 168]]))) [.keep [1, 2, 3, 5, 6, 7] [2, 3, 25, 144, 168]]) Q s := Eq.trans rfl rfl
@[simp ↓] theorem law03_C_Of_g4_run : run P Γ law03_C_Of_g4 Q s = run P Γ (.gh (.seq (.seq (.reg law03_C_Of_r15 [.keep [1, 2, 3, 5, 6, 8, 63] [2, 3, 25, 144, 168]]) (.cond (.tmp 63) .skip (.exit 4))) (.seq (.block 5 (.reg law03_C_Of_r17 [.keep [1, 2, 3, 5, 6, 8] [2, 3, 25, 144, 168]])) (.reg law03_C_Of_r16 [.keep [1, 2, 3, 5, 6, 8] [2, 3, 25, 144, 168]]))) [.keep [1, 2, 3, 5, 6, 8] [2, 3, 25, 144, 168]]) Q s := Eq.trans rfl rfl
@[simp ↓] theorem law03_C_Of_g6_run : run P Γ law03_C_Of_g6 Q s = run P Γ (.gh (.seq (.seq (.reg law03_C_Of_r20 [.keep [1, 2, 3, 5, 6, 9, 10, 85] [2, 3, 25, 144, 168]]) (.cond (.tmp 85) .skip (.exit 6))) (.seq (.block 7 (.reg law03_C_Of_r22 [.keep [1, 2, 3, 5, 6, 9, 10] [2, 3, 25, 144, 168]])) (.reg law03_C_Of_r21 [.keep [1, 2, 3, 5, 6, 9, 10] [2, 3, 25, 144, 168]]))) [.keep [1, 2, 3, 5, 6, 9, 10] [2, 3, 25, 144, 168]]) Q s := Eq.trans rfl rfl
@[simp ↓] theorem law03_C_Of_g8_run : run P Γ law03_C_Of_g8 Q s = run P Γ (.gh (.seq (.seq (.reg law03_C_Of_r26 [.keep [1, 2, 3, 9, 11, 136] [2, 3, 25, 144, 168]]) (.cond (.tmp 136) .skip (.exit 8))) (.seq (.block 9 (.reg law03_C_Of_r28 [.keep [1, 2, 3, 9, 11] [2, 3, 25, 144, 168]])) (.reg law03_C_Of_r27 [.keep [1, 2, 3, 9, 11] [2, 3, 25, 144, 168]]))) [.keep [1, 2, 3, 9, 11] [2, 3, 25, 144, 168]]) Q s := Eq.trans rfl rfl
@[simp ↓] theorem law03_C_Of_g10_run : run P Γ law03_C_Of_g10 Q s = run P Γ (.gh (.seq (.seq (.reg law03_C_Of_r30 [.keep [1, 2, 3, 9, 12, 154] [2, 3, 25, 144, 168]]) (.cond (.tmp 154) .skip (.exit 10))) (.seq (.block 11 (.reg law03_C_Of_r32 [.keep [1, 2, 3, 9, 12] [2, 3, 25, 144, 168]])) (.reg law03_C_Of_r31 [.keep [1, 2, 3, 9, 12] [2, 3, 25, 144, 168]]))) [.keep [1, 2, 3, 9, 12] [2, 3, 25, 144, 168]]) Q s := Eq.trans rfl rfl
@[simp ↓] theorem law03_C_Of_ic_run : run P Γ law03_C_Of_ic Q s = run P Γ (.seq (.reg law03_C_Of_r0 [.keep [1, 2] [2, 25, 144, 168]]) (.seq (.reg law03_C_Of_r1 [.nlb 3 0 25 48 4, .nlb 3 1 144 9 1, .nlb 3 3 168 3 1, .keep [1, 2, 3] [2, 3, 25, 144, 168]]) (.seq (.seq (.reg law03_C_Of_r2 [.keep [1, 2, 3, 4] [2, 3, 25, 144, 168]]) (.block 0 law03_C_Of_l1)) (.seq (.reg law03_C_Of_r6 [.keep [1, 2, 3, 5] [2, 3, 25, 144, 168]]) (.seq (.reg law03_C_Of_r7 [.keep [1, 2, 3, 5, 6] [2, 3, 25, 144, 168]]) (.seq (.seq (.reg law03_C_Of_r8 [.keep [1, 2, 3, 5, 6, 7] [2, 3, 25, 144, 168]]) (.block 2 law03_C_Of_l3)) (.seq (.seq (.reg law03_C_Of_r12 [.keep [1, 2, 3, 5, 6, 47] [2, 3, 25, 144, 168]]) (.cond (.tmp 47) (.reg law03_C_Of_r13 [.keep [1, 2, 3, 5, 6] [2, 3, 25, 144, 168]]) .skip)) (.seq (.seq (.reg law03_C_Of_r14 [.keep [1, 2, 3, 5, 6, 8] [2, 3, 25, 144, 168]]) (.block 4 law03_C_Of_l5)) (.seq (.reg law03_C_Of_r18 [.keep [1, 2, 3, 5, 6, 9] [2, 3, 25, 144, 168]]) (.seq (.seq (.reg law03_C_Of_r19 [.keep [1, 2, 3, 5, 6, 9, 10] [2, 3, 25, 144, 168]]) (.block 6 law03_C_Of_l7)) (.seq (.seq (.reg law03_C_Of_r23 [.keep [1, 2, 3, 9, 104] [2, 3, 25, 144, 168]]) (.cond (.tmp 104) (.reg law03_C_Of_r24 [.keep [1, 2, 3, 9] [2, 3, 25, 144, 168]]) .skip)) (.seq (.seq (.reg law03_C_Of_r25 [.keep [1, 2, 3, 9, 11] [2, 3, 25, 144, 168]]) (.block 8 law03_C_Of_l9)) (.seq (.seq (.reg law03_C_Of_r29 [.keep [1, 2, 3, 9, 12] [2, 3, 25, 144, 168]]) (.block 10 law03_C_Of_l11)) (.seq (.reg law03_C_Of_r33 [.keep [2, 3] [2, 3, 25, 144, 168]]) (.seq (.reg law03_C_Of_r34 [.keep [2] [2, 25, 144, 168]]) .ret))))))))))))))) Q s := Eq.trans rfl rfl
theorem law03_C_Of_l1_run (h : ∀ K : St → Prop, K = run P Γ law03_C_Of_l1 Q → run P Γ law03_C_Of_g0 (thenX K Q) s) : run P Γ law03_C_Of_l1 Q s := run_loop h
theorem law03_C_Of_l3_run (h : ∀ K : St → Prop, K = run P Γ law03_C_Of_l3 Q → run P Γ law03_C_Of_g2 (thenX K Q) s) : run P Γ law03_C_Of_l3 Q s := run_loop h
theorem law03_C_Of_l5_run (h : ∀ K : St → Prop, K = run P Γ law03_C_Of_l5 Q → run P Γ law03_C_Of_g4 (thenX K Q) s) : run P Γ law03_C_Of_l5 Q s := run_loop h
theorem law03_C_Of_l7_run (h : ∀ K : St → Prop, K = run P Γ law03_C_Of_l7 Q → run P Γ law03_C_Of_g6 (thenX K Q) s) : run P Γ law03_C_Of_l7 Q s := run_loop h
theorem law03_C_Of_l9_run (h : ∀ K : St → Prop, K = run P Γ law03_C_Of_l9 Q → run P Γ law03_C_Of_g8 (thenX K Q) s) : run P Γ law03_C_Of_l9 Q s := run_loop h
theorem law03_C_Of_l11_run (h : ∀ K : St → Prop, K = run P Γ law03_C_Of_l11 Q → run P Γ law03_C_Of_g10 (thenX K Q) s) : run P Γ law03_C_Of_l11 Q s := run_loop h
attribute [simp] law03_C_Of_r0 law03_C_Of_r1 law03_C_Of_r2 law03_C_Of_r3 law03_C_Of_r5 law03_C_Of_r4 law03_C_Of_r6 law03_C_Of_r7 law03_C_Of_r8 law03_C_Of_r9 law03_C_Of_r11 law03_C_Of_r10 law03_C_Of_r12 law03_C_Of_r13 law03_C_Of_r14 law03_C_Of_r15 law03_C_Of_r17 law03_C_Of_r16 law03_C_Of_r18 law03_C_Of_r19 law03_C_Of_r20 law03_C_Of_r22 law03_C_Of_r21 law03_C_Of_r23 law03_C_Of_r24 law03_C_Of_r25 law03_C_Of_r26 law03_C_Of_r28 law03_C_Of_r27 law03_C_Of_r29 law03_C_Of_r30 law03_C_Of_r32 law03_C_Of_r31 law03_C_Of_r33 law03_C_Of_r34
def law03_C_Of_rv : List RV := [.cell 2 4 true]

/- (probecard/probecardlaw03.C).gate (function 39) -/
def law03_C_gate_r0 : List RO := [
    ⟨some 3, .box true (.tmp 0), none, none⟩,
    ⟨some 4, .box true (.tmp 1), none, none⟩,
    ⟨some 6, .alloc false [(.int .u8 0), (.slice none 0 0), (.int .i64 0), (.int .i64 0)], none, none⟩]
def law03_C_gate_r1 : List RO := [
    ⟨some 17, .mv (.tmp 2), none, none⟩,
    ⟨some 18, .len 0 (.tmp 17), none, none⟩,
    ⟨some 7, .mv (.tmp 18), none, none⟩]
def law03_C_gate_r2 : List RO := [
    ⟨some 19, .fadr 1 (.tmp 4), none, none⟩,
    ⟨some 20, .iadrA 3 1 (.tmp 19) (.const (.int .i64 0)), none, none⟩,
    ⟨some 21, .load 1 false (.tmp 20), none, none⟩,
    ⟨some 22, .conv .i64 (.tmp 21), none, none⟩,
    ⟨some 23, .mv (.tmp 7), none, none⟩,
    ⟨some 24, .bin .rem (.tmp 22) (.tmp 23), none, none⟩,
    ⟨some 25, .fadr 1 (.tmp 4), none, none⟩,
    ⟨some 26, .iadrA 3 1 (.tmp 25) (.const (.int .i64 1)), none, none⟩,
    ⟨some 27, .load 1 false (.tmp 26), none, none⟩,
    ⟨some 28, .conv .i64 (.tmp 27), none, none⟩,
    ⟨some 29, .mv (.tmp 7), none, none⟩,
    ⟨some 30, .bin .rem (.tmp 28) (.tmp 29), none, none⟩,
    ⟨some 31, .fadr 1 (.tmp 4), none, none⟩,
    ⟨some 32, .iadrA 3 1 (.tmp 31) (.const (.int .i64 2)), none, none⟩,
    ⟨some 33, .load 1 false (.tmp 32), none, none⟩,
    ⟨some 34, .conv .i64 (.tmp 33), none, none⟩,
    ⟨some 35, .mv (.tmp 7), none, none⟩,
    ⟨some 36, .bin .rem (.tmp 34) (.tmp 35), none, none⟩,
    ⟨some 8, .mv (.tmp 24), none, none⟩,
    ⟨some 9, .mv (.tmp 30), none, none⟩,
    ⟨some 10, .mv (.tmp 36), none, none⟩]
def law03_C_gate_r3 : List RO := [
    ⟨some 11, .mv (.const (.slice none 0 0)), none, none⟩]
def law03_C_gate_r4 : List RO := [
    ⟨some 12, .mv (.const (.int .i64 0)), none, none⟩]
def law03_C_gate_r5 : List RO := [
    ⟨some 37, .mv (.tmp 12), none, none⟩,
    ⟨some 38, .mv (.tmp 7), none, none⟩,
    ⟨some 39, .bin .lss (.tmp 37) (.tmp 38), none, none⟩]
def law03_C_gate_r7 : List RO := [
    ⟨some 42, .mv (.tmp 2), none, none⟩,
    ⟨some 43, .mv (.tmp 12), none, none⟩,
    ⟨some 44, .iadr 4 (.tmp 42) (.tmp 43), none, none⟩,
    ⟨some 45, .fadr 0 (.tmp 44), none, none⟩,
    ⟨some 46, .load 1 false (.tmp 45), none, none⟩,
    ⟨some 47, .bin .eql (.tmp 46) (.const (.int .u8 12)), none, none⟩]
def law03_C_gate_r8 : List RO := [
    ⟨some 48, .mv (.tmp 11), none, none⟩,
    ⟨some 49, .mv (.tmp 12), none, none⟩,
    ⟨some 50, .bsl true 3 1 [(.tmp 49)], none, none⟩,
    ⟨some 51, .app false 3 1 (.tmp 48) (.tmp 50), none, none⟩,
    ⟨some 11, .mv (.tmp 51), none, none⟩]
def law03_C_gate_r6 : List RO := [
    ⟨some 40, .mv (.tmp 12), none, none⟩,
    ⟨some 41, .bin .add (.tmp 40) (.const (.int .i64 1)), none, none⟩,
    ⟨some 12, .mv (.tmp 41), none, none⟩]
def law03_C_gate_g0 : IC := .gh (.seq (.seq (.reg law03_C_gate_r5 [.keep [2, 3, 4, 6, 7, 8, 9, 10, 11, 12, 39] [6, 51, 70, 79, 86, 94, 105, 126, 142, 156]]) (.cond (.tmp 39) .skip (.exit 0))) (.seq (.block 1 (.seq (.reg law03_C_gate_r7 [.keep [2, 3, 4, 6, 7, 8, 9, 10, 11, 12, 47] [6, 51, 70, 79, 86, 94, 105, 126, 142, 156]]) (.cond (.tmp 47) (.reg law03_C_gate_r8 [.keep [2, 3, 4, 6, 7, 8, 9, 10, 11, 12] [6, 51, 70, 79, 86, 94, 105, 126, 142, 156]]) .skip))) (.reg law03_C_gate_r6 [.keep [2, 3, 4, 6, 7, 8, 9, 10, 11, 12] [6, 51, 70, 79, 86, 94, 105, 126, 142, 156]]))) [.keep [2, 3, 4, 6, 7, 8, 9, 10, 11, 12] [6, 51, 70, 79, 86, 94, 105, 126, 142, 156]]
def law03_C_gate_l1 : IC := .loop law03_C_gate_g0
def law03_C_gate_r9 : List RO := [
    ⟨some 52, .fadr 0 (.tmp 4), none, none⟩,
    ⟨some 53, .load 1 false (.tmp 52), none, none⟩,
    ⟨some 54, .bin .rem (.tmp 53) (.const (.int .u8 9)), none, none⟩,
    ⟨some 55, .conv .i64 (.tmp 54), none, none⟩,
    ⟨some 13, .mv (.tmp 55), none, none⟩]
def law03_C_gate_r10 : List RO := [
    ⟨some 56, .fadr 4 (.tmp 3), none, none⟩,
    ⟨some 57, .load 1 false (.tmp 56), none, none⟩]
def law03_C_gate_r11 : List RO := [
    ⟨some 58, .fadr 0 (.tmp 4), none, none⟩,
    ⟨some 59, .load 1 false (.tmp 58), none, none⟩,
    ⟨some 60, .bin .rem (.tmp 59) (.const (.int .u8 13)), none, none⟩,
    ⟨some 61, .conv .i64 (.tmp 60), none, none⟩,
    ⟨some 13, .mv (.tmp 61), none, none⟩]
def law03_C_gate_r12 : List RO := [
    ⟨some 63, .mv (.tmp 13), none, none⟩,
    ⟨some 64, .bin .lss (.tmp 63) (.const (.int .i64 6)), none, none⟩,
    ⟨some 62, .mv (.tmp 64), none, none⟩]
def law03_C_gate_r13 : List RO := [
    ⟨some 65, .mv (.tmp 13), none, none⟩,
    ⟨some 66, .conv .u8 (.tmp 65), none, none⟩,
    ⟨some 67, .bin .add (.const (.int .u8 5)) (.tmp 66), none, none⟩,
    ⟨some 68, .mv (.tmp 8), none, none⟩,
    ⟨some 69, .mv (.tmp 9), none, none⟩,
    ⟨some 70, .bsl false 3 1 [(.tmp 68), (.tmp 69)], none, none⟩,
    ⟨some 71, .build [(1, (.tmp 67)), (1, (.tmp 70)), (1, (.const (.int .i64 0))), (1, (.const (.int .i64 0)))], none, none⟩,
    ⟨some 14, .alloc false [(.int .u8 0), (.slice none 0 0), (.int .i64 0), (.int .i64 0)], none, none⟩,
    ⟨none, .store 4 (.tmp 14) (.tmp 71), none, none⟩]
def law03_C_gate_r14 : List RO := [
    ⟨some 72, .fadr 0 (.tmp 4), none, none⟩,
    ⟨some 73, .load 1 false (.tmp 72), none, none⟩,
    ⟨some 74, .bin .geq (.tmp 73) (.const (.int .u8 128)), none, none⟩]
def law03_C_gate_r15 : List RO := [
    ⟨some 75, .fadr 1 (.tmp 14), none, none⟩,
    ⟨some 76, .load 1 false (.tmp 75), none, none⟩,
    ⟨some 77, .mv (.tmp 10), none, none⟩,
    ⟨some 78, .bsl true 3 1 [(.tmp 77)], none, none⟩,
    ⟨some 79, .app false 3 1 (.tmp 76) (.tmp 78), none, none⟩,
    ⟨some 80, .fadr 1 (.tmp 14), none, none⟩,
    ⟨none, .store 1 (.tmp 80) (.tmp 79), none, none⟩]
def law03_C_gate_r16 : List RO := [
    ⟨some 81, .load 4 true (.tmp 14), none, none⟩,
    ⟨none, .store 4 (.tmp 6) (.tmp 81), none, none⟩]
def law03_C_gate_r17 : List RO := [
    ⟨some 83, .mv (.tmp 13), none, none⟩,
    ⟨some 84, .bin .eql (.tmp 83) (.const (.int .i64 6)), none, none⟩,
    ⟨some 82, .mv (.tmp 84), none, none⟩]
def law03_C_gate_r18 : List RO := [
    ⟨some 85, .mv (.tmp 8), none, none⟩,
    ⟨some 86, .bsl false 3 1 [(.tmp 85)], none, none⟩,
    ⟨some 87, .build [(1, (.const (.int .u8 4))), (1, (.tmp 86)), (1, (.const (.int .i64 0))), (1, (.const (.int .i64 0)))], none, none⟩,
    ⟨none, .store 4 (.tmp 6) (.tmp 87), none, none⟩]
def law03_C_gate_r19 : List RO := [
    ⟨some 89, .mv (.tmp 13), none, none⟩,
    ⟨some 90, .bin .eql (.tmp 89) (.const (.int .i64 7)), none, none⟩,
    ⟨some 88, .mv (.tmp 90), none, none⟩]
def law03_C_gate_r20 : List RO := [
    ⟨some 91, .mv (.tmp 8), none, none⟩,
    ⟨some 92, .mv (.tmp 9), none, none⟩,
    ⟨some 93, .mv (.tmp 10), none, none⟩,
    ⟨some 94, .bsl false 3 1 [(.tmp 91), (.tmp 92), (.tmp 93)], none, none⟩,
    ⟨some 95, .build [(1, (.const (.int .u8 11))), (1, (.tmp 94)), (1, (.const (.int .i64 0))), (1, (.const (.int .i64 0)))], none, none⟩,
    ⟨none, .store 4 (.tmp 6) (.tmp 95), none, none⟩]
def law03_C_gate_r21 : List RO := [
    ⟨some 97, .mv (.tmp 13), none, none⟩,
    ⟨some 98, .bin .eql (.tmp 97) (.const (.int .i64 9)), none, none⟩,
    ⟨some 99, .mv (.tmp 98), none, none⟩,
    ⟨some 100, .mv (.tmp 13), some (99, false), none⟩,
    ⟨some 101, .bin .eql (.tmp 100) (.const (.int .i64 10)), some (99, false), none⟩,
    ⟨some 102, .pick (.tmp 99) (.const (.bool true)) (.tmp 101), none, none⟩,
    ⟨some 96, .mv (.tmp 102), none, none⟩]
def law03_C_gate_r22 : List RO := [
    ⟨some 103, .mv (.tmp 8), none, none⟩,
    ⟨some 104, .mv (.tmp 9), none, none⟩,
    ⟨some 105, .bsl false 3 1 [(.tmp 103), (.tmp 104)], none, none⟩,
    ⟨some 106, .build [(1, (.const (.int .u8 12))), (1, (.tmp 105)), (1, (.const (.int .i64 0))), (1, (.const (.int .i64 0)))], none, none⟩,
    ⟨none, .store 4 (.tmp 6) (.tmp 106), none, none⟩]
def law03_C_gate_r23 : List RO := [
    ⟨some 108, .mv (.tmp 13), none, none⟩,
    ⟨some 109, .bin .gtr (.tmp 108) (.const (.int .i64 10)), none, none⟩,
    ⟨some 110, .mv (.tmp 109), none, none⟩,
    ⟨some 111, .mv (.tmp 11), some (110, true), none⟩,
    ⟨some 112, .len 0 (.tmp 111), some (110, true), none⟩,
    ⟨some 113, .bin .gtr (.tmp 112) (.const (.int .i64 0)), some (110, true), none⟩,
    ⟨some 114, .pick (.tmp 110) (.tmp 113) (.const (.bool false)), none, none⟩,
    ⟨some 107, .mv (.tmp 114), none, none⟩]
def law03_C_gate_r24 : List RO := [
    ⟨some 115, .fadr 1 (.tmp 4), none, none⟩,
    ⟨some 116, .iadrA 3 1 (.tmp 115) (.const (.int .i64 0)), none, none⟩,
    ⟨some 117, .load 1 false (.tmp 116), none, none⟩,
    ⟨some 118, .conv .i64 (.tmp 117), none, none⟩,
    ⟨some 119, .mv (.tmp 11), none, none⟩,
    ⟨some 120, .len 0 (.tmp 119), none, none⟩,
    ⟨some 121, .bin .rem (.tmp 118) (.tmp 120), none, none⟩,
    ⟨some 15, .mv (.tmp 121), none, none⟩]
def law03_C_gate_r25 : List RO := [
    ⟨some 122, .mv (.tmp 11), none, none⟩,
    ⟨some 123, .mv (.tmp 15), none, none⟩,
    ⟨some 124, .iadr 1 (.tmp 122) (.tmp 123), none, none⟩,
    ⟨some 125, .load 1 false (.tmp 124), none, none⟩,
    ⟨some 126, .bsl false 3 1 [(.tmp 125)], none, none⟩,
    ⟨some 127, .build [(1, (.const (.int .u8 13))), (1, (.tmp 126)), (1, (.const (.int .i64 0))), (1, (.const (.int .i64 0)))], none, none⟩,
    ⟨some 16, .alloc false [(.int .u8 0), (.slice none 0 0), (.int .i64 0), (.int .i64 0)], none, none⟩,
    ⟨none, .store 4 (.tmp 16) (.tmp 127), none, none⟩]
def law03_C_gate_r26 : List RO := [
    ⟨some 128, .mv (.tmp 11), none, none⟩,
    ⟨some 129, .len 0 (.tmp 128), none, none⟩,
    ⟨some 130, .bin .gtr (.tmp 129) (.const (.int .i64 1)), none, none⟩]
def law03_C_gate_r27 : List RO := [
    ⟨some 131, .fadr 1 (.tmp 16), none, none⟩,
    ⟨some 132, .ldR 16 1 false (.tmp 131), none, none⟩,
    ⟨some 133, .mv (.tmp 11), none, none⟩,
    ⟨some 134, .mv (.tmp 15), none, none⟩,
    ⟨some 135, .bin .add (.tmp 134) (.const (.int .i64 1)), none, none⟩,
    ⟨some 136, .mv (.tmp 11), none, none⟩,
    ⟨some 137, .len 0 (.tmp 136), none, none⟩,
    ⟨some 138, .bin .rem (.tmp 135) (.tmp 137), none, none⟩,
    ⟨some 139, .iadr 1 (.tmp 133) (.tmp 138), none, none⟩,
    ⟨some 140, .ldR 51 1 false (.tmp 139), none, none⟩,
    ⟨some 141, .bsl true 3 1 [(.tmp 140)], none, none⟩,
    ⟨some 142, .app false 3 1 (.tmp 132) (.tmp 141), none, none⟩,
    ⟨some 143, .fadr 1 (.tmp 16), none, none⟩,
    ⟨none, .stR 16 1 (.tmp 143) (.tmp 142), none, none⟩]
def law03_C_gate_r28 : List RO := [
    ⟨some 144, .load 4 true (.tmp 16), none, none⟩,
    ⟨none, .store 4 (.tmp 6) (.tmp 144), none, none⟩]
def law03_C_gate_r29 : List RO := [
    ⟨some 146, .fadr 0 (.tmp 4), none, none⟩,
    ⟨some 147, .load 1 false (.tmp 146), none, none⟩,
    ⟨some 148, .bin .gtr (.tmp 147) (.const (.int .u8 240)), none, none⟩,
    ⟨some 145, .mv (.tmp 148), none, none⟩]
def law03_C_gate_r30 : List RO := [
    ⟨some 149, .fadr 1 (.tmp 4), none, none⟩,
    ⟨some 150, .iadrA 3 1 (.tmp 149) (.const (.int .i64 0)), none, none⟩,
    ⟨some 151, .load 1 false (.tmp 150), none, none⟩,
    ⟨some 152, .bin .rem (.tmp 151) (.const (.int .u8 2)), none, none⟩,
    ⟨some 153, .bin .add (.const (.int .u8 1)) (.tmp 152), none, none⟩,
    ⟨some 154, .build [(1, (.tmp 153)), (1, (.const (.slice none 0 0))), (1, (.const (.int .i64 0))), (1, (.const (.int .i64 0)))], none, none⟩,
    ⟨none, .store 4 (.tmp 6) (.tmp 154), none, none⟩]
def law03_C_gate_c2 : IC := (.seq (.reg law03_C_gate_r24 [.keep [6, 11, 15] [6, 51, 70, 79, 86, 94, 105, 126, 142, 156]]) (.seq (.reg law03_C_gate_r25 [.keep [6, 11, 15, 16] [6, 16, 51, 70, 79, 86, 94, 105, 126, 142, 156]]) (.seq (.seq (.reg law03_C_gate_r26 [.keep [6, 11, 15, 16, 130] [6, 16, 51, 70, 79, 86, 94, 105, 126, 142, 156]]) (.cond (.tmp 130) (.reg law03_C_gate_r27 [.keep [6, 16] [6, 16, 70, 79, 86, 94, 105, 126, 142, 156]]) .skip)) (.seq (.reg law03_C_gate_r28 [.keep [6] [6, 70, 79, 86, 94, 105, 126, 142, 156]]) .ret))))
def law03_C_gate_c3 : IC := (.seq (.reg law03_C_gate_r21 [.keep [4, 6, 8, 9, 11, 13, 96] [6, 51, 70, 79, 86, 94, 105, 126, 142, 156]]) (.cond (.tmp 96) (.seq (.reg law03_C_gate_r22 [.keep [6] [6, 70, 79, 86, 94, 105, 126, 142, 156]]) .ret) (.seq (.reg law03_C_gate_r23 [.keep [4, 6, 8, 11, 107] [6, 51, 70, 79, 86, 94, 105, 126, 142, 156]]) (.cond (.tmp 107) law03_C_gate_c2 (.seq (.reg law03_C_gate_r29 [.keep [4, 6, 8, 145] [6, 70, 79, 86, 94, 105, 126, 142, 156]]) (.cond (.tmp 145) (.seq (.reg law03_C_gate_r30 [.keep [6] [6, 70, 79, 86, 94, 105, 126, 142, 156]]) .ret) .skip))))))
def law03_C_gate_c4 : IC := (.seq (.reg law03_C_gate_r17 [.keep [4, 6, 8, 9, 10, 11, 13, 82] [6, 51, 70, 79, 86, 94, 105, 126, 142, 156]]) (.cond (.tmp 82) (.seq (.reg law03_C_gate_r18 [.keep [6] [6, 70, 79, 86, 94, 105, 126, 142, 156]]) .ret) (.seq (.reg law03_C_gate_r19 [.keep [4, 6, 8, 9, 10, 11, 13, 88] [6, 51, 70, 79, 86, 94, 105, 126, 142, 156]]) (.cond (.tmp 88) (.seq (.reg law03_C_gate_r20 [.keep [6] [6, 70, 79, 86, 94, 105, 126, 142, 156]]) .ret) law03_C_gate_c3))))
def law03_C_gate_r31 : List RO := [
    ⟨some 155, .mv (.tmp 8), none, none⟩,
    ⟨some 156, .bsl false 3 1 [(.tmp 155)], none, none⟩,
    ⟨some 157, .build [(1, (.const (.int .u8 3))), (1, (.tmp 156)), (1, (.const (.int .i64 0))), (1, (.const (.int .i64 0)))], none, none⟩,
    ⟨none, .store 4 (.tmp 6) (.tmp 157), none, none⟩]
def law03_C_gate_ic : IC := (.seq (.reg law03_C_gate_r0 [.keep [2, 3, 4, 6] [6, 70, 79, 86, 94, 105, 126, 142, 156]]) (.seq (.reg law03_C_gate_r1 [.keep [2, 3, 4, 6, 7] [6, 70, 79, 86, 94, 105, 126, 142, 156]]) (.seq (.reg law03_C_gate_r2 [.keep [2, 3, 4, 6, 7, 8, 9, 10] [6, 70, 79, 86, 94, 105, 126, 142, 156]]) (.seq (.reg law03_C_gate_r3 [.nl 11 51 3 1, .keep [2, 3, 4, 6, 7, 8, 9, 10, 11] [6, 51, 70, 79, 86, 94, 105, 126, 142, 156]]) (.seq (.seq (.reg law03_C_gate_r4 [.keep [2, 3, 4, 6, 7, 8, 9, 10, 11, 12] [6, 51, 70, 79, 86, 94, 105, 126, 142, 156]]) (.block 0 law03_C_gate_l1)) (.seq (.reg law03_C_gate_r9 [.keep [3, 4, 6, 8, 9, 10, 11, 13] [6, 51, 70, 79, 86, 94, 105, 126, 142, 156]]) (.seq (.seq (.reg law03_C_gate_r10 [.keep [4, 6, 8, 9, 10, 11, 13, 57] [6, 51, 70, 79, 86, 94, 105, 126, 142, 156]]) (.cond (.tmp 57) (.reg law03_C_gate_r11 [.keep [4, 6, 8, 9, 10, 11, 13] [6, 51, 70, 79, 86, 94, 105, 126, 142, 156]]) .skip)) (.seq (.block 2 (.seq (.reg law03_C_gate_r12 [.keep [4, 6, 8, 9, 10, 11, 13, 62] [6, 51, 70, 79, 86, 94, 105, 126, 142, 156]]) (.cond (.tmp 62) (.seq (.reg law03_C_gate_r13 [.keep [4, 6, 10, 14] [6, 14, 70, 79, 86, 94, 105, 126, 142, 156]]) (.seq (.seq (.reg law03_C_gate_r14 [.keep [6, 10, 14, 74] [6, 14, 70, 79, 86, 94, 105, 126, 142, 156]]) (.cond (.tmp 74) (.reg law03_C_gate_r15 [.keep [6, 14] [6, 14, 70, 79, 86, 94, 105, 126, 142, 156]]) .skip)) (.seq (.reg law03_C_gate_r16 [.keep [6] [6, 70, 79, 86, 94, 105, 126, 142, 156]]) .ret))) law03_C_gate_c4))) (.seq (.reg law03_C_gate_r31 [.keep [6] [6, 70, 79, 86, 94, 105, 126, 142, 156]]) .ret)))))))))
@[simp ↓] theorem law03_C_gate_g0_run : run P Γ law03_C_gate_g0 Q s = run P Γ (.gh (.seq (.seq (.reg law03_C_gate_r5 [.keep [2, 3, 4, 6, 7, 8, 9, 10, 11, 12, 39] [6, 51, 70, 79, 86, 94, 105, 126, 142, 156]]) (.cond (.tmp 39) .skip (.exit 0))) (.seq (.block 1 (.seq (.reg law03_C_gate_r7 [.keep [2, 3, 4, 6, 7, 8, 9, 10, 11, 12, 47] [6, 51, 70, 79, 86, 94, 105, 126, 142, 156]]) (.cond (.tmp 47) (.reg law03_C_gate_r8 [.keep [2, 3, 4, 6, 7, 8, 9, 10, 11, 12] [6, 51, 70, 79, 86, 94, 105, 126, 142, 156]]) .skip))) (.reg law03_C_gate_r6 [.keep [2, 3, 4, 6, 7, 8, 9, 10, 11, 12] [6, 51, 70, 79, 86, 94, 105, 126, 142, 156]]))) [.keep [2, 3, 4, 6, 7, 8, 9, 10, 11, 12] [6, 51, 70, 79, 86, 94, 105, 126, 142, 156]]) Q s := Eq.trans rfl rfl
@[simp ↓] theorem law03_C_gate_c2_run : run P Γ law03_C_gate_c2 Q s = run P Γ (.seq (.reg law03_C_gate_r24 [.keep [6, 11, 15] [6, 51, 70, 79, 86, 94, 105, 126, 142, 156]]) (.seq (.reg law03_C_gate_r25 [.keep [6, 11, 15, 16] [6, 16, 51, 70, 79, 86, 94, 105, 126, 142, 156]]) (.seq (.seq (.reg law03_C_gate_r26 [.keep [6, 11, 15, 16, 130] [6, 16, 51, 70, 79, 86, 94, 105, 126, 142, 156]]) (.cond (.tmp 130) (.reg law03_C_gate_r27 [.keep [6, 16] [6, 16, 70, 79, 86, 94, 105, 126, 142, 156]]) .skip)) (.seq (.reg law03_C_gate_r28 [.keep [6] [6, 70, 79, 86, 94, 105, 126, 142, 156]]) .ret)))) Q s := Eq.trans rfl rfl
@[simp ↓] theorem law03_C_gate_c3_run : run P Γ law03_C_gate_c3 Q s = run P Γ (.seq (.reg law03_C_gate_r21 [.keep [4, 6, 8, 9, 11, 13, 96] [6, 51, 70, 79, 86, 94, 105, 126, 142, 156]]) (.cond (.tmp 96) (.seq (.reg law03_C_gate_r22 [.keep [6] [6, 70, 79, 86, 94, 105, 126, 142, 156]]) .ret) (.seq (.reg law03_C_gate_r23 [.keep [4, 6, 8, 11, 107] [6, 51, 70, 79, 86, 94, 105, 126, 142, 156]]) (.cond (.tmp 107) law03_C_gate_c2 (.seq (.reg law03_C_gate_r29 [.keep [4, 6, 8, 145] [6, 70, 79, 86, 94, 105, 126, 142, 156]]) (.cond (.tmp 145) (.seq (.reg law03_C_gate_r30 [.keep [6] [6, 70, 79, 86, 94, 105, 126, 142, 156]]) .ret) .skip)))))) Q s := Eq.trans rfl rfl
@[simp ↓] theorem law03_C_gate_c4_run : run P Γ law03_C_gate_c4 Q s = run P Γ (.seq (.reg law03_C_gate_r17 [.keep [4, 6, 8, 9, 10, 11, 13, 82] [6, 51, 70, 79, 86, 94, 105, 126, 142, 156]]) (.cond (.tmp 82) (.seq (.reg law03_C_gate_r18 [.keep [6] [6, 70, 79, 86, 94, 105, 126, 142, 156]]) .ret) (.seq (.reg law03_C_gate_r19 [.keep [4, 6, 8, 9, 10, 11, 13, 88] [6, 51, 70, 79, 86, 94, 105, 126, 142, 156]]) (.cond (.tmp 88) (.seq (.reg law03_C_gate_r20 [.keep [6] [6, 70, 79, 86, 94, 105, 126, 142, 156]]) .ret) law03_C_gate_c3)))) Q s := Eq.trans rfl rfl
@[simp ↓] theorem law03_C_gate_ic_run : run P Γ law03_C_gate_ic Q s = run P Γ (.seq (.reg law03_C_gate_r0 [.keep [2, 3, 4, 6] [6, 70, 79, 86, 94, 105, 126, 142, 156]]) (.seq (.reg law03_C_gate_r1 [.keep [2, 3, 4, 6, 7] [6, 70, 79, 86, 94, 105, 126, 142, 156]]) (.seq (.reg law03_C_gate_r2 [.keep [2, 3, 4, 6, 7, 8, 9, 10] [6, 70, 79, 86, 94, 105, 126, 142, 156]]) (.seq (.reg law03_C_gate_r3 [.nl 11 51 3 1, .keep [2, 3, 4, 6, 7, 8, 9, 10, 11] [6, 51, 70, 79, 86, 94, 105, 126, 142, 156]]) (.seq (.seq (.reg law03_C_gate_r4 [.keep [2, 3, 4, 6, 7, 8, 9, 10, 11, 12] [6, 51, 70, 79, 86, 94, 105, 126, 142, 156]]) (.block 0 law03_C_gate_l1)) (.seq (.reg law03_C_gate_r9 [.keep [3, 4, 6, 8, 9, 10, 11, 13] [6, 51, 70, 79, 86, 94, 105, 126, 142, 156]]) (.seq (.seq (.reg law03_C_gate_r10 [.keep [4, 6, 8, 9, 10, 11, 13, 57] [6, 51, 70, 79, 86, 94, 105, 126, 142, 156]]) (.cond (.tmp 57) (.reg law03_C_gate_r11 [.keep [4, 6, 8, 9, 10, 11, 13] [6, 51, 70, 79, 86, 94, 105, 126, 142, 156]]) .skip)) (.seq (.block 2 (.seq (.reg law03_C_gate_r12 [.keep [4, 6, 8, 9, 10, 11, 13, 62] [6, 51, 70, 79, 86, 94, 105, 126, 142, 156]]) (.cond (.tmp 62) (.seq (.reg law03_C_gate_r13 [.keep [4, 6, 10, 14] [6, 14, 70, 79, 86, 94, 105, 126, 142, 156]]) (.seq (.seq (.reg law03_C_gate_r14 [.keep [6, 10, 14, 74] [6, 14, 70, 79, 86, 94, 105, 126, 142, 156]]) (.cond (.tmp 74) (.reg law03_C_gate_r15 [.keep [6, 14] [6, 14, 70, 79, 86, 94, 105, 126, 142, 156]]) .skip)) (.seq (.reg law03_C_gate_r16 [.keep [6] [6, 70, 79, 86, 94, 105, 126, 142, 156]]) .ret))) law03_C_gate_c4))) (.seq (.reg law03_C_gate_r31 [.keep [6] [6, 70, 79, 86, 94, 105, 126, 142, 156]]) .ret))))))))) Q s := Eq.trans rfl rfl
theorem law03_C_gate_l1_run (h : ∀ K : St → Prop, K = run P Γ law03_C_gate_l1 Q → run P Γ law03_C_gate_g0 (thenX K Q) s) : run P Γ law03_C_gate_l1 Q s := run_loop h
attribute [simp] law03_C_gate_r0 law03_C_gate_r1 law03_C_gate_r2 law03_C_gate_r3 law03_C_gate_r4 law03_C_gate_r5 law03_C_gate_r7 law03_C_gate_r8 law03_C_gate_r6 law03_C_gate_r9 law03_C_gate_r10 law03_C_gate_r11 law03_C_gate_r12 law03_C_gate_r13 law03_C_gate_r14 law03_C_gate_r15 law03_C_gate_r16 law03_C_gate_r17 law03_C_gate_r18 law03_C_gate_r19 law03_C_gate_r20 law03_C_gate_r21 law03_C_gate_r22 law03_C_gate_r23 law03_C_gate_r24 law03_C_gate_r25 law03_C_gate_r26 law03_C_gate_r27 law03_C_gate_r28 law03_C_gate_r29 law03_C_gate_r30 law03_C_gate_r31
def law03_C_gate_rv : List RV := [.cell 6 4 true]

/- probecard/probecardlaw03.name (function 40) -/
def law03_name_r0 : List RO := [
    ⟨some 2, .mv (.const (sV [])), none, none⟩]
def law03_name_r1 : List RO := [
    ⟨some 3, .mv (.tmp 0), none, none⟩,
    ⟨some 4, .bin .quo (.tmp 3) (.const (.int .i64 10)), none, none⟩,
    ⟨some 5, .bin .add (.const (.int .i64 48)) (.tmp 4), none, none⟩,
    ⟨some 6, .conv .u8 (.tmp 5), none, none⟩,
    ⟨some 7, .mv (.tmp 0), none, none⟩,
    ⟨some 8, .bin .rem (.tmp 7) (.const (.int .i64 10)), none, none⟩,
    ⟨some 9, .bin .add (.const (.int .i64 48)) (.tmp 8), none, none⟩,
    ⟨some 10, .conv .u8 (.tmp 9), none, none⟩,
    ⟨some 11, .bsl true 5 1 [(.const (.int .u8 110)), (.tmp 6), (.tmp 10)], none, none⟩,
    ⟨some 12, .bytesStr (.tmp 11), none, none⟩,
    ⟨some 2, .mv (.tmp 12), none, none⟩]
def law03_name_ic : IC := (.seq (.reg law03_name_r0 [.keep [0] []]) (.seq (.reg law03_name_r1 [.keep [2] []]) .ret))
@[simp ↓] theorem law03_name_ic_run : run P Γ law03_name_ic Q s = run P Γ (.seq (.reg law03_name_r0 [.keep [0] []]) (.seq (.reg law03_name_r1 [.keep [2] []]) .ret)) Q s := Eq.trans rfl rfl
attribute [simp] law03_name_r0 law03_name_r1
def law03_name_rv : List RV := [.tmp 2]
end
end Go.Lg

/- The abstract code is that of the program (by the kernel). Conditions: none. -/
namespace Go.Lg
open Go Go.Proofs
theorem law03_C_Of_chk : chkF Tryd.prog 12 law03_C_Of_ic 178 1 law03_C_Of_rv = true := by kernel_rfl
theorem law03_C_gate_chk : chkF Tryd.prog 39 law03_C_gate_ic 158 3 law03_C_gate_rv = true := by kernel_rfl
theorem law03_name_chk : chkF Tryd.prog 40 law03_name_ic 13 1 law03_name_rv = true := by kernel_rfl
end Go.Lg
