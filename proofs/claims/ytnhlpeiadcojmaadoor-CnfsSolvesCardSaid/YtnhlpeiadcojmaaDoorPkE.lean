/- THE LOGIC, part 34: the evaluator again, made for the kernel. Conditions: none. -/
import Derived.Test.YtnhlpeiadcojmaaDoorPkD
import Derived.ChangeArms
import Derived.DataReads
import Derived.OpenShut
import Derived.Carry
import Derived.Handed
import Derived.Lib.LaidTab
set_option linter.unusedSimpArgs false
set_option linter.unusedVariables false
namespace Go.Lg
open Go
noncomputable def lkF {α : Type} (l : List (Nat × α)) (t : Nat) : Option α := List.rec (motive := fun _ => Option α) none (fun p _ ih => Bool.rec (motive := fun _ => Option α) ih (some p.2) (Nat.beq p.1 t)) l
theorem q0x {α : Type} (l : List (Nat × α)) (t : Nat) : lkF l t = A2 l t := by
 induction l with
 | nil => rfl
 | cons p l ih =>
  show (Bool.rec (motive := fun _ => Option α) (lkF l t) (some p.2) (Nat.beq p.1 t) : Option α) = A2 (p :: l) t
  rw [ih]
  obtain ⟨k, v⟩ := p
  simp only [A2]
  by_cases h : k = t
  ·rw [if_pos h, show Nat.beq k t = true from by subst h; exact Nat.beq_refl k]
  ·rw [if_neg h, show Nat.beq k t = false from by cases hb : Nat.beq k t with | false => rfl | true => exact absurd (Nat.eq_of_beq_eq_true hb) h]
noncomputable def evF (Γ : Tables) (env : List (Nat × AV)) (x : Operand) : Option AV := match x with
 | .tmp t => lkF env t
 | .const v => some (Nn v)
 | .global g => ev Γ env (.global g)
 | .func f => ev Γ env (.func f)
theorem Us (Γ : Tables) (env : List (Nat × AV)) (x : Operand) : evF Γ env x = ev Γ env x := by
 cases x with
 | tmp t => exact q0x env t
 | _ => rfl
noncomputable def q3e {α : Type} (l : List α) : Nat → Option α := List.rec (motive := fun _ => Nat → Option α) (fun _ => none) (fun a _ ih n => Nat.rec (motive := fun _ => Option α) (some a) (fun m _ => ih m) n) l
theorem Xs {α : Type} (l : List α) (n : Nat) : q3e l n = l[n]? := by
 induction l generalizing n with
 | nil => rfl
 | cons a l ih =>
  cases n with
  | zero => rfl
  | succ n => exact (ih n).trans (by simp)
theorem q4N {cs : List T} {k : Nat} {t : T} (h : cs[k]? = some t) : H8 false ((cs.drop k).take 1) = t := by
 have h2 := List.getElem?_eq_some_iff.1 h
 obtain ⟨hk, rfl⟩ := h2
 rw [List.drop_eq_getElem_cons hk]; rfl
theorem q4O {cs : List AV} {k : Nat} {t : AV} (h : cs[k]? = some t) : I8 false ((cs.drop k).take 1) = t := by
 have h2 := List.getElem?_eq_some_iff.1 h
 obtain ⟨hk, rfl⟩ := h2
 rw [List.drop_eq_getElem_cons hk]; rfl
def kIx : IntKind → Nat
 | .i8 => 0 | .i16 => 1 | .i32 => 2 | .i64 => 3 | .u8 => 4 | .u16 => 5 | .u32 => 6 | .u64 => 7
theorem q0y {k j : IntKind} (h : Nat.beq (kIx k) (kIx j) = true) : k = j := by cases k <;> cases j <;> first | rfl | cases h
def T0 (op : BinOp) (a b : Value) : Option Value := match Vx op a b with
 | some (_, v) => if q02 op a b then some v else none
 | none => none
def qG7 (a b : Value) : Option Value := match a, b with
 | .int .i64 (.ofNat x), .int .i64 (.ofNat y) => match Nat.blt (Nat.add x y) 9223372036854775808 with
  | true => some (.int .i64 (.ofNat (Nat.add x y)))
  | false => none
 | a, b => T0 .add a b
def qG8 (a b : Value) : Option Value := match a, b with
 | .int .i64 (.ofNat x), .int .i64 (.ofNat y) => match Nat.ble y x, Nat.blt x 9223372036854775808 with
  | true, true => some (.int .i64 (.ofNat (Nat.sub x y)))
  | _, _ => T0 .sub (.int .i64 (.ofNat x)) (.int .i64 (.ofNat y))
 | a, b => T0 .sub a b
def qG9 (a b : Value) : Option Value := match a, b with
 | .int k (.ofNat x), .int j (.ofNat y) => match Nat.beq (kIx k) (kIx j) with
  | true => some (.bool (Nat.blt x y))
  | false => none
 | a, b => T0 .lss a b
def qGA (a b : Value) : Option Value := match a, b with
 | .int k (.ofNat x), .int j (.ofNat y) => match Nat.beq (kIx k) (kIx j) with
  | true => some (.bool (Nat.ble x y))
  | false => none
 | a, b => T0 .leq a b
def qGB (a b : Value) : Option Value := match a, b with
 | .int k (.ofNat x), .int j (.ofNat y) => match Nat.beq (kIx k) (kIx j) with
  | true => some (.bool (Nat.blt y x))
  | false => none
 | a, b => T0 .gtr a b
def qGC (a b : Value) : Option Value := match a, b with
 | .int k (.ofNat x), .int j (.ofNat y) => match Nat.beq (kIx k) (kIx j) with
  | true => some (.bool (Nat.ble y x))
  | false => none
 | a, b => T0 .geq a b
def qGD (a b : Value) : Option Value := match a, b with
 | .int k (.ofNat x), .int j (.ofNat y) => match Nat.beq (kIx k) (kIx j) with
  | true => some (.bool (Nat.beq x y))
  | false => none
 | a, b => T0 .eql a b
def qGE (a b : Value) : Option Value := match a, b with
 | .int k (.ofNat x), .int j (.ofNat y) => match Nat.beq (kIx k) (kIx j) with
  | true => some (.bool (!Nat.beq x y))
  | false => none
 | a, b => T0 .neq a b
def q3f (op : BinOp) : Value → Value → Option Value := match op with
 | .add => qG7
 | .sub => qG8
 | .lss => qG9
 | .leq => qGA
 | .gtr => qGB
 | .geq => qGC
 | .eql => qGD
 | .neq => qGE
 | op => T0 op
theorem q80 {x : Nat} (h : x < 9223372036854775808) : IntKind.i64.wrap (x : Int) = x := A7 (by omega) (by omega)
theorem qGF {x y : Nat} : decide ((Int.ofNat x) < Int.ofNat y) = Nat.blt x y := by
 rw [Bool.eq_iff_iff]; simp only [decide_eq_true_eq, Nat.blt_eq]; exact Int.ofNat_lt
theorem qGG {x y : Nat} : decide ((Int.ofNat x) ≤ Int.ofNat y) = Nat.ble x y := by
 rw [Bool.eq_iff_iff]; simp only [decide_eq_true_eq, Nat.ble_eq]; exact Int.ofNat_le
theorem qGH {x y : Nat} : ((Int.ofNat x) == Int.ofNat y) = Nat.beq x y := by
 rw [Bool.eq_iff_iff]; simp only [beq_iff_eq, Nat.beq_eq, Int.ofNat_inj]
 exact Int.ofNat.injEq x y ▸ Iff.rfl
theorem qBg {op : BinOp} {a b v : Value} (h : q3f op a b = some v) : T0 op a b = some v := by
 cases op with
 | add =>
  simp only [q3f] at h; unfold qG7 at h
  split at h
  ·split at h
   ·rename_i x y _ hb
    have hb : Nat.add x y < 9223372036854775808 := by simpa [Nat.blt_eq] using hb
    simp only [T0, Vx, q02, if_true] at h ⊢
    rw [show Int.ofNat x + Int.ofNat y = ((Nat.add x y : Nat) : Int) from rfl, q80 hb]
    exact h
   ·cases h
  ·exact h
 | sub =>
  simp only [q3f] at h; unfold qG8 at h
  split at h
  ·split at h
   ·rename_i x y _ _ h1 h2
    have h1 := Nat.le_of_ble_eq_true h1
    have h2 : x < 9223372036854775808 := by simpa [Nat.blt_eq] using h2
    simp only [T0, Vx, q02, if_true] at h ⊢
    have e : Int.ofNat x - Int.ofNat y = ((Nat.sub x y : Nat) : Int) := (Int.ofNat_sub h1).symm
    have w : IntKind.i64.wrap ((Nat.sub x y : Nat) : Int) = ((Nat.sub x y : Nat) : Int) := q80 (Nat.lt_of_le_of_lt (Nat.sub_le x y) h2)
    rw [e, w]
    exact h
   ·exact h
  ·exact h
 | lss =>
  simp only [q3f] at h; unfold qG9 at h
  split at h
  ·split at h
   ·rename_i hk; have := q0y hk; subst this
    simp only [T0, Vx, q02, if_true, qGF]; exact h
   ·cases h
  ·exact h
 | leq =>
  simp only [q3f] at h; unfold qGA at h
  split at h
  ·split at h
   ·rename_i hk; have := q0y hk; subst this
    simp only [T0, Vx, q02, if_true, qGG]; exact h
   ·cases h
  ·exact h
 | gtr =>
  simp only [q3f] at h; unfold qGB at h
  split at h
  ·split at h
   ·rename_i hk; have := q0y hk; subst this
    simp only [T0, Vx, q02, if_true, gt_iff_lt, qGF]; exact h
   ·cases h
  ·exact h
 | geq =>
  simp only [q3f] at h; unfold qGC at h
  split at h
  ·split at h
   ·rename_i hk; have := q0y hk; subst this
    simp only [T0, Vx, q02, if_true, ge_iff_le, qGG]; exact h
   ·cases h
  ·exact h
 | eql =>
  simp only [q3f] at h; unfold qGD at h
  split at h
  ·split at h
   ·rename_i hk; have := q0y hk; subst this
    simp only [T0, Vx, q02, if_true, qGH]; exact h
   ·cases h
  ·exact h
 | neq =>
  simp only [q3f] at h; unfold qGE at h
  split at h
  ·split at h
   ·rename_i hk; have := q0y hk; subst this
    simp only [T0, Vx, q02, if_true, bne, qGH]; exact h
   ·cases h
  ·exact h
 | _ => exact h
abbrev OpR := Or → Tables → Nat → St → Option (AV × St)
noncomputable def qDp (x : Operand) : OpR := fun _ Γ _ st => match evF Γ st.env x with
 | some a => some (a, st)
 | none => none
noncomputable def q9v (op : BinOp) (x y : Operand) : OpR := fun _ Γ _ st => match evF Γ st.env x with
 | some (.t (.v a)) => match evF Γ st.env y with
  | some (.t (.v b)) => match q3f op a b with
   | some v => some (.t (.v v), st)
   | none => none
  | _ => none
 | _ => none
noncomputable def qCU (a : Operand) : OpR := fun _ Γ _ st => match evF Γ st.env a with
 | some (.t (.ip cs k)) => match q3e cs k with
  | some t => some (.t t, st)
  | none => none
 | some (.lp id i k) => match lkF st.hp id with
  | some (.bx cs) => match Nat.beq i 0, q3e cs k with
   | true, some t => some (t, st)
   | _, _ => none
  | some (.sl _ s es) => match q3e es i with
   | some e => match Nat.ble (k + 1) s, q3e e k with
    | true, some t => some (.t t, st)
    | _, _ => none
   | none => none
  | some (.rs _ s es) => match q3e es i with
   | some e => match Nat.ble (k + 1) s, q3e e k with
    | true, some t => some (t, st)
    | _, _ => none
   | none => none
  | _ => none
 | _ => none
noncomputable def q6x (n : Nat) (g : Bool) (a : Operand) : OpR := fun o Γ d st => match Nat.beq n 1, g with
 | true, false => qCU a o Γ d st
 | _, _ => opE o Γ d (.load n g a) st
noncomputable def q6y (off : Nat) (a : Operand) : OpR := fun _ Γ _ st => match evF Γ st.env a with
 | some (.t (.ip cs k)) => some (.t (.ip cs (k + off)), st)
 | some (.lp id i k) => some (.lp id i (k + off), st)
 | _ => none
noncomputable def q6z (s : Nat) (x i : Operand) : OpR := fun o Γ d st => match evF Γ st.env x with
 | some (.t (.sl es _ _)) => match evF Γ st.env i with
  | some (.t (.v (.int _ (.ofNat n)))) => match Z7 s es, q3e es n with
   | true, some e => some (.t (.ip e 0), st)
   | _, _ => none
  | _ => none
 | some (.ls id off len _) => match evF Γ st.env i with
  | some (.t (.v (.int _ (.ofNat n)))) => match Nat.blt n len, lkF st.hp id with
   | true, some (.sl _ q _) => match Nat.beq q s with
    | true => some (.lp id (off + n) 0, st)
    | false => none
   | true, some (.rs _ q _) => match Nat.beq q s with
    | true => some (.lp id (off + n) 0, st)
    | false => none
   | _, _ => none
  | _ => none
 | _ => opE o Γ d (.iadr s x i) st
noncomputable def q9w (k : Nat) (x : Operand) : OpR := fun o Γ d st => match evF Γ st.env x with
 | some (.t (.sl es _ _)) => match Nat.beq k 0 with
  | true => some (.t (.v (.int .i64 (.ofNat es.length))), st)
  | false => none
 | some (.ls _ _ len _) => match Nat.beq k 0 with
  | true => some (.t (.v (.int .i64 (.ofNat len))), st)
  | false => none
 | _ => opE o Γ d (.len k x) st
noncomputable def q70 (c a b : Operand) : OpR := fun _ Γ _ st => match evF Γ st.env c with
 | some (.t (.v (.bool p))) => match evF Γ st.env a with
  | some u => match evF Γ st.env b with
   | some v => some (Yq p u v, st)
   | none => none
  | none => none
 | _ => none
noncomputable def q9x (x : Operand) (i : Nat) : OpR := fun _ Γ _ st => match evF Γ st.env x with
 | some (.t (.tup vs)) => match q3e vs i with
  | some t => some (.t t, st)
  | none => none
 | some (.tu vs) => match q3e vs i with
  | some t => some (t, st)
  | none => none
 | _ => none
noncomputable def opF (io : Ar) : OpR := match io with
 | .mv x => qDp x
 | .bin op x y => q9v op x y
 | .load n g a => q6x n g a
 | .fadr off a => q6y off a
 | .iadr s x i => q6z s x i
 | .len k x => q9w k x
 | .pick c a b => q70 c a b
 | .ext x i => q9x x i
 | io => fun o Γ d st => opE o Γ d io st
section
variable {o : Or} {Γ : Tables} {d : Nat} {st : St} {z : AV × St}
theorem Ft {io : Ar} {c : Prop} {r : AV} {s1 : St} (h : A6 Γ d io st = some (c, r, s1)) (hc : Dm Γ d io st = true) : q9s Γ d io st = some (r, s1) := by
 unfold q9s; rw [h]; simp only [hc, if_true]
theorem qBh {x : Operand} (h : qDp x o Γ d st = some z) : opE o Γ d (.mv x) st = some z := by
 unfold qDp at h; rw [Us] at h
 split at h
 ·rename_i a ha; cases h
  exact Ft (c := True) (by simp only [A6, ha, Option.map_some]) rfl
 ·cases h
theorem q9y {op : BinOp} {x y : Operand} (h : q9v op x y o Γ d st = some z) : opE o Γ d (.bin op x y) st = some z := by
 unfold q9v at h; simp only [Us] at h
 split at h
 ·rename_i a ha
  split at h
  ·rename_i b hb
   split at h
   ·rename_i v hv
    cases h
    have := qBg hv
    unfold T0 at this
    split at this
    ·rename_i c u hu
     split at this
     ·rename_i hc
      simp only [Option.some.injEq] at this; subst this
      exact Ft (c := c) (by simp only [A6, ha, hb, hu, Option.map_some]) (by simp only [Dm, ha, hb]; exact hc)
     ·cases this
    ·cases this
   ·cases h
  ·cases h
 ·cases h
theorem q8k {n : Nat} {g : Bool} {a : Operand} (h : q6x n g a o Γ d st = some z) : opE o Γ d (.load n g a) st = some z := by
 unfold q6x at h
 split at h
 ·rename_i hn
  have hn := Nat.eq_of_beq_eq_true hn
  subst hn
  unfold qCU at h; rw [Us] at h
  split at h
  ·rename_i cs k ha
   rw [Xs] at h
   split at h
   ·rename_i t ht
    cases h
    have hk := (List.getElem?_eq_some_iff.1 ht).1
    refine Ft (c := k + 1 ≤ cs.length) (by simp only [A6, ha, q4N ht]) ?_
    simp only [Dm, ha]; exact Nat.ble_eq_true_of_le hk
   ·cases h
  ·rename_i id i k ha
   rw [q0x] at h
   split at h
   ·rename_i cs hl
    rw [Xs] at h
    split at h
    ·rename_i t hi ht
     cases h
     have hi := Nat.eq_of_beq_eq_true hi
     subst hi
     have hk := (List.getElem?_eq_some_iff.1 ht).1
     refine Ft (c := 0 = 0 ∧ k + 1 ≤ cs.length) (by simp only [A6, ha, hl, q4O ht]) ?_
     simp only [Dm, ha, q6v, hl, Bool.and_eq_true]; exact ⟨rfl, Nat.ble_eq_true_of_le hk⟩
    ·cases h
   ·rename_i ty s es hl
    simp only [Xs] at h
    split at h
    ·rename_i e he
     split at h
     ·rename_i t hks ht
      cases h
      have hi := (List.getElem?_eq_some_iff.1 he).1
      have hg : es.getD i [] = e := by simp [List.getD_eq_getElem?_getD, he]
      refine Ft (c := i < es.length ∧ k + 1 ≤ s) (by simp only [A6, ha, hl, hg, q4N ht]) ?_
      simp only [Dm, ha, q6v, hl, Bool.and_eq_true]; exact ⟨by simpa [Nat.blt_eq] using hi, hks⟩
     ·cases h
    ·cases h
   ·rename_i ty s es hl
    simp only [Xs] at h
    split at h
    ·rename_i e he
     split at h
     ·rename_i t hks ht
      cases h
      have hi := (List.getElem?_eq_some_iff.1 he).1
      have hg : es.getD i [] = e := by simp [List.getD_eq_getElem?_getD, he]
      refine Ft (c := i < es.length ∧ k + 1 ≤ s) (by simp only [A6, ha, hl, hg, q4O ht]) ?_
      simp only [Dm, ha, q6v, hl, Bool.and_eq_true]; exact ⟨by simpa [Nat.blt_eq] using hi, hks⟩
     ·cases h
    ·cases h
   ·cases h
  ·cases h
 ·exact h
theorem q8l {off : Nat} {a : Operand} (h : q6y off a o Γ d st = some z) : opE o Γ d (.fadr off a) st = some z := by
 unfold q6y at h; simp only [Us] at h
 split at h
 ·rename_i ha; cases h; exact Ft (c := True) (by simp only [A6, ha]) rfl
 ·rename_i ha; cases h; exact Ft (c := True) (by simp only [A6, ha]) rfl
 ·cases h
theorem q8m {s : Nat} {x i : Operand} (h : q6z s x i o Γ d st = some z) : opE o Γ d (.iadr s x i) st = some z := by
 unfold q6z at h; simp only [Us, Xs, q0x] at h
 split at h
 ·rename_i es cap nl hx
  split at h
  ·rename_i k n hi
   split at h
   ·rename_i e hw he
    cases h
    have hn := (List.getElem?_eq_some_iff.1 he).1
    have hg : es.getD (Int.ofNat n).toNat [] = e := by simp [List.getD_eq_getElem?_getD, he]
    refine Ft (c := 0 ≤ Int.ofNat n ∧ Int.ofNat n < es.length ∧ Gk s es) (by simp only [A6, hx, hi, hg]) ?_
    simp only [Dm, hx, hi, inB, Bool.and_eq_true]; exact ⟨by simpa [Nat.blt_eq] using hn, hw⟩
   ·cases h
  ·cases h
 ·rename_i id off len cap hx
  split at h
  ·rename_i k n hi
   split at h
   ·rename_i ty q es hn hl
    split at h
    ·rename_i hq
     cases h
     refine Ft (c := q = s ∧ 0 ≤ Int.ofNat n ∧ Int.ofNat n < len) (by simp only [A6, hx, hi, hl]; rfl) ?_
     simp only [Dm, hx, hi, hl, inB, Bool.and_eq_true]; exact ⟨hq, hn⟩
    ·cases h
   ·rename_i ty q es hn hl
    split at h
    ·rename_i hq
     cases h
     refine Ft (c := q = s ∧ 0 ≤ Int.ofNat n ∧ Int.ofNat n < len) (by simp only [A6, hx, hi, hl]; rfl) ?_
     simp only [Dm, hx, hi, hl, inB, Bool.and_eq_true]; exact ⟨hq, hn⟩
    ·cases h
   ·cases h
  ·cases h
 ·exact h
theorem q9z {k : Nat} {x : Operand} (h : q9w k x o Γ d st = some z) : opE o Γ d (.len k x) st = some z := by
 unfold q9w at h; simp only [Us] at h
 split at h
 ·rename_i es cap nl hx
  split at h
  ·rename_i hk
   have hk := Nat.eq_of_beq_eq_true hk
   subst hk; cases h
   exact Ft (c := True) (by simp only [A6, hx, Option.bind_some, q8K, if_true, lenOf, Option.map_some]; rfl) rfl
  ·cases h
 ·rename_i id off len cap hx
  split at h
  ·rename_i hk
   have hk := Nat.eq_of_beq_eq_true hk
   subst hk; cases h
   exact Ft (c := True) (by simp only [A6, hx, Option.bind_some, q8K, if_true, lenOf, Option.map_some]; rfl) rfl
  ·cases h
 ·exact h
theorem q8n {c a b : Operand} (h : q70 c a b o Γ d st = some z) : opE o Γ d (.pick c a b) st = some z := by
 unfold q70 at h; simp only [Us] at h
 split at h
 ·rename_i p hp
  split at h
  ·rename_i u hu
   split at h
   ·rename_i v hv; cases h; exact Ft (c := True) (by simp only [A6, hp, hu, hv]) rfl
   ·cases h
  ·cases h
 ·cases h
theorem qA0 {x : Operand} {i : Nat} (h : q9x x i o Γ d st = some z) : opE o Γ d (.ext x i) st = some z := by
 unfold q9x at h; simp only [Us, Xs] at h
 split at h
 ·rename_i vs hx
  split at h
  ·rename_i t ht; cases h; exact Ft (c := True) (by simp only [A6, hx, ht, Option.map_some]) rfl
  ·cases h
 ·rename_i vs hx
  split at h
  ·rename_i t ht; cases h; exact Ft (c := True) (by simp only [A6, hx, ht, Option.map_some]) rfl
  ·cases h
 ·cases h
theorem qA1 {io : Ar} (h : opF io o Γ d st = some z) : opE o Γ d io st = some z := by
 unfold opF at h
 split at h
 ·exact qBh h
 ·exact q9y h
 ·exact q8k h
 ·exact q8l h
 ·exact q8m h
 ·exact q9z h
 ·exact q8n h
 ·exact qA0 h
 ·exact h
end
noncomputable def osF (ros : List RO) : Or → Tables → St → Option St := List.rec (motive := fun _ => Or → Tables → St → Option St) (fun _ _ s => some s)
 (fun ro _ ih o Γ s => match ro.guard with
  | none => match opF ro.op o Γ ro.d s with
   | some (r, s1) => ih o Γ (s1.put ro.dst r)
   | none => none
  | some g => match C9 s.env (some g) with
   | some true => match opF ro.op o Γ ro.d s with
    | some (r, s1) => ih o Γ (s1.put ro.dst r)
    | none => none
   | some false => ih o Γ (s.put ro.dst .un)
   | none => none) ros
theorem q53 {o : Or} {Γ : Tables} {s1 : St} : ∀ {ros : List RO} {s : St}, osF ros o Γ s = some s1 → osE o Γ ros s = some s1
 | [], s, h => h
 | ro :: ros, s, h => by
  have e : osF (ro :: ros) o Γ s = (match ro.guard with
   | none => match opF ro.op o Γ ro.d s with
    | some (r, s1) => osF ros o Γ (s1.put ro.dst r)
    | none => none
   | some g => match C9 s.env (some g) with
    | some true => match opF ro.op o Γ ro.d s with
     | some (r, s1) => osF ros o Γ (s1.put ro.dst r)
     | none => none
    | some false => osF ros o Γ (s.put ro.dst .un)
    | none => none) := rfl
  rw [e] at h
  simp only [osE]
  split at h
  ·rename_i hg
   rw [hg]
   simp only [C9]
   split at h
   ·rename_i r s2 hr; rw [qA1 hr]; exact q53 h
   ·cases h
  ·rename_i g hg
   rw [hg]
   split at h
   ·rename_i hw
    rw [hw]
    split at h
    ·rename_i r s2 hr; rw [qA1 hr]; exact q53 h
    ·cases h
   ·rename_i hw; rw [hw]; exact q53 h
   ·cases h
abbrev CR := Or → Tables → St → Option (AX × St)
noncomputable def qDq (a b : CR) : CR := fun o Γ s => match a o Γ s with
 | some (.normal, s1) => b o Γ s1
 | x => x
noncomputable def qDr (ros : List RO) (gs : List Gh) : CR := fun o Γ s => match osF ros o Γ s with
 | some s1 => some (.normal, gs.foldl (fun s g => g.run s) s1)
 | none => none
noncomputable def qA2 (c : Operand) (a b : CR) : CR := fun o Γ s => match evF Γ s.env c with
 | some (.t (.v (.bool true))) => a o Γ s
 | some (.t (.v (.bool false))) => b o Γ s
 | _ => none
noncomputable def q71 (id : Nat) (a : CR) : CR := fun o Γ s => match a o Γ s with
 | some (.exit i, s1) => match Nat.beq i id with
  | true => some (.normal, s1)
  | false => some (.exit i, s1)
 | x => x
noncomputable def lpF (n : Nat) : (St → Option (AX × St)) → St → Option (AX × St) := Nat.rec (motive := fun _ => (St → Option (AX × St)) → St → Option (AX × St)) (fun _ _ => none) (fun _ ih F s => match F s with
 | some (.normal, s1) => ih F s1
 | x => x) n
theorem qA3 {F : St → Option (AX × St)} : ∀ (n : Nat) (s : St), lpF n F s = q03 F n s
 | 0, _ => rfl
 | n + 1, s => by
  have e : lpF (n + 1) F s = (match F s with
   | some (.normal, s1) => lpF n F s1
   | x => x) := rfl
  rw [e]; simp only [q03]
  split
  ·rename_i hs; rw [hs]; exact qA3 n _
  ·rename_i hn; split
   ·rename_i hs; exact absurd hs (hn _)
   ·rfl
noncomputable def qGI (a : CR) : CR := fun o Γ s => lpF 100000000 (a o Γ) s
noncomputable def cGh (gs : List Gh) (a : CR) : CR := fun o Γ s => match a o Γ s with
 | some (.normal, s1) => some (.normal, gs.foldl (fun s g => g.run s) s1)
 | x => x
noncomputable def Oi (c : IC) : CR := IC.rec (motive := fun _ => CR) (fun _ _ s => some (.normal, s)) qDr (fun _ _ a b => qDq a b) (fun c _ _ a b => qA2 c a b) (fun id _ a => q71 id a) (fun _ a => qGI a) (fun i _ _ s => some (.exit i, s)) (fun _ _ s => some (.ret, s)) (fun _ a => a) (fun _ gs a => cGh gs a) (fun _ a => a) (fun gs _ a o Γ s => a o Γ (gs.foldl (fun s g => g.run s) s)) (fun _ _ _ => none) c
theorem E3 {o : Or} {Γ : Tables} : ∀ {c : IC} {s : St} {z : AX × St}, Oi c o Γ s = some z → By o Γ c s = some z
 | .skip, _, _, h => h
 | .reg ros gs, s, z, h => by
  have h : qDr ros gs o Γ s = some z := h
  unfold qDr at h
  split at h
  ·rename_i s1 hs; simp only [By, q53 hs]; exact h
  ·cases h
 | .seq a b, s, z, h => by
  have h : qDq (Oi a) (Oi b) o Γ s = some z := h
  unfold qDq at h
  split at h
  ·rename_i s1 hs; simp only [By, E3 (c := a) hs]; exact E3 (c := b) h
  ·rename_i hn
   obtain ⟨e, s1⟩ := z
   have := E3 (c := a) h
   cases e with
   | normal => exact absurd h (hn _)
   | exit i => simp only [By, this]
   | ret => simp only [By, this]
 | .cond c a b, s, z, h => by
  have h : qA2 c (Oi a) (Oi b) o Γ s = some z := h
  unfold qA2 at h; rw [Us] at h
  split at h
  ·rename_i hc; simp only [By, hc]; exact E3 (c := a) h
  ·rename_i hc; simp only [By, hc]; exact E3 (c := b) h
  ·cases h
 | .block id a, s, z, h => by
  have h : q71 id (Oi a) o Γ s = some z := h
  unfold q71 at h
  split at h
  ·rename_i i s1 hs
   simp only [By, E3 (c := a) hs]
   split at h
   ·rename_i hi; rw [if_pos (Nat.eq_of_beq_eq_true hi)]; exact h
   ·rename_i hi; rw [if_neg fun e => by subst e; rw [Nat.beq_refl] at hi; cases hi]; exact h
  ·rename_i hn
   obtain ⟨e, s1⟩ := z
   have := E3 (c := a) h
   cases e with
   | exit i => exact absurd h (hn _ _)
   | normal => simp only [By, this]
   | ret => simp only [By, this]
 | .loop a, s, z, h => by
  have h : lpF 100000000 (Oi a o Γ) s = some z := h
  simp only [By]
  rw [qA3] at h
  have key : ∀ (n : Nat) (s : St), q03 (Oi a o Γ) n s = some z → q03 (By o Γ a) n s = some z := by
   intro n
   induction n with
   | zero => intro s h; cases h
   | succ n ih =>
    intro s h
    simp only [q03] at h ⊢
    split at h
    ·rename_i s1 hs; rw [E3 (c := a) hs]; exact ih _ h
    ·rename_i hn
     obtain ⟨e, s1⟩ := z
     have := E3 (c := a) h
     cases e with
     | normal => exact absurd h (hn _)
     | exit i => simp only [this]
     | ret => simp only [this]
  exact key _ s h
 | .exit i, _, _, h => h
 | .ret, _, _, h => h
 | .scope a, s, z, h => by
  have h : Oi a o Γ s = some z := h
  simp only [By]; exact E3 (c := a) h
 | .gh a gs, s, z, h => by
  have h : cGh gs (Oi a) o Γ s = some z := h
  unfold cGh at h
  split at h
  ·rename_i s1 hs; simp only [By, E3 (c := a) hs]; exact h
  ·rename_i hn
   obtain ⟨e, s1⟩ := z
   have := E3 (c := a) h
   cases e with
   | normal => exact absurd h (hn _)
   | exit i => simp only [By, this]
   | ret => simp only [By, this]
 | .ghW a, s, z, h => by
  have h : Oi a o Γ s = some z := h
  simp only [By]; exact E3 (c := a) h
 | .pre gs a, s, z, h => by
  have h : Oi a o Γ (gs.foldl (fun s g => g.run s) s) = some z := h
  simp only [By]; exact E3 (c := a) h
 | .dead, _, _, h => h
section
variable (tb : Tbl) (o : Or) (Γ : Tables)
noncomputable def pF (f : FuncId) (ts : List T) : Option T := match lkF tb f with
 | some e => match Nat.beq ts.length e.n with
  | true => match q2x (Oi e.ic o Γ ⟨params 0 ts, []⟩) with
   | some s => q8i s e.rv
   | none => none
  | false => none
 | none => none
noncomputable def fF (f : FuncId) (ts : List T) : Option T := match lkF tb f with
 | some e => match Nat.beq ts.length e.n with
  | true => match q2x (Oi e.ic o Γ ⟨params 0 ts, []⟩) with
   | some s => match q52 s with
    | true => q8i s e.rv
    | false => none
   | none => none
  | false => none
 | none => none
noncomputable def hF (f : FuncId) (hp : List (Nat × Ak)) (as : List AV) : Option (AV × List (Nat × Ak)) := match lkF tb f with
 | some e => match Nat.beq as.length e.n with
  | true => match q2x (Oi e.ic o Γ ⟨Xy 0 as, hp⟩) with
   | some s => match q7y s e.rv with
    | some r => some (r, s.hp)
    | none => none
   | none => none
  | false => none
 | none => none
noncomputable def Or.upF (x : Or) : Or := ⟨fun f ts => match x.p f ts with | some r => some r | none => pF tb o Γ f ts, fun f ts => match x.f f ts with | some r => some r | none => fF tb o Γ f ts, fun f hp as => match x.h f hp as with | some r => some r | none => hF tb o Γ f hp as⟩
noncomputable def orF (x : Or) (n : Nat) : Or := Nat.rec (motive := fun _ => Or) x (fun _ ih => Or.upF tb ih Γ x) n
variable {tb : Tbl} {o : Or} {Γ : Tables} {P : Program}
theorem qDs {c : IC} {s s1 : St} (h : q2x (Oi c o Γ s) = some s1) : q2x (By o Γ c s) = some s1 := by
 rcases q7z h with h | h
 ·rw [E3 h]; rfl
 ·rw [E3 h]; rfl
theorem qCV {f : FuncId} {ts : List T} {r : T} (h : pF tb o Γ f ts = some r) : pE tb o Γ f ts = some r := by
 unfold pF at h; rw [q0x] at h
 split at h
 ·rename_i e he
  split at h
  ·rename_i hn
   split at h
   ·rename_i s hs
    unfold pE; simp only [he, hn, if_true, qDs hs]; exact h
   ·cases h
  ·cases h
 ·cases h
theorem qGJ {f : FuncId} {ts : List T} {r : T} (h : fF tb o Γ f ts = some r) : fE tb o Γ f ts = some r := by
 unfold fF at h; rw [q0x] at h
 split at h
 ·rename_i e he
  split at h
  ·rename_i hn
   split at h
   ·rename_i s hs
    split at h
    ·rename_i hf; unfold fE; simp only [he, hn, if_true, qDs hs, hf]; exact h
    ·cases h
   ·cases h
  ·cases h
 ·cases h
theorem qGK {f : FuncId} {hp : List (Nat × Ak)} {as : List AV} {r : AV × List (Nat × Ak)} (h : hF tb o Γ f hp as = some r) : hhE tb o Γ f hp as = some r := by
 unfold hF at h; rw [q0x] at h
 split at h
 ·rename_i e he
  split at h
  ·rename_i hn
   split at h
   ·rename_i s hs
    split at h
    ·rename_i q hq; unfold hhE; simp only [he, hn, if_true, qDs hs, hq]; exact h
    ·cases h
   ·cases h
  ·cases h
 ·cases h
theorem qA4 (ht : q2w P tb) {x : Or} (hx : q1w P Γ x) : ∀ n, q1w P Γ (orF tb Γ x n)
 | 0 => hx
 | n + 1 => by
  have ho := qA4 ht hx n
  have e : orF tb Γ x (n + 1) = Or.upF tb (orF tb Γ x n) Γ x := rfl
  rw [e]
  refine ⟨fun f ts r h => ?_, fun f ts r h => ?_, fun f hp as r hp' h => ?_⟩
  ·simp only [Or.upF] at h
   split at h
   ·rename_i q hq; simp only [Option.some.injEq] at h; subst h; exact hx.p _ _ _ hq
   ·exact qCT ht ho (qCV h)
  ·simp only [Or.upF] at h
   split at h
   ·rename_i q hq; simp only [Option.some.injEq] at h; subst h; exact hx.f _ _ _ hq
   ·exact qG6 ht ho (qGJ h)
  ·simp only [Or.upF] at h
   split at h
   ·rename_i q hq; simp only [Option.some.injEq] at h; subst h; exact hx.h _ _ _ _ _ hq
   ·exact qDo ht ho (qGK h)
end
end Go.Lg
namespace Go.Lg
open Go
abbrev tm (n : Nat) : Operand := .tmp n
abbrev ki (n : Int) : Operand := .const (.int .i64 n)
abbrev ku (n : Int) : Operand := .const (.int .u8 n)
abbrev kT : Operand := .const (.bool true)
abbrev kF : Operand := .const (.bool false)
abbrev kN : Operand := .const (.slice none 0 0)
abbrev od (d : Nat) (io : Ar) : RO := ⟨some d, io, none, none⟩
abbrev on (io : Ar) : RO := ⟨none, io, none, none⟩
abbrev oz (d : Nat) (io : Ar) (r : Nat) : RO := ⟨some d, io, none, some r⟩
abbrev oT (d : Nat) (io : Ar) (g : Nat) : RO := ⟨some d, io, some (g, true), none⟩
abbrev oF (d : Nat) (io : Ar) (g : Nat) : RO := ⟨some d, io, some (g, false), none⟩
abbrev om (d x : Nat) : RO := ⟨some d, .mv (.tmp x), none, none⟩
abbrev ld (n x : Nat) : Ar := .load n false (.tmp x)
abbrev lG (n x : Nat) : Ar := .load n true (.tmp x)
abbrev ia (s x i : Nat) : Ar := .iadr s (.tmp x) (.tmp i)
abbrev fa (k x : Nat) : Ar := .fadr k (.tmp x)
abbrev le (k x : Nat) : Ar := .len k (.tmp x)
abbrev ex (x i : Nat) : Ar := .ext (.tmp x) i
abbrev kp (ks rs : List Nat) : Gh := .keep ks rs
end Go.Lg
namespace Go.Lg
open Go Go.RowKit
def Old (w : World) (b : Nat) : Prop := b < w.heap.size
def Rd (P : Program) (t : TypeId) (S : List T → Prop) : Prop :=
 ∀ (H : Type) (enc : TypeId × Value → H) (w : World) (held : Bool) (fuel : Nat) (cs : List Value) (x : DataW H × List MemPlace), DataW.trod enc P w 0 (fun _ => true) held fuel t cs = some x → ∃ ts, S ts ∧ E7 w (Old w) ts cs ∧ ∀ u ∈ ts, u.one = true
theorem q81 {w : World} {a : Addr} {v : Value} (h : w.cell? a = some v) : a.block < w.heap.size := by
 unfold World.cell? at h
 split at h
 ·rename_i hb
  have := Array.getElem?_eq_some_iff.1 hb
  exact this.1
 ·simp at h
variable {P : Program} {t e : TypeId}
theorem E7.one1 {w : World} {X : Nat → Prop} {u : T} {v : Value} (h : TR w X u v) : E7 w X [u] [v] := E7.cons h (E7.nil w X)
theorem Rd.mono {S S' : List T → Prop} (h : Rd P t S) (hs : ∀ ts, S ts → S' ts) : Rd P t S' := fun H enc w held fuel cs x hx => by
 obtain ⟨ts, h1, h2, h3⟩ := h H enc w held fuel cs x hx
 exact ⟨ts, hs ts h1, h2, h3⟩
theorem qDt {k : IntKind} (ht : P.underlying t = some (.int k)) : Rd P t fun ts => ∃ n, ts = [.v (.int k n)] ∧ (Lit.int k n).wf = true := by
 intro H enc w held fuel cs x h
 obtain ⟨n, rfl, _, hw⟩ := DataW.trod_int ht h
 exact ⟨[.v (.int k n)], ⟨n, rfl, hw⟩, E7.one1 (.v _), by intro u hu; simp at hu; subst hu; rfl⟩
theorem q4P {α : Type} {Q : Nat → α → Prop} : ∀ (n : Nat), (∀ i, i < n → ∃ a, Q i a) → ∃ l : List α, l.length = n ∧ ∀ i a, l[i]? = some a → Q i a
 | 0, _ => ⟨[], rfl, fun i a h => by simp at h⟩
 | n + 1, h => by
  obtain ⟨l, hl, hq⟩ := q4P n fun i hi => h i (by omega)
  obtain ⟨a, ha⟩ := h n (by omega)
  refine ⟨l ++ [a], by simp [hl], fun i b hb => ?_⟩
  by_cases hi : i < n
  ·rw [List.getElem?_append_left (by omega)] at hb; exact hq i b hb
  ·have : i = n := by
    have := (List.getElem?_eq_some_iff.1 hb).1
    simp at this; omega
   subst this
   rw [List.getElem?_append_right (by omega), hl] at hb
   simp at hb; subst hb; exact ha
theorem qA5 {s : Nat} {S : List T → Prop} (ht : P.underlying t = some (.slice e)) (hc : P.cellsOf e = s) (hs : 0 < s) (he : Rd P e S) :
  Rd P t fun ts => ∃ es cap nl, ts = [.sl es cap nl] ∧ es.length ≤ maxLen ∧ ∀ x ∈ es, S x ∧ x.length = s := by
 intro H enc w held fuel cs x h
 rcases DataW.trod_slice ht h with ⟨rfl, _⟩ | ⟨a, len, cap, qGZ, rest, n, rfl, rfl, _, _, hlc, hcm, hel, hat, _, _⟩
 ·exact ⟨[.sl [] (some 0) (some true)], ⟨[], _, _, rfl, by simp, by simp⟩, E7.one1 (.nil _ _ none 0 (by rintro n ⟨⟩; rfl) (by rintro b ⟨⟩; rfl) (fun _ => rfl)), by intro u hu; simp at hu; subst hu; rfl⟩
 by_cases h0 : len = 0
 ·subst h0
  exact ⟨[.sl [] none none], ⟨[], _, _, rfl, by simp, by simp⟩, E7.one1 (.nil _ _ (some a) cap (fun _ h => by cases h) (fun _ h => by cases h) (fun h => by cases h)), by intro u hu; simp at hu; subst hu; rfl⟩
 obtain ⟨b, off, spot⟩ := a
 obtain ⟨hsp, hb⟩ : spot = none ∧ b < w.heap.size := by
  have h1 := hat 0 (by omega)
  rw [List.getElem?_eq_getElem (by omega), Option.bind_eq_some_iff] at h1
  obtain ⟨cs', h2, h3⟩ := h1
  unfold World.cells? at h2
  rw [if_pos (Nat.zero_le _)] at h2
  have hl := mapM_some_length h2
  simp only [List.length_range, hc] at hl
  have h4 := mapM_some_get h2 0 0 (by simp [hc, hs])
  rw [List.getElem?_eq_getElem (by omega)] at h4
  simp [Addr.add] at h4
  exact ⟨World.cell?_spot h4, q81 h4⟩
 subst hsp
 have hadd : ∀ k, (Addr.mk b off none).add k = ⟨b, off + k, none⟩ := fun k => by
  unfold Addr.add
  split
  ·rename_i h; subst h; rfl
  ·rfl
 have hadd2 : ∀ o k, (Addr.mk b o none).add k = ⟨b, o + k, none⟩ := fun o k => by
  unfold Addr.add
  split
  ·rename_i h; subst h; rfl
  ·rfl
 have hone : ∀ i, i < len → ∃ el : List T, S el ∧ el.length = s ∧ (∀ u ∈ el, u.one = true) ∧ ∀ k, k < s → ∃ v, w.cell? ⟨b, off + i * s + k, none⟩ = some v ∧ ∀ u, el[k]? = some u → TR w (Old w) u v := fun i hi => by
  have h1 := hat i hi
  rw [List.getElem?_eq_getElem (by omega), Option.bind_eq_some_iff] at h1
  obtain ⟨cs', h2, h3⟩ := h1
  obtain ⟨el, hS, htr, ho⟩ := he H enc w held n cs' _ h3
  unfold World.cells? at h2
  rw [if_pos (Nat.zero_le _)] at h2
  have hl := mapM_some_length h2
  simp only [List.length_range, hc] at hl
  refine ⟨el, hS, by rw [htr.1, hl], ho, fun k hk => ?_⟩
  have h4 := mapM_some_get h2 k k (by simp [hc, hk])
  rw [List.getElem?_eq_getElem (by omega), hadd, hadd2, hc] at h4
  exact ⟨cs'[k], h4, fun u hu => htr.2 k u _ hu (List.getElem?_eq_getElem (by omega))⟩
 obtain ⟨es, hlen, hes⟩ := q4P len hone
 have hget : ∀ i (hi : i < es.length), es[i]? = some es[i] := fun i hi => List.getElem?_eq_getElem hi
 refine ⟨[.sl es none none], ⟨es, none, none, rfl, by omega, fun x hx => ?_⟩, ?_, by intro u hu; simp at hu; subst hu; rfl⟩
 ·obtain ⟨i, hi, rfl⟩ := List.getElem_of_mem hx
  have := hes i _ (hget i hi)
  exact ⟨this.1, this.2.1⟩
 ·rw [← hlen]
  refine E7.one1 (.sl es none none s b off cap (fun i k => (w.cell? ⟨b, off + i * s + k, none⟩).getD .nilFunc) ?_ ?_ ?_ ?_ hb (by omega) (fun _ h => by cases h) (fun _ h => by cases h))
  ·intro i k hi hk
   obtain ⟨v, hv, _⟩ := (hes i _ (hget i hi)).2.2.2 k hk
   simp [hv]
  ·intro i el hi
   exact (hes i _ hi).2.1
  ·intro i k el u hi hu
   have hq := hes i _ hi
   have hk : k < s := by rw [← hq.2.1]; exact (List.getElem?_eq_some_iff.1 hu).1
   obtain ⟨v, hv, hr⟩ := hq.2.2.2 k hk
   simp only [hv, Option.getD_some]
   exact hr u hu
  ·intro i k el u hi hu
   exact (hes i _ hi).2.2.1 u (List.mem_of_getElem? hu)
theorem q2z {H : Type} {enc : TypeId × Value → H} {w : World} {base : Nat} {sp : Nat → Bool} {held : Bool} {fuel : Nat} {n : Nat} {q : TypeId} {k : IntKind} {cs : List Value} {l : List (Int × Int)} {p : List MemPlace}
  (ht : P.underlying t = some (.array n e)) (he : P.underlying e = some (.array 2 q)) (hq : P.underlying q = some (.int k)) (hcq : P.cellsOf q = 1) (hce : P.cellsOf e = 2) (hct : P.cellsOf t = n * 2)
  (h : DataW.trod enc P w base sp held fuel t cs = some (.agg (l.map fun x => .agg [.lit (.int k x.1), .lit (.int k x.2)]), p)) : cs = l.flatMap fun x => [.int k x.1, .int k x.2] := by
 obtain ⟨xs, m, rfl, hx, hcl, hn, hat⟩ := DataW.trod_array ht h
 simp only [Prod.mk.injEq, DataW.agg.injEq] at hx
 have hxs := hx.1
 have hl : l.length = n := by have := congrArg List.length hxs; simp at this; omega
 have hi : ∀ i (h : i < l.length), (cs.drop (i * 2)).take 2 = [.int k l[i].1, .int k l[i].2] := fun i hi => by
  have h1 := hat i (by omega)
  rw [hce, List.getElem?_eq_getElem (by omega)] at h1
  have h2 : xs[i].1 = .agg [.lit (.int k l[i].1), .lit (.int k l[i].2)] := by
   have := congrArg (fun z => z[i]?) hxs
   simp only [List.getElem?_map, List.getElem?_eq_getElem hi, List.getElem?_eq_getElem (show i < xs.length by omega), Option.map_some, Option.some.injEq] at this
   exact this.symm
  have h3 : xs[i] = (.agg [.lit (.int k l[i].1), .lit (.int k l[i].2)], xs[i].2) := by rw [← h2]
  rw [h3] at h1
  exact Lib.cells_of_tab (zs := [l[i].1, l[i].2]) he hq hcq hce h1
 have hcl' : cs.length = l.length * 2 := by omega
 clear h hat hx hxs hcl hn hct ht hl
 induction l generalizing cs with
 | nil => exact List.eq_nil_of_length_eq_zero (by simpa using hcl')
 | cons x l ih =>
  have h0 := hi 0 (by simp)
  simp only [Nat.zero_mul, List.drop_zero, List.getElem_cons_zero] at h0
  have hr := ih (cs := cs.drop 2) (fun i h => by
   have := hi (i + 1) (by simpa using h)
   rw [Nat.add_mul, Nat.one_mul, Nat.add_comm (i * 2)] at this
   simpa [List.drop_drop] using this) (by simp at hcl' ⊢; omega)
  rw [List.flatMap_cons, ← h0, ← hr, List.take_append_drop]
theorem Y6 {H : Type} {enc : TypeId × Value → H} {W W' : World} (hl : laidOutB P = true) (hb : Below W.heap.size W W') : ∀ {ts : List TypeId} {vs : List Value} {ds : List (DataW H)} {p : List MemPlace}, (∀ t ∈ ts, P.readableRec t = true ∧ t < P.types.size) → DataW.TrodAll enc P W 0 (fun _ => true) true ts vs ds p → (∀ x ∈ p, x.block < W.heap.size) → DataW.TrodAll enc P W' 0 (fun b => decide (b < W.heap.size)) true ts vs ds p
 | [], [], [], _, _, h, _ => h
 | [], [], _ :: _, _, _, h, _ => h.elim
 | [], _ :: _, _, _, _, h, _ => by cases h
 | _ :: _, [], _, _, _, h, _ => by cases h
 | _ :: _, _ :: _, [], _, _, h, _ => by cases h
 | t :: ts, v :: vs, d :: ds, _, hr, h, hlt => by
  obtain ⟨p1, q1, h1, h2, rfl⟩ := h
  have hr0 := hr t List.mem_cons_self
  exact ⟨p1, q1, Below.trod hl hr0.1 hr0.2 h1 hb (fun x hx => hlt x (List.mem_append_left _ hx)), Y6 hl hb (fun t' ht => hr t' (List.mem_cons_of_mem _ ht)) h2 (fun x hx => hlt x (List.mem_append_right _ hx)), rfl⟩
theorem qGL {H : Type} {enc : TypeId × Value → H} {f : Func} {s : ChangeSpec} {W W' : World} {args : Array Value} {ds gs : List (DataW H)} {before : List MemPlace} {tb : TypeId}
  (hl : laidOutB P = true) (hr : ∀ t ∈ f.params.toList, P.readableRec t = true ∧ t < P.types.size) (hv : s.vars = []) (hres : f.resultTypes = #[tb]) (htb : P.underlying tb = some .bool)
  (hW : DataW.Whole enc P f.params.toList s.vars false W args.toList ds gs before) (hfn : (s.fn H (ds ++ gs)).results = [.lit (.bool true)]) (hfa : (s.fn H (ds ++ gs)).args = ds) (hfv : (s.fn H (ds ++ gs)).vars = []) (hb : Below W.heap.size W W') :
  s.post enc P f false true false false W args (.bool true) W' := by
 have hW' := hW
 obtain ⟨p, q, hA, hV, rfl, _, _⟩ := hW
 have hlt : ∀ x ∈ p ++ q, x.block < W.heap.size := fun x hx => by simpa using hW'.lt x hx
 have hargs := Y6 hl hb hr hA (fun x hx => hlt x (List.mem_append_left _ hx))
 rw [hv] at hV
 obtain ⟨rfl, rfl⟩ := ChangeShapes.trodVars_none hV
 refine ⟨ds, [], p ++ [], [], p, [], hW', ?_, ?_, ?_, hb.frame _, fun h => by cases h⟩
 ·rw [hfn, hres]
  exact ChangeShapes.trodAll_mk1 (RowKit.shut_bool htb _)
 ·rw [hfa]; exact hargs
 ·rw [hv, hfv]; rfl
theorem qF7 {Γ : Tables} {f : FuncId} {N n : Nat} {ic : IC} {rvs : List RV} {args : List T} {W : World} {vs : List Value} (hc : Ax P f ic N n rvs = true) (h : Aw P Γ f args (.v (.bool true))) (hg : Gl Γ W (Old W)) (ha : E7 W (Old W) args vs) :
  Calls P f vs.toArray W fun e W' => e = .returned (.bool true) ∧ Below W.heap.size W W' := by
 rcases h W (Old W) vs hg (fun b hb => hb) ha with ⟨_, h2⟩ | ⟨v, h1, _⟩
 ·refine h2.mono fun e W' ⟨v, he, hb, hr⟩ => ?_
  cases hr
  exact ⟨he, hb⟩
 ·rw [Wi hc] at h1
  cases h1
end Go.Lg
