/- The abstract code is that of the program (by the kernel). Conditions: none. -/
import Derived.Test.YtjcogpofldkniaaGreatDoorPkD
import Derived.Test.YtjcogpofldkniaaGreatDoorProg
import Derived.KernelRfl
import Derived.Test.YtjcogpofldkniaaGreatDoorPkC
namespace Go.Lg
open Go Go.Proofs
theorem q8p : Ap Tryz.prog 109 q3I 6 1 q3J = true := by kernel_rfl
theorem qA4 : Ap Tryz.prog 94 q4n 5 1 q4o = true := by kernel_rfl
theorem q8q : Ap Tryz.prog 16 q3K 5 1 q3L = true := by kernel_rfl
theorem qAs : Ap Tryz.prog 95 q6m 7 1 q1x = true := by kernel_rfl
theorem q6s : Ap Tryz.prog 128 q18 28 3 T8 = true := by kernel_rfl
theorem qAt : Ap Tryz.prog 96 q6n 5 1 q6o = true := by kernel_rfl
theorem qCK : Ap Tryz.prog 97 q8O 5 1 q8P = true := by kernel_rfl
theorem qAu : Ap Tryz.prog 98 q6q 20 1 q1y = true := by kernel_rfl
theorem qAv : Ap Tryz.prog 99 Q8 23 3 Q9 = true := by kernel_rfl
theorem qAw : Ap Tryz.prog 100 X8 12 2 X9 = true := by kernel_rfl
theorem qAx : Ap Tryz.prog 101 q6r 24 1 Qa = true := by kernel_rfl
theorem q8r : Ap Tryz.prog 129 q3M 6 1 q3N = true := by kernel_rfl
theorem q8s : Ap Tryz.prog 130 q3O 5 1 q3P = true := by kernel_rfl
theorem q5m : Ap Tryz.prog 131 Zs 9 1 Qb = true := by kernel_rfl
theorem Uo : Ap Tryz.prog 147 J5 9 2 J6 = true := by kernel_rfl
theorem Y9 : Ap Tryz.prog 163 M6 19 2 Db = true := by kernel_rfl
theorem Pn : Ap Tryz.prog 80 H3 9 2 H4 = true := by kernel_rfl
theorem T9 : Ap Tryz.prog 123 Ie 19 2 Ek = true := by kernel_rfl
theorem qA5 : Ap Tryz.prog 40 Bl 91 2 Be = true := by kernel_rfl
end Go.Lg
set_option linter.unusedSimpArgs false
set_option linter.unusedVariables false
set_option maxRecDepth 100000
namespace Go.Lg
open Go Go.Proofs
variable {Γ : Tables}
theorem q5n (v : Int) : A3 Tryz.prog Γ 109 [tK v] (tK (F2 v)) := by
 refine A7 q8p rfl ?_
 by_cases h : 3 < v <;> simp [q3I, q3J, As, F2, h]
theorem Ta (v : Int) : A3 Tryz.prog Γ 94 [tK v] (tK (P8 v)) := by
 refine A7 qA4 rfl ?_
 by_cases h : v < 2 <;> simp [q4n, q4o, As, P8, h, q0l, Hq] <;> omega
theorem Tc (v : Int) : A3 Tryz.prog Γ 16 [tK v] (tB (N7 v)) := by
 refine A7 q8q rfl ?_
 simp [q3K, q3L, As, N7]
theorem q6t (v : Int) (h0 : 0 ≤ v) : A3 Tryz.prog Γ 95 [tK v] (tK (q0d v)) := by
 refine A7 qAs rfl ?_
 simp [q6m]
 refine A1 (Tc v) rfl ?_
 by_cases h : v ≤ 1
 ·simp (disch := omega) [q1x, As, N7, q0d, h, Bh]
 ·simp (disch := omega) [q1x, As, N7, q0d, h, Bh]
theorem qIH (s a b : Int) : A3 Tryz.prog Γ 99 [tK s, tK a, tK b] (tK (qAr s a b)) := by
 refine A7 qAv rfl ?_
 by_cases h : s = 0
 ·simp [Q8, h]
  refine A1 (Ta a) rfl ?_
  simp [Q9, As, qAr, h]
 by_cases h1 : s = 1
 ·simp [Q8, h1]
  refine A1 (Ta b) rfl ?_
  simp [Q9, As, qAr, h1]
 by_cases h2 : a = b
 ·simp [Q8, h, h1, h2]
  refine A1 (Ta b) rfl ?_
  simp [Q9, As, qAr, h, h1, h2]
 ·simp [Q8, h, h1, h2, Q9, As, qAr]
theorem qII (e d : Int) : A3 Tryz.prog Γ 100 [tK e, tK d] (tK (qCH e d)) := by
 refine A7 qAw rfl ?_
 by_cases h : e = 0
 ·simp [X8, h, X9, As, qCH]
 by_cases h1 : e = 1
 ·simp [X8, h1]
  refine A1 (Ta d) rfl ?_
  simp [X9, As, qCH, h1]
 ·simp [X8, h, h1, X9, As, qCH]
abbrev Aq (l : List Int) : List (List T) := Ab tK l
def tV (s : Sl Int) : T := .sl (Aq s.l) s.cap s.nl
theorem q1z {Q : AX → St → Prop} (l : List Int) (c : Option Nat) (nl : Option Bool) (low high : Int) (hl : l.length ≤ 1000000000) (R : Int)
  (h0 : Q (.exit 0) ⟨[(1, .t (tK low)), (2, .t (tK high)), (7, .t (tK R)), (11, .t (.sl (Aq l) c nl)), (12, .t (tI l.length)), (13, .t (tI l.length)), (14, .t (tB false))], []⟩)
  (h1 : R = low → Q .ret ⟨[(6, .t (tK low))], []⟩) : ∀ (k i : Nat) (out : Int), k + i = l.length → Nq low high out (l.drop i) = R →
  run Tryz.prog Γ Le Q ⟨[(1, .t (tK low)), (2, .t (tK high)), (7, .t (tK out)), (11, .t (.sl (Aq l) c nl)), (12, .t (tI l.length)), (13, .t (tI i))], []⟩
 | 0, i, out, h, hR => by
  refine Un fun K hK => ?_
  have h2 : ¬ i < l.length := by omega
  rw [List.drop_of_length_le (by omega)] at hR
  simp only [Nq] at hR
  subst hR
  have h3 : i = l.length := by omega
  simp [h2]
  subst h3
  exact h0
 | k + 1, i, out, h, hR => by
  refine Un fun K hK => ?_
  have h2 : i < l.length := by omega
  rw [List.drop_eq_getElem_cons h2] at hR
  simp only [Nq] at hR
  have hget := Bv (f := tK) 0 h2
  simp only [List.getElem?_eq_getElem h2, Option.getD_some] at hget
  generalize l[i] = v at *
  by_cases a1 : v = low
  ·rw [if_pos a1] at hR
   simp (disch := omega) [h2, A0, hget, A6, A4, a1]
   exact h1 hR.symm
  ·by_cases a2 : v = high
   ·rw [if_neg a1, if_neg (by simp [a2])] at hR
    have ih := q1z l c nl low high hl R h0 h1 k (i + 1) out (by omega) hR
    have a1' : ¬ high = low := by rw [← a2]; exact a1
    simp (disch := omega) [h2, A0, hget, A6, A4, a1', a2]
    rw [hK]
    exact_mod_cast ih
   ·rw [if_neg a1, if_pos a2] at hR
    have ih := q1z l c nl low high hl R h0 h1 k (i + 1) 2 (by omega) hR
    simp (disch := omega) [h2, A0, hget, A6, A4, a1, a2]
    rw [hK]
    exact_mod_cast ih
theorem q6u (l : List Int) (c : Option Nat) (nl : Option Bool) (low high : Int) (hl : l.length ≤ 1000000000) : A3 Tryz.prog Γ 128 [.sl (Aq l) c nl, tK low, tK high] (tK (Nq low high high l)) := by
 refine A7 q6s rfl ?_
 simp (disch := omega) [q18, A0, A4]
 refine q1z l c nl low high hl (Nq low high high l) ?_ (fun h => ?_) l.length 0 high (by omega) (by simp)
 ·simp [T8, As]
 ·simp [T8, As, h]
theorem qDR (l : List Int) (c : Option Nat) (nl : Option Bool) (hl : l.length ≤ 1000000000) : A3 Tryz.prog Γ 96 [.sl (Aq l) c nl] (tK (Nq 0 1 1 l)) := by
 refine A7 qAt rfl ?_
 simp [q6n]
 refine A1 (q6u l c nl 0 1 hl) rfl ?_
 simp [q6o, As]
theorem qFs (l : List Int) (c : Option Nat) (nl : Option Bool) (hl : l.length ≤ 1000000000) : A3 Tryz.prog Γ 97 [.sl (Aq l) c nl] (tK (Nq 1 0 0 l)) := by
 refine A7 qCK rfl ?_
 simp [q8O]
 refine A1 (q6u l c nl 1 0 hl) rfl ?_
 simp [q8P, As]
theorem qJx {a b : Int} (ha : a = 0 ∨ a = 1) (hb : b = 0 ∨ b = 1) : IntKind.u8.wrap ((BitVec.ofInt IntKind.u8.bits a ^^^ BitVec.ofInt IntKind.u8.bits b).toNat : Int) = qID a b := by
 rcases ha with rfl | rfl <;> rcases hb with rfl | rfl <;> decide
theorem qDS {Q : AX → St → Prop} (l : List Int) (c : Option Nat) (nl : Option Bool) (hl : l.length ≤ 1000000000) (hv : ∀ v ∈ l, 0 ≤ v) (R : Int)
  (h0 : Q (.exit 0) ⟨[(3, .t (tK R)), (6, .t (.sl (Aq l) c nl)), (7, .t (tI l.length)), (8, .t (tI l.length)), (9, .t (tB false))], []⟩)
  (h1 : R = 2 → Q .ret ⟨[(2, .t (tK 2))], []⟩) : ∀ (k i : Nat) (out : Int), k + i = l.length → (out = 0 ∨ out = 1) → q3E out (l.drop i) = R →
  run Tryz.prog Γ X7 Q ⟨[(3, .t (tK out)), (6, .t (.sl (Aq l) c nl)), (7, .t (tI l.length)), (8, .t (tI i))], []⟩
 | 0, i, out, h, ho, hR => by
  refine q19 fun K hK => ?_
  have h2 : ¬ i < l.length := by omega
  rw [List.drop_of_length_le (by omega)] at hR
  simp only [q3E] at hR
  subst hR
  have h3 : i = l.length := by omega
  simp [h2]
  subst h3
  exact h0
 | k + 1, i, out, h, ho, hR => by
  refine q19 fun K hK => ?_
  have h2 : i < l.length := by omega
  rw [List.drop_eq_getElem_cons h2] at hR
  simp only [q3E] at hR
  have hget := Bv (f := tK) 0 h2
  simp only [List.getElem?_eq_getElem h2, Option.getD_some] at hget
  have hv0 := hv _ (List.getElem_mem h2)
  generalize l[i] = v at *
  by_cases a1 : v ≤ 1
  ·rw [if_pos a1] at hR
   have ih := qDS l c nl hl hv R h0 h1 k (i + 1) (qID out v) (by omega) (by unfold qID; split <;> simp) hR
   simp (disch := omega) [h2, A0, hget, A6, A4]
   refine A1 (Tc v) rfl ?_
   have hx := qJx ho (show v = 0 ∨ v = 1 by omega)
   simp (disch := omega) [N7, a1, ↓hx, A4]
   rw [hK]
   exact_mod_cast ih
  ·rw [if_neg a1] at hR
   simp (disch := omega) [h2, A0, hget, A6, A4]
   refine A1 (Tc v) rfl ?_
   simp (disch := omega) [N7, a1]
   exact h1 hR.symm
theorem qDT (l : List Int) (c : Option Nat) (nl : Option Bool) (hl : l.length ≤ 1000000000) (hv : ∀ v ∈ l, 0 ≤ v) : A3 Tryz.prog Γ 98 [.sl (Aq l) c nl] (tK (q3E 0 l)) := by
 refine A7 qAu rfl ?_
 simp (disch := omega) [q6q, A0, A4]
 refine qDS l c nl hl hv (q3E 0 l) ?_ (fun h => ?_) l.length 0 0 (by omega) (.inl rfl) (by simp)
 ·simp [q1y, As]
 ·simp [q1y, As, h]
theorem q3Q (l : List Int) (c : Option Nat) (nl : Option Bool) (x : Int) (hl : l.length ≤ 1000000000) : ∀ (k i : Nat), k + i = l.length → (∀ j, j < i → ∀ y, l[j]? = some y → (y == x) = false) →
  run Tryz.prog Γ E8 (N2 0 (Am (run Tryz.prog Γ (.seq (.reg Gs [.keep [4] []]) .ret) (ret true Db fun r => r = tI (q0a (· == x) l))) (ret true Db fun r => r = tI (q0a (· == x) l)))) ⟨[(0, .t (.sl (Ab tK l) c nl)), (1, .t (tK x)), (7, .t (tI l.length)), (8, .t (tI i))], []⟩
 | 0, i, h, hp => by
  refine Ib fun K hK => ?_
  have h2 : ¬ i < l.length := by omega
  simp (disch := omega) [A0, Bv (0 : Int), A6, A4, h2, ret, Db, Dl, Fh, Fg, As]
  have : l.findIdx? (· == x) = none := by
   rw [List.findIdx?_eq_none_iff]
   intro y hy
   obtain ⟨j, hj, rfl⟩ := List.getElem_of_mem hy
   exact hp j (by omega) _ (List.getElem?_eq_getElem hj)
  have e : l.findIdx? (fun y => decide (y = x)) = _ := this
  simp [q0a, e]
 | k + 1, i, h, hp => by
  refine Ib fun K hK => ?_
  have h2 : i < l.length := by omega
  simp (disch := omega) [A0, Bv (0 : Int), A6, A4, h2]
  refine ⟨fun hc => ?_, fun hc => ?_⟩
  ·simp [Bg, ret, Db, Dl, Fh, Fg, As]
   have := q1r (p := (· == x)) hp l[i] (List.getElem?_eq_getElem h2) (by simp [hc])
   have e : l.findIdx? (fun y => decide (y = x)) = _ := this
   simp [q0a, e]
  ·simp (disch := omega) [Bg, A4]
   rw [hK]
   exact_mod_cast q3Q l c nl x hl k (i + 1) (by omega) (fun j hj y hy => by
    rcases Nat.lt_succ_iff_lt_or_eq.1 hj with hj | rfl
    ·exact hp j hj y hy
    ·rw [List.getElem?_eq_getElem h2] at hy; simp at hy; subst hy
     simp; exact fun e => hc e.symm)
theorem qGx (l : List Int) (c : Option Nat) (nl : Option Bool) (x : Int) (hl : l.length ≤ 1000000000) : A3 Tryz.prog Γ 163 [.sl (Ab tK l) c nl, tK x] (tI (q0a (· == x) l)) := by
 refine A7 Y9 rfl ?_
 simp (disch := omega) [M6, A0, A4]
 exact_mod_cast q3Q l c nl x hl l.length 0 (by omega) (by simp)
theorem q6v (l : List Int) (c : Option Nat) (nl : Option Bool) (x : Int) (hl : l.length ≤ 1000000000) : A3 Tryz.prog Γ 147 [.sl (Ab tK l) c nl, tK x] (tB (l.contains x)) := by
 refine A7 Uo rfl ?_
 simp (disch := omega) [J5, A0, A4]
 refine A1 (qGx l c nl x hl) rfl ?_
 simp [ret, J6, Dl, Fh, Fg, As]
 unfold q0a
 cases h : l.findIdx? (· == x) with
 | none =>
  rw [List.findIdx?_eq_none_iff] at h
  have : ¬ x ∈ l := fun hx => by simpa using h x hx
  simp [this]
 | some i =>
  rw [List.findIdx?_eq_some_iff_getElem] at h
  obtain ⟨hi, h1, _⟩ := h
  have : x ∈ l := by rw [← (show l[i] = x by simpa using h1)]; exact List.getElem_mem hi
  simp [this]
theorem Ya {Q : AX → St → Prop} (l : List Int) (c : Option Nat) (nl : Option Bool) (f : FuncId) (cs : List T) (p : Int → Bool) (hp : ∀ x ∈ l, A3 Tryz.prog Γ f (tK x :: cs) (tB (p x))) (hl : l.length ≤ 1000000000)
  (h0 : (∀ x ∈ l, p x = false) → Q (.exit 0) ⟨[(0, .t (.sl (Ab tK l) c nl)), (1, .t (.fn f cs)), (7, .t (tI l.length)), (8, .t (tI l.length)), (9, .t (tB false))], []⟩)
  (h1 : ∀ i : Nat, l.findIdx? p = some i → Q .ret ⟨[(4, .t (tI i))], []⟩) : ∀ (k i : Nat), k + i = l.length → (∀ j, j < i → ∀ y, l[j]? = some y → p y = false) →
  run Tryz.prog Γ Dh Q ⟨[(0, .t (.sl (Ab tK l) c nl)), (1, .t (.fn f cs)), (7, .t (tI l.length)), (8, .t (tI i))], []⟩
 | 0, i, h, hq => by
  refine Gj fun K hK => ?_
  have h2 : ¬ i < l.length := by omega
  simp (disch := omega) [A0, Bv (0 : Int), A6, A4, h2]
  have h3 : i = l.length := by omega
  subst h3
  refine h0 fun y hy => ?_
  obtain ⟨j, hj, rfl⟩ := List.getElem_of_mem hy
  exact hq j (by omega) _ (List.getElem?_eq_getElem hj)
 | k + 1, i, h, hq => by
  refine Gj fun K hK => ?_
  have h2 : i < l.length := by omega
  simp (disch := omega) [A0, Bv (0 : Int), A6, A4, h2]
  refine Y5 (hp l[i] (List.getElem_mem h2)) ?_
  simp
  refine ⟨fun hc => ?_, fun hc => ?_⟩
  ·simp [Bg]
   exact h1 i (q1r hq l[i] (List.getElem?_eq_getElem h2) hc)
  ·simp (disch := omega) [Bg, A4]
   rw [hK]
   exact_mod_cast Ya l c nl f cs p hp hl h0 h1 k (i + 1) (by omega) (fun j hj y hy => by
    rcases Nat.lt_succ_iff_lt_or_eq.1 hj with hj | rfl
    ·exact hq j hj y hy
    ·rw [List.getElem?_eq_getElem h2] at hy; simp at hy; subst hy; exact hc)
theorem q4p (l : List Int) (c : Option Nat) (nl : Option Bool) (f : FuncId) (cs : List T) (p : Int → Bool) (hp : ∀ x ∈ l, A3 Tryz.prog Γ f (tK x :: cs) (tB (p x))) (hl : l.length ≤ 1000000000) : A3 Tryz.prog Γ 123 [.sl (Ab tK l) c nl, .fn f cs] (tI (q0a p l)) := by
 refine A7 T9 rfl ?_
 simp (disch := omega) [Ie, A0, A4]
 refine Ya l c nl f cs p hp hl (fun h => ?_) (fun i h => ?_) l.length 0 (by omega) (by simp)
 ·have : l.findIdx? p = none := List.findIdx?_eq_none_iff.2 h
  simp [ret, Ek, Dl, Fh, Fg, As, q0a, this]
 ·simp [ret, Ek, Dl, Fh, Fg, As, q0a, h]
theorem Dy (l : List Int) (c : Option Nat) (nl : Option Bool) (f : FuncId) (cs : List T) (p : Int → Bool) (hp : ∀ x ∈ l, A3 Tryz.prog Γ f (tK x :: cs) (tB (p x))) (hl : l.length ≤ 1000000000) : A3 Tryz.prog Γ 80 [.sl (Ab tK l) c nl, .fn f cs] (tB (l.any p)) := by
 refine A7 Pn rfl ?_
 simp (disch := omega) [H3, A0, A4]
 refine A1 (q4p l c nl f cs p hp hl) rfl ?_
 simp [ret, H4, Dl, Fh, Fg, As]
 unfold q0a
 cases h : l.findIdx? p with
 | none =>
  rw [List.findIdx?_eq_none_iff] at h
  have : l.any p = false := by rw [List.any_eq_false]; intro x hx; simp [h x hx]
  simp [this]
 | some i =>
  rw [List.findIdx?_eq_some_iff_getElem] at h
  obtain ⟨hi, h1, _⟩ := h
  have : l.any p = true := List.any_eq_true.2 ⟨_, List.getElem_mem hi, h1⟩
  simp [this]
theorem qAy (l : List Int) (c : Option Nat) (nl : Option Bool) (hl : l.length ≤ 1000000000) : A3 Tryz.prog Γ 131 [.sl (Aq l) c nl] (tB (q7m l)) := by
 refine A7 q5m rfl ?_
 simp [Zs]
 refine A1 (q6v l c nl 0 hl) rfl ?_
 simp
 by_cases h : (0 : Int) ∈ l
 ·simp [h]
  refine A1 (q6v l c nl 1 hl) rfl ?_
  simp [Qb, As, q7m, h]
 ·simp [h, Qb, As, q7m]
theorem qIJ (v : Int) : A3 Tryz.prog Γ 129 [tK v] (tB (qGt v)) := by
 refine A7 q8r rfl ?_
 simp [q3M]
 refine A1 (q5n v) rfl ?_
 simp [q3N, As, qGt]
theorem qIK (v : Int) : A3 Tryz.prog Γ 130 [tK v] (tB (qIE v)) := by
 refine A7 q8s rfl ?_
 simp [q3O, q3P, As, qIE]
theorem qIL (l : List Int) (c : Option Nat) (nl : Option Bool) (hl : l.length ≤ 1000000000) : A3 Tryz.prog Γ 101 [.sl (Aq l) c nl] (tK (qA0 l)) := by
 refine A7 qAx rfl ?_
 simp [q6r]
 refine A1 (q4p l c nl _ [] qIE (fun x _ => qIK x) hl) rfl ?_
 unfold q0a
 cases h : l.findIdx? qIE with
 | none =>
  have hR : qA0 l = 3 := by unfold qA0; rw [h]
  simp [Qa, As, hR]
 | some i =>
  have hb : qA0 l = if q7m l = true ∨ l.any qGt = true then 2 else l.getD i 0 := by unfold qA0; rw [h]
  have hi : i < l.length := by
   rw [List.findIdx?_eq_some_iff_getElem] at h
   exact h.1
  have hget := Bv (f := tK) 0 hi
  have hgg : l[i]?.getD 0 = l.getD i 0 := by simp [List.getD_eq_getElem?_getD]
  rw [hgg] at hget
  have hneg : ¬ (i : Int) < 0 := by omega
  simp only
  simp [hneg]
  refine A1 (qAy l c nl hl) rfl ?_
  by_cases h1 : q7m l = true
  ·rw [if_pos (.inl h1)] at hb
   simp [h1, Qa, As, hb]
  ·simp [h1]
   refine A1 (Dy l c nl _ [] qGt (fun x _ => qIJ x) hl) rfl ?_
   by_cases h2 : l.any qGt = true
   ·rw [if_pos (.inr h2)] at hb
    simp only [h2]
    simp [Qa, As, hb]
   ·rw [if_neg (by rintro (h | h); exact h1 h; exact h2 h)] at hb
    simp only [Bool.not_eq_true] at h2
    generalize qA0 l = r at *
    subst hb
    simp only [h2]
    simp (disch := omega) [Qa, As, A0, A6, hget, hi]
theorem qGy (hΓ : GOk Γ) (k : Int) (hk : 0 ≤ k ∧ k ≤ 255) (l : List Int) (c : Option Nat) (nl : Option Bool) (hl : l.length ≤ 1000000000) (hv : ∀ v ∈ l, V4 v) : A3 Tryz.prog Γ 40 [tK k, .sl (Aq l) c nl] (tK (q6h k l)) := by
 refine A7 qA5 rfl ?_
 unfold q6h
 by_cases hw : qA1 k l.length = true
 ·rw [if_pos hw]
  simp only [qA1, decide_eq_true_eq] at hw
  simp [Bl]
  refine A1 (Dc hΓ k hk.1 hk.2) rfl ?_
  by_cases hw1 : (l.length : Int) < (Vh k).1
  ·simp [A0, hw1, Be, As]
  ·have hw2 : (Vh k).2 < (l.length : Int) := by omega
   simp [A0, hw1, hw2, Be, As]
 rw [if_neg hw]
 simp only [qA1, decide_eq_true_eq] at hw
 have hw1 : ¬ (l.length : Int) < (Vh k).1 := by omega
 have hw2 : ¬ (Vh k).2 < (l.length : Int) := by omega
 have hv0 : ∀ v ∈ l, 0 ≤ v := fun v h => (hv v h).1
 have ge : ∀ i, i < l.length → (Ab tK l)[i]?.getD [] = [tK (l.getD i 0)] := fun i hi => by
  have hget := Bv (f := tK) 0 hi
  have hgg : l[i]?.getD 0 = l.getD i 0 := by simp [List.getD_eq_getElem?_getD]
  rw [hgg] at hget
  exact hget
 have dA := q16 (low := 0) (l := l) (out := 1) (high := 1) (.inr rfl)
 have dO := q16 (low := 1) (l := l) (out := 0) (high := 0) (.inr rfl)
 have n1 : 0 ≤ Nq 0 1 1 l := by rw [dA]; split; omega; split <;> omega
 have n2 : 0 ≤ Nq 1 0 0 l := by rw [dO]; split; omega; split <;> omega
 have n3 : 0 ≤ q3E 0 l := (qEk (by simp [V4]) hv).1
 have g0 := q1v hv 0
 by_cases e1 : k = 1
 ·subst e1
  have hR : Fp 1 l = 0 := rfl
  generalize Fp 1 l = r at *
  subst hR
  simp [Bl]
  refine A1 (Dc hΓ 1 hk.1 hk.2) rfl ?_
  simp [A0, hw1, hw2, Bg, Be, As]
 by_cases e2 : k = 2
 ·subst e2
  have hR : Fp 2 l = 1 := rfl
  generalize Fp 2 l = r at *
  subst hR
  simp [Bl]
  refine A1 (Dc hΓ 2 hk.1 hk.2) rfl ?_
  simp [A0, hw1, hw2, Bg, Be, As]
 by_cases e3 : k = 3
 ·subst e3
  have f1 : (Vh 3).1 = 1 := rfl
  have q0 : 0 < l.length := by omega
  have u0 := ge 0 q0
  have hR : Fp 3 l = P8 (l.getD 0 0) := rfl
  generalize l.getD 0 0 = x0 at *
  generalize Fp 3 l = r at *
  subst hR
  simp [Bl]
  refine A1 (Dc hΓ 3 hk.1 hk.2) rfl ?_
  simp [A0, hw1, hw2, Bg]
  simp (disch := omega) [A0, A6, q0, u0]
  refine A1 (Ta x0) rfl ?_
  simp [Be, As]
 by_cases e4 : k = 4
 ·subst e4
  have f1 : (Vh 4).1 = 1 := rfl
  have q0 : 0 < l.length := by omega
  have u0 := ge 0 q0
  have p0 := g0.1
  have hR : Fp 4 l = q0d (l.getD 0 0) := rfl
  generalize l.getD 0 0 = x0 at *
  generalize Fp 4 l = r at *
  subst hR
  simp [Bl]
  refine A1 (Dc hΓ 4 hk.1 hk.2) rfl ?_
  simp [A0, hw1, hw2, Bg]
  simp (disch := omega) [A0, A6, q0, u0]
  refine A1 (q6t x0 p0) rfl ?_
  simp [Be, As]
 by_cases e5 : k = 5
 ·subst e5
  have hR : Fp 5 l = Nq 0 1 1 l := rfl
  generalize Fp 5 l = r at *
  subst hR
  simp [Bl]
  refine A1 (Dc hΓ 5 hk.1 hk.2) rfl ?_
  simp [A0, hw1, hw2, Bg]
  refine A1 (qDR l c nl hl) rfl ?_
  simp [Be, As]
 by_cases e6 : k = 6
 ·subst e6
  have hR : Fp 6 l = q0d (Nq 0 1 1 l) := rfl
  generalize Fp 6 l = r at *
  subst hR
  simp [Bl]
  refine A1 (Dc hΓ 6 hk.1 hk.2) rfl ?_
  simp [A0, hw1, hw2, Bg]
  refine A1 (qDR l c nl hl) rfl ?_
  simp
  refine A1 (q6t _ n1) rfl ?_
  simp [Be, As]
 by_cases e7 : k = 7
 ·subst e7
  have hR : Fp 7 l = Nq 1 0 0 l := rfl
  generalize Fp 7 l = r at *
  subst hR
  simp [Bl]
  refine A1 (Dc hΓ 7 hk.1 hk.2) rfl ?_
  simp [A0, hw1, hw2, Bg]
  refine A1 (qFs l c nl hl) rfl ?_
  simp [Be, As]
 by_cases e8 : k = 8
 ·subst e8
  have hR : Fp 8 l = q0d (Nq 1 0 0 l) := rfl
  generalize Fp 8 l = r at *
  subst hR
  simp [Bl]
  refine A1 (Dc hΓ 8 hk.1 hk.2) rfl ?_
  simp [A0, hw1, hw2, Bg]
  refine A1 (qFs l c nl hl) rfl ?_
  simp
  refine A1 (q6t _ n2) rfl ?_
  simp [Be, As]
 by_cases e9 : k = 9
 ·subst e9
  have hR : Fp 9 l = q3E 0 l := rfl
  generalize Fp 9 l = r at *
  subst hR
  simp [Bl]
  refine A1 (Dc hΓ 9 hk.1 hk.2) rfl ?_
  simp [A0, hw1, hw2, Bg]
  refine A1 (qDT l c nl hl hv0) rfl ?_
  simp [Be, As]
 by_cases e10 : k = 10
 ·subst e10
  have hR : Fp 10 l = q0d (q3E 0 l) := rfl
  generalize Fp 10 l = r at *
  subst hR
  simp [Bl]
  refine A1 (Dc hΓ 10 hk.1 hk.2) rfl ?_
  simp [A0, hw1, hw2, Bg]
  refine A1 (qDT l c nl hl hv0) rfl ?_
  simp
  refine A1 (q6t _ n3) rfl ?_
  simp [Be, As]
 by_cases e11 : k = 11
 ·subst e11
  have f1 : (Vh 11).1 = 3 := rfl
  have q0 : 0 < l.length := by omega
  have u0 := ge 0 q0
  have q1 : 1 < l.length := by omega
  have u1 := ge 1 q1
  have q2 : 2 < l.length := by omega
  have u2 := ge 2 q2
  have hR : Fp 11 l = qAr (l.getD 0 0) (l.getD 1 0) (l.getD 2 0) := rfl
  generalize l.getD 0 0 = x0 at *
  generalize l.getD 1 0 = x1 at *
  generalize l.getD 2 0 = x2 at *
  generalize Fp 11 l = r at *
  subst hR
  simp [Bl]
  refine A1 (Dc hΓ 11 hk.1 hk.2) rfl ?_
  simp [A0, hw1, hw2, Bg]
  simp (disch := omega) [A0, A6, q0, u0, q1, u1, q2, u2]
  refine ⟨by omega, by omega, ?_⟩
  refine A1 (qIH x0 x1 x2) rfl ?_
  simp [Be, As]
 by_cases e12 : k = 12
 ·subst e12
  have f1 : (Vh 12).1 = 2 := rfl
  have q0 : 0 < l.length := by omega
  have u0 := ge 0 q0
  have q1 : 1 < l.length := by omega
  have u1 := ge 1 q1
  have hR : Fp 12 l = qCH (l.getD 0 0) (l.getD 1 0) := rfl
  generalize l.getD 0 0 = x0 at *
  generalize l.getD 1 0 = x1 at *
  generalize Fp 12 l = r at *
  subst hR
  simp [Bl]
  refine A1 (Dc hΓ 12 hk.1 hk.2) rfl ?_
  simp [A0, hw1, hw2, Bg]
  simp (disch := omega) [A0, A6, q0, u0, q1, u1]
  refine ⟨by omega, ?_⟩
  refine A1 (qII x0 x1) rfl ?_
  simp [Be, As]
 by_cases e13 : k = 13
 ·subst e13
  have hR : Fp 13 l = qA0 l := rfl
  generalize Fp 13 l = r at *
  subst hR
  simp [Bl]
  refine A1 (Dc hΓ 13 hk.1 hk.2) rfl ?_
  simp [A0, hw1, hw2, Bg]
  refine A1 (qIL l c nl hl) rfl ?_
  simp [Be, As]
 have ek : Fp k l = 2 := by
  unfold Fp
  rw [if_neg e1, if_neg e2, if_neg e3, if_neg e4, if_neg e5, if_neg e6, if_neg e7, if_neg e8, if_neg e9, if_neg e10, if_neg e11, if_neg e12, if_neg e13]
 rw [ek]
 simp [Bl]
 refine A1 (Dc hΓ k hk.1 hk.2) rfl ?_
 simp [A0, hw1, hw2, Be, As, e1, e2, e3, e4, e5, e6, e7, e8, e9, e10, e11, e12, e13]
end Go.Lg
namespace Go.Lg
open Go
section
variable {P : Program} {Γ : Tables} {Q : AX → St → Prop} {s : St}
/- slices.SortStableFunc[[]int,int] (function 90) -/
abbrev J7 : IC := (.reg [om 4 0, om 5 0, od 6 (le 0 5), om 7 1, od 8 (.hcall 126 [(tm 4), (tm 6), (tm 7)] [1000000] 8000)] [kp [] [1000000]])
def J8 : List RV := []
/- slices.stableCmpFunc[int] (function 126) -/
abbrev Jn : IC := .gh (.seq (.seq (.reg [om 11 8, om 12 1, od 13 (.bin .leq (tm 11) (tm 12))] [kp [0, 1, 2, 6, 7, 8, 13] [1000000]]) (.cond (tm 13) .skip (.exit 0))) (.block 1 (.seq (.reg [om 14 0, om 15 7, om 16 8, om 17 2, od 18 (.hcall 145 [(tm
 14), (tm 15), (tm 16), (tm 17)] [1000000] 18000)] [kp [0, 1, 2, 6, 8] [1000000]]) (.seq (.reg [om 19 8, om 7 19] [kp [0, 1, 2, 6, 7, 8] [1000000]]) (.reg [om 20 8, om 21 6, od 22 (.bin .add (tm 20) (tm 21)), om 8 22] [kp [0, 1, 2,
 6, 7, 8] [1000000]]))))) [kp [0, 1, 2, 6, 7, 8] [1000000]]
def F9 : IC := .loop Jn
abbrev Xa : IC := .gh (.seq (.seq (.reg [om 33 8, om 34 1, od 35 (.bin .leq (tm 33) (tm 34))] [kp [0, 1, 2, 6, 7, 8, 35] [1000000]]) (.cond (tm 35) .skip (.exit 4))) (.block 5 (.seq (.reg [om 36 0, om 37 7, om 38 7, om 39 6, od 40 (.bin .add (tm 38)
 (tm 39)), om 41 8, om 42 2, od 43 (.hcall 146 [(tm 36), (tm 37), (tm 40), (tm 41), (tm 42)] [1000000] 43000)] [kp [0, 1, 2, 6, 8] [1000000]]) (.seq (.reg [om 44 8, om 7 44] [kp [0, 1, 2, 6, 7, 8] [1000000]]) (.reg [om 45 8, om 46
 6, od 47 (.bin .mul (ki 2) (tm 46)), od 48 (.bin .add (tm 45) (tm 47)), om 8 48] [kp [0, 1, 2, 6, 7, 8] [1000000]]))))) [kp [0, 1, 2, 6, 7, 8] [1000000]]
def Xb : IC := .loop Xa
abbrev Jo : IC := .gh (.seq (.seq (.reg [om 28 6, om 29 1, od 30 (.bin .lss (tm 28) (tm 29))] [kp [0, 1, 2, 6, 30] [1000000]]) (.cond (tm 30) .skip (.exit 2))) (.block 3 (.seq (.reg [om 31 6, od 32 (.bin .mul (ki 2) (tm 31)), od 7 (.mv (ki 0)), om 8
 32] [kp [0, 1, 2, 6, 7, 8] [1000000]]) (.seq (.block 4 Xb) (.seq (.seq (.reg [om 49 7, om 50 6, od 51 (.bin .add (tm 49) (tm 50)), om 9 51] [kp [0, 1, 2, 6, 7, 9] [1000000]]) (.seq (.reg [om 52 9, om 53 1,
 od 54 (.bin .lss (tm 52) (tm 53))] [kp [0, 1, 2, 6, 7, 9, 54] [1000000]]) (.cond (tm 54) (.reg [om 55 0, om 56 7, om 57 9, om 58 1, om 59 2, od 60 (.hcall 146 [(tm 55), (tm 56), (tm 57), (tm 58), (tm 59)] [1000000] 60000)] [kp [0,
 1, 2, 6] [1000000]]) .skip))) (.reg [om 61 6, od 62 (.bin .mul (tm 61) (ki 2)), om 6 62] [kp [0, 1, 2, 6] [1000000]])))))) [kp [0, 1, 2, 6] [1000000]]
def Fa : IC := .loop Jo
abbrev Jp : IC := (.seq (.reg [od 6 (.mv (ki 20))] [kp [0, 1, 2, 6] [1000000]]) (.seq (.reg [om 10 6, od 7 (.mv (ki 0)), om 8 10] [kp [0, 1, 2, 6, 7, 8] [1000000]]) (.seq (.block 0 F9) (.seq (.reg [om 23 0, om 24 7, om 25 1,
 om 26 2, od 27 (.hcall 145 [(tm 23), (tm 24), (tm 25), (tm 26)] [1000000] 27000)] [kp [0, 1, 2, 6] [1000000]]) (.block 2 Fa)))))
theorem Qu (h : ∀ K : St → Prop, K = run P Γ F9 Q → run P Γ Jn (Am K Q) s) : run P Γ F9 Q s := Ae h
theorem Qv (h : ∀ K : St → Prop, K = run P Γ Fa Q → run P Γ Jo (Am K Q) s) : run P Γ Fa Q s := Ae h
def Jq : List RV := []
/- slices.insertionSortCmpFunc[int] (function 145) -/
abbrev G4 : IC := .gh (.seq (.seq (.reg [om 18 9, om 19 1, od 20 (.bin .gtr (tm 18) (tm 19)), om 21 20, oT 22 (.mv (tm 3)) 21, oT 23 (.mv (tm 0)) 21, oT 24 (.mv (tm 9)) 21, oT 25 (ia 1 23 24) 21, oT 26 (ld 1 25) 21, oT 27 (.mv (tm 0)) 21, oT 28 (.mv
 (tm 9)) 21, oT 29 (.bin .sub (tm 28) (ki 1)) 21, oT 30 (ia 1 27 29) 21, oT 31 (ld 1 30) 21, oT 32 (.callv (tm 22) [(tm 26), (tm 31)]) 21, oT 33 (.bin .lss (tm 32) (ki 0)) 21, od 34 (.pick (tm 21) (tm 33) kF)] [kp [0, 1, 2, 3, 8, 9,
 34] [1000000]]) (.cond (tm 34) .skip (.exit 2))) (.seq (.block 3 (.reg [om 37 0, om 38 9, om 39 0, om 40 9, od 41 (.bin .sub (tm 40) (ki 1)), om 42 0, om 43 9, od 44 (.bin .sub (tm 43) (ki 1)), od 45 (ia 1 42 44), od 46 (.ldR
 1000000 1 false (tm 45)), om 47 0, om 48 9, od 49 (ia 1 47 48), od 50 (.ldR 1000000 1 false (tm 49)), od 51 (ia 1 37 38), on (.stR 1000000 1 (tm 51) (tm 46)), od 52 (ia 1 39 41), on (.stR 1000000 1 (tm 52) (tm 50))] [kp [0, 1, 2,
 3, 8, 9] [1000000]])) (.reg [om 35 9, od 36 (.bin .sub (tm 35) (ki 1)), om 9 36] [kp [0, 1, 2, 3, 8, 9] [1000000]]))) [kp [0, 1, 2, 3, 8, 9] [1000000]]
def C2 : IC := .loop G4
abbrev G5 : IC := .gh (.seq (.seq (.reg [om 12 8, om 13 2, od 14 (.bin .lss (tm 12) (tm 13))] [kp [0, 1, 2, 3, 8, 14] [1000000]]) (.cond (tm 14) .skip (.exit 0))) (.seq (.block 1 (.seq (.reg [om 17 8, om 9 17] [kp [0, 1, 2, 3, 8, 9] [1000000]])
 (.block 2 C2))) (.reg [om 15 8, od 16 (.bin .add (tm 15) (ki 1)), om 8 16] [kp [0, 1, 2, 3, 8] [1000000]]))) [kp [0, 1, 2, 3, 8] [1000000]]
def C3 : IC := .loop G5
abbrev G6 : IC := (.seq (.reg [om 10 1, od 11 (.bin .add (tm 10) (ki 1)), om 8 11] [kp [0, 1, 2, 3, 8] [1000000]]) (.block 0 C3))
theorem Em (h : ∀ K : St → Prop, K = run P Γ C2 Q → run P Γ G4 (Am K Q) s) : run P Γ C2 Q s := Ae h
theorem En (h : ∀ K : St → Prop, K = run P Γ C3 Q → run P Γ G5 (Am K Q) s) : run P Γ C3 Q s := Ae h
def G7 : List RV := []
/- probecard/netlists.Order (function 38) -/
abbrev Zt : IC := .gh (.seq (.reg [od 23 (.bin .lss (tm 22) (tm 21))] [kp [4, 6, 21, 22, 23] [19]]) (.seq (.cond (tm 23) .skip (.exit 0)) (.seq (.block 1 (.seq (.reg [om 24 22, om 7 24] [kp [4, 6, 7, 21, 22] [19]]) (.reg [om 25 6, om 26 7, om 27 7,
 od 28 (ia 1 25 26), on (.store 1 (tm 28) (tm 27))] [kp [4, 6, 21, 22] [19]]))) (.reg [od 29 (.bin .add (tm 22) (ki 1)), om 22 29] [kp [4, 6, 21, 22] [19]])))) [kp [4, 6, 21, 22] [19]]
def Jr : IC := .loop Zt
abbrev Zu : IC := (.seq (.reg [od 1 (.box true (tm 0)), od 2 (.mv kN), od 3 (.mv (ki 0))] [kp [1] []]) (.seq (.reg [od 9 (lG 4 1), od 10 (.call 67 [(tm 9)]), om 8 10, od 11 (ex 8 0), od 12 (ex 8 1), od 4 (.alloc false [(.slice none 0 0)]), on
 (.store 1 (tm 4) (tm 11)), om 5 12] [.frz 4, kp [1, 4, 5] []]) (.seq (.seq (.reg [om 13 5, od 14 (.bin .neq (tm 13) (ki 0))] [kp [1, 4, 5, 14] []]) (.cond (tm 14) (.seq (.reg [om 15 5, od 2 (.mv kN), om 3 15] [kp [2, 3] [19]])
 .ret) .skip)) (.seq (.reg [od 16 (fa 0 1), od 17 (ld 1 16), od 18 (le 0 17), od 19 (.mk 3 1 [(.int .i64 0)] (tm 18) (tm 18)), om 6 19] [kp [4, 6] [19]]) (.seq (.seq (.reg [om 20 6, od 21 (le 0 20), od 22 (.mv (ki 0))] [kp [4, 6,
 21, 22] [19]]) (.block 0 Jr)) (.seq (.reg [om 30 6, od 31 (.mkf 91 [(tm 4)]), od 32 (.hcall 90 [(tm 30), (tm 31)] [19] 32000)] [kp [6] [19]]) (.seq (.reg [om 33 6, om 2 33, od 3 (.mv (ki 0))] [kp [2, 3] [19]])
 .ret)))))))
theorem Rk (h : ∀ K : St → Prop, K = run P Γ Jr Q → run P Γ Zt (Am K Q) s) : run P Γ Jr Q s := Ae h
def Qc : List RV := [.tmp 2, .tmp 3]
/- probecard/netlists.Order$1 (function 91) -/
abbrev W0 : IC := (.seq (.reg [od 5 (.mv (ki 0))] [kp [0, 1, 2] []]) (.seq (.reg [od 6 (ld 1 2), om 7 0, od 8 (ia 1 6 7), od 9 (ld 1 8), od 10 (ld 1 2), om 11 1, od 12 (ia 1 10 11), od 13 (ld 1 12), od 14 (.call 92 [(tm 9), (tm 13)]), om 5 14] [kp
 [5] []]) .ret))
def W1 : List RV := [.tmp 5]
/- cmp.Compare[int] (function 92) -/
abbrev Yb : IC := (.seq (.reg [od 4 (.mv (ki 0))] [kp [0, 1] []]) (.seq (.reg [om 7 0, od 8 (.call 127 [(tm 7)]), om 5 8] [kp [0, 1, 5] []]) (.seq (.reg [om 9 1, od 10 (.call 127 [(tm 9)]), om 6 10] [kp [0, 1, 5, 6] []]) (.seq (.seq (.reg [om 11 5]
 [kp [0, 1, 6, 11] []]) (.cond (tm 11) (.seq (.seq (.reg [om 12 6] [kp [12] []]) (.cond (tm 12) (.seq (.reg [od 4 (.mv (ki 0))] [kp [4] []]) .ret) .skip)) (.seq (.reg [od 4 (.mv (.const (.int .i64 (-1))))] [kp [4] []]) .ret))
 .skip)) (.seq (.seq (.reg [om 13 6] [kp [0, 1, 13] []]) (.cond (tm 13) (.seq (.reg [od 4 (.mv (ki 1))] [kp [4] []]) .ret) .skip)) (.seq (.seq (.reg [om 14 0, om 15 1, od 16 (.bin .lss (tm 14) (tm 15))] [kp [0, 1, 16] []]) (.cond
 (tm 16) (.seq (.reg [od 4 (.mv (.const (.int .i64 (-1))))] [kp [4] []]) .ret) .skip)) (.seq (.seq (.reg [om 17 0, om 18 1, od 19 (.bin .gtr (tm 17) (tm 18))] [kp [19] []]) (.cond (tm 19) (.seq (.reg [od 4 (.mv (ki 1))] [kp [4] []])
 .ret) .skip)) (.seq (.reg [od 4 (.mv (ki 0))] [kp [4] []]) .ret))))))))
def Oh : List RV := [.tmp 4]
/- cmp.isNaN[int] (function 127) -/
abbrev q1A : IC := (.seq (.reg [od 2 (.mv kF)] [kp [0] []]) (.seq (.reg [om 3 0, om 4 0, od 5 (.bin .neq (tm 3) (tm 4)), om 2 5] [kp [2] []]) .ret))
def q1B : List RV := [.tmp 2]
end
end Go.Lg
namespace Go.Lg
open Go Go.Proofs
theorem Up : Ap Tryz.prog 90 J7 9 2 J8 = true := by kernel_rfl
theorem Vk : Ap Tryz.prog 126 Jp 63 3 Jq = true := by kernel_rfl
theorem Nr : Ap Tryz.prog 145 G6 53 4 G7 = true := by kernel_rfl
theorem q5o : Ap Tryz.prog 38 Zu 34 1 Qc = true := by kernel_rfl
theorem q3R : Ap Tryz.prog 91 W0 15 3 W1 = true := by kernel_rfl
theorem q4N : Ap Tryz.prog 92 Yb 20 2 Oh = true := by kernel_rfl
theorem q6w : Ap Tryz.prog 127 q1A 6 1 q1B = true := by kernel_rfl
end Go.Lg
namespace Go.Lg
open Go Go.Proofs
variable {Γ : Tables}
theorem qDU {hp : List (Nat × B7)} {f : FuncId} {K : T → Prop} {cs : List T} {t u res : T} (h : A3 Tryz.prog Γ f (t :: u :: cs) res) (hk : K res) : q4b Tryz.prog Γ hp f (.t t :: .t u :: cs.map .t) K ⟨⟩ :=
 A1 h (by simp only [List.map_cons, List.map_map, Function.comp_def, Af, Ah]; rw [P6]; rfl) hk
theorem qIM {l : List Int} {a b : Nat} : Av (Zm l a b) = ((Av l).set a [tI (l.getD b 0)]).set b [tI (l.getD a 0)] := by
 show Ab tI _ = ((Ab tI l).set a _).set b _
 rw [J2, J2]; rfl
theorem ge1 {f : Int → T} {l : List Int} {i : Nat} (hi : i < l.length) : (Ab f l)[i]?.getD [] = [f (l.getD i 0)] := by
 have hget := Bv (f := f) 0 hi
 have hgg : l[i]?.getD 0 = l.getD i 0 := by simp [List.getD_eq_getElem?_getD]
 rw [hgg] at hget
 exact hget
theorem qBY {Q : AX → St → Prop} (ty n : Nat) (cap : Option Nat) (hn : n ≤ 1000000000) (f : FuncId) (cs : List T) (cmp : Int → Int → Int) (i : Nat) (hi : i < n) (R : List Int)
  (h0 : ∀ j : Int, Q (.exit 2) ⟨[(0, .ls 1000000 0 n cap), (1, .t (tI 0)), (2, .t (tI n)), (3, .t (.fn f cs)), (8, .t (tI i)), (9, .t (tI j)), (34, .t (tB false))], [(1000000, .sl ty 1 (Av R))]⟩) :
  ∀ (j : Nat) (l : List Int), j ≤ i → l.length = n → (∀ x ∈ l, ∀ y ∈ l, A3 Tryz.prog Γ f (tI x :: tI y :: cs) (tI (cmp x y))) → qA3 (fun a b => decide (cmp a b < 0)) j l = R →
  run Tryz.prog Γ C2 Q ⟨[(0, .ls 1000000 0 n cap), (1, .t (tI 0)), (2, .t (tI n)), (3, .t (.fn f cs)), (8, .t (tI i)), (9, .t (tI j))], [(1000000, .sl ty 1 (Av l))]⟩
 | 0, l, hj, hl, hc, hR => by
  refine Em fun K hK => ?_
  simp only [qA3] at hR
  subst hR
  simp
  exact h0 0
 | j + 1, l, hj, hl, hc, hR => by
  refine Em fun K hK => ?_
  simp only [qA3] at hR
  have la : j < l.length := by omega
  have lb : j + 1 < l.length := by omega
  have e1 := ge1 (f := tI) la
  have e2 := ge1 (f := tI) lb
  have m1 : l.getD j 0 ∈ l := by rw [Cj la]; exact List.getElem_mem la
  have m2 : l.getD (j + 1) 0 ∈ l := by rw [Cj lb]; exact List.getElem_mem lb
  have hcc := hc _ m2 _ m1
  have hs := qIM (l := l) (a := j + 1) (b := j)
  have hperm : (Zm l (j + 1) j).Perm l := q9x lb la
  have hpl := q7h (l := l) (a := j + 1) (b := j)
  have hcs : ∀ x ∈ Zm l (j + 1) j, ∀ y ∈ Zm l (j + 1) j, A3 Tryz.prog Γ f (tI x :: tI y :: cs) (tI (cmp x y)) := fun x hx y hy => hc x (hperm.mem_iff.1 hx) y (hperm.mem_iff.1 hy)
  have ih := qBY ty n cap hn f cs cmp i hi R h0 j (Zm l (j + 1) j) (by omega) (by rw [hpl]; exact hl) hcs
  generalize Zm l (j + 1) j = l' at *
  generalize l.getD j 0 = va at *
  generalize l.getD (j + 1) 0 = vb at *
  have hj1 : (0 : Int) < (j : Int) + 1 := by omega
  have hj2 : ((j : Int) + 1).toNat = j + 1 := by omega
  have hj3 : (j : Int) + 1 < n := by omega
  have hj4 : (j : Int) < n := by omega
  have hj5 : (j : Int) + 1 - 1 = j := by omega
  have lan : j < n := by omega
  have lbn : j + 1 < n := by omega
  simp (disch := omega) [hj1, hj2, hj3, hj4, hj5, lan, lbn, A0, A6, hl, e1, e2, A4]
  refine ⟨by omega, qDU hcc ?_⟩
  by_cases h : cmp vb va < 0
  ·rw [if_pos (by simpa using h)] at hR
   have ih := ih hR
   rw [hs] at ih
   simp (disch := omega) [h, hj1, hj2, hj3, hj4, hj5, lan, lbn, A0, A6, hl, e1, e2, A4]
   refine ⟨by omega, ?_⟩
   rw [hK]
   exact_mod_cast ih
  ·rw [if_neg (by simpa using h)] at hR
   subst hR
   simp (disch := omega) [h]
   exact_mod_cast h0 (j + 1)
theorem qDV {Q : AX → St → Prop} (ty n : Nat) (cap : Option Nat) (hn : n ≤ 1000000000) (f : FuncId) (cs : List T) (cmp : Int → Int → Int) (R : List Int)
  (h0 : ∀ i : Int, Q (.exit 0) ⟨[(0, .ls 1000000 0 n cap), (1, .t (tI 0)), (2, .t (tI n)), (3, .t (.fn f cs)), (8, .t (tI i)), (14, .t (tB false))], [(1000000, .sl ty 1 (Av R))]⟩) :
  ∀ (k i : Nat) (l : List Int), 1 ≤ i → i + k = max 1 n → l.length = n → (∀ x ∈ l, ∀ y ∈ l, A3 Tryz.prog Γ f (tI x :: tI y :: cs) (tI (cmp x y))) → q3H (fun a b => decide (cmp a b < 0)) k i l = R →
  run Tryz.prog Γ C3 Q ⟨[(0, .ls 1000000 0 n cap), (1, .t (tI 0)), (2, .t (tI n)), (3, .t (.fn f cs)), (8, .t (tI i))], [(1000000, .sl ty 1 (Av l))]⟩
 | 0, i, l, h1, h, hl, hc, hR => by
  refine En fun K hK => ?_
  simp only [q3H] at hR
  subst hR
  have h2 : ¬ (i : Int) < n := by omega
  have h2' : ¬ i < n := by omega
  simp [h2, h2']
  exact h0 _
 | k + 1, i, l, h1, h, hl, hc, hR => by
  refine En fun K hK => ?_
  simp only [q3H] at hR
  have h2 : (i : Int) < n := by omega
  have h2' : i < n := by omega
  have hperm := q4A (lt := fun a b => decide (cmp a b < 0)) (j := i) (l := l) (by omega)
  have ih := qDV ty n cap hn f cs cmp R h0 k (i + 1) (qA3 (fun a b => decide (cmp a b < 0)) i l) (by omega) (by omega) (by rw [hperm.length_eq]; exact hl) (fun x hx y hy => hc x (hperm.mem_iff.1 hx) y (hperm.mem_iff.1 hy)) hR
  have hlp := fun Q h0 => qBY (Γ := Γ) (Q := Q) ty n cap hn f cs cmp i h2' _ h0 i l (Nat.le_refl _) hl hc rfl
  simp (disch := omega) [h2, h2', A4]
  refine hlp _ fun j => ?_
  simp (disch := omega) [A4]
  rw [hK]
  exact_mod_cast ih
theorem qDW (ty n : Nat) (cap : Option Nat) (hn : n ≤ 1000000000) (f : FuncId) (cs : List T) (cmp : Int → Int → Int) (l : List Int) (hl : l.length = n) (hc : ∀ x ∈ l, ∀ y ∈ l, A3 Tryz.prog Γ f (tI x :: tI y :: cs) (tI (cmp x y))) :
  Eu Tryz.prog Γ 145 [(1000000, .sl ty 1 (Av l))] [.ls 1000000 0 n cap, .t (tI 0), .t (tI n), .t (.fn f cs)] (.t (.tup [])) [(1000000, .sl ty 1 (Av (q3H (fun a b => decide (cmp a b < 0)) (n - 1) 1 l)))] := by
 refine Gu Nr rfl ?_
 have hlp := fun Q h0 => qDV (Γ := Γ) (Q := Q) ty n cap hn f cs cmp _ h0 (n - 1) 1 l (by omega) (by omega) hl hc rfl
 simp (disch := omega) [G6, A4]
 refine hlp _ fun i => ?_
 simp [G7]
theorem qBZ {lt : Int → Int → Bool} : ∀ {f i : Nat} {l : List Int}, i + f ≤ l.length ∨ f = 0 → (q3H lt f i l).Perm l
 | 0, i, l, _ => List.Perm.refl l
 | f + 1, i, l, h => by
  simp only [q3H]
  have hp := q4A (lt := lt) (j := i) (l := l) (by omega)
  exact (qBZ (by rw [hp.length_eq]; omega)).trans hp
theorem qDX {lt : Int → Int → Bool} {l : List Int} {n : Nat} (h : l.length = n) : (q3H lt (n - 1) 1 l).length = l.length := (qBZ (by omega)).length_eq
theorem qIN (ty n : Nat) (cap : Option Nat) (hn : n ≤ 19) (f : FuncId) (cs : List T) (cmp : Int → Int → Int) (l : List Int) (hl : l.length = n) (hc : ∀ x ∈ l, ∀ y ∈ l, A3 Tryz.prog Γ f (tI x :: tI y :: cs) (tI (cmp x y))) :
  Eu Tryz.prog Γ 126 [(1000000, .sl ty 1 (Av l))] [.ls 1000000 0 n cap, .t (tI n), .t (.fn f cs)] (.t (.tup [])) [(1000000, .sl ty 1 (Av (q3H (fun a b => decide (cmp a b < 0)) (n - 1) 1 l)))] := by
 refine Gu Vk rfl ?_
 have hi := qDW (Γ := Γ) ty n cap (by omega) f cs cmp l hl hc
 simp (disch := omega) [Jp, A4]
 have hR := qDX (lt := fun a b => decide (cmp a b < 0)) hl
 generalize q3H (fun a b => decide (cmp a b < 0)) (n - 1) 1 l = R at *
 refine Qu fun K hK => ?_
 have h1 : ¬ (20 : Int) ≤ n := by omega
 have h2 : ¬ 20 ≤ n := by omega
 have h3 : ¬ (20 : Int) < n := by omega
 have h4 : ¬ 20 < n := by omega
 simp [h1, h2]
 refine ⟨_, _, hi, ?_⟩
 simp [A0, hR]
 refine Qv fun K hK => ?_
 simp [h3, h4, Jq]
theorem qLz (ty n : Nat) (cap : Option Nat) (hn : n ≤ 19) (f : FuncId) (cs : List T) (cmp : Int → Int → Int) (l : List Int) (hl : l.length = n) (hc : ∀ x ∈ l, ∀ y ∈ l, A3 Tryz.prog Γ f (tI x :: tI y :: cs) (tI (cmp x y))) :
  Eu Tryz.prog Γ 90 [(1000000, .sl ty 1 (Av l))] [.ls 1000000 0 n cap, .t (.fn f cs)] (.t (.tup [])) [(1000000, .sl ty 1 (Av (q3H (fun a b => decide (cmp a b < 0)) (n - 1) 1 l)))] := by
 refine Gu Up rfl ?_
 have hi := qIN (Γ := Γ) ty n cap hn f cs cmp l hl hc
 have hR := qDX (lt := fun a b => decide (cmp a b < 0)) hl
 generalize q3H (fun a b => decide (cmp a b < 0)) (n - 1) 1 l = R at *
 simp (disch := omega) [J7, A4]
 refine ⟨_, _, hi, ?_⟩
 simp [J8, A0, hR]
theorem qDY (n : Int) : A3 Tryz.prog Γ 127 [tI n] (tB false) := by
 refine A7 q6w rfl ?_
 simp [q1A, q1B, As]
def qEn (a b : Int) : Int := if a < b then -1 else if b < a then 1 else 0
theorem qIO (a b : Int) : A3 Tryz.prog Γ 92 [tI a, tI b] (tI (qEn a b)) := by
 refine A7 q4N rfl ?_
 simp [Yb]
 refine A1 (qDY a) rfl ?_
 simp
 refine A1 (qDY b) rfl ?_
 by_cases h : a < b
 ·simp [h, Oh, As, qEn]
 ·by_cases h1 : b < a <;> simp [h, h1, Oh, As, qEn]
def qJy (c : B5) : T := .sl (Av (Og c).2.out) none none
theorem qDZ (c : B5) (h : Gq c = 0) (a b : Int) (ha : 0 ≤ a ∧ a < c.nodes.l.length) (hb : 0 ≤ b ∧ b < c.nodes.l.length) : A3 Tryz.prog Γ 91 [tI a, tI b, .ip [qJy c] 0] (tI (qEn (Rj c a.toNat) (Rj c b.toNat))) := by
 refine A7 q3R rfl ?_
 have hl := (qLy h).1
 have e1 := ge1 (f := tI) (l := (Og c).2.out) (i := a.toNat) (by omega)
 have e2 := ge1 (f := tI) (l := (Og c).2.out) (i := b.toNat) (by omega)
 unfold Rj qJy
 generalize (Og c).2.out.getD a.toNat 0 = va at *
 generalize (Og c).2.out.getD b.toNat 0 = vb at *
 simp (disch := omega) [W0, A0, A6, hl, e1, e2, ha, hb]
 refine A1 (qIO _ _) rfl ?_
 simp [W1, As]
theorem qA6 {Q : AX → St → Prop} (n : Nat) (hn : n ≤ 1000000000) (a4 : T)
  (h0 : Q (.exit 0) ⟨[(4, .t a4), (6, .ls 19 0 n none), (21, .t (tI n)), (22, .t (tI n)), (23, .t (tB false))], [(19, .sl 3 1 (Av (rng n)))]⟩) : ∀ (k i : Nat), k + i = n →
  run Tryz.prog Γ Jr Q ⟨[(4, .t a4), (6, .ls 19 0 n none), (21, .t (tI n)), (22, .t (tI i))], [(19, .sl 3 1 (Av (rng i ++ List.replicate (n - i) 0)))]⟩
 | 0, i, h => by
  refine Rk fun K hK => ?_
  have h2 : i = n := by omega
  subst h2
  simp
  simpa using h0
 | k + 1, i, h => by
  refine Rk fun K hK => ?_
  have ih := qA6 n hn a4 h0 k (i + 1) (by omega)
  have h2 : i < n := by omega
  have hs : (Av (rng i ++ List.replicate (n - i) 0)).set i [tI i] = Av (rng (i + 1) ++ List.replicate (n - (i + 1)) 0) := by
   show (Ab tI _).set i [tI i] = Ab tI _
   rw [J2]
   congr 1
   have e : n - i = (n - (i + 1)) + 1 := by omega
   rw [e, List.replicate_succ, List.set_append, if_neg (by rw [X6]; omega), X6, Nat.sub_self]
   simp [rng, List.range_succ]
  have hlen : (Av (rng i ++ List.replicate (n - i) 0)).length = n := by rw [A0]; simp [X6]; omega
  generalize Av (rng i ++ List.replicate (n - i) 0) = E at *
  simp (disch := omega) [h2, hlen, hs, A4]
  rw [hK]
  exact_mod_cast ih
theorem qEo (hΓ : GOk Γ) (c : B5) (hc : COk c) (hn : c.nodes.l.length ≤ 19) :
  A3 Tryz.prog Γ 38 [.agg (tC c)] (.tup [if Gq c = 0 then .sl (Av (Vj c)) none none else .sl [] (some 0) (some true), tI (Gq c)]) := by
 refine A7 q5o rfl ?_
 have e1 := q8L hΓ c hc.toCirOk hc.asc
 simp [Zu, tC, A5, A8, Ad, B1]
 refine A1 e1 rfl ?_
 by_cases h : Gq c = 0
 case neg => simp [h, Qc, St.freeze, B7.closed, Bi, frz1, frz0, E1, del, Ah]
 have hlp := fun Q h0 => qA6 (Γ := Γ) (Q := Q) c.nodes.l.length (by omega) (.ip [qJy c] 0) h0 c.nodes.l.length 0 (by omega)
 have hz : List.replicate c.nodes.l.length [T.v (Value.int .i64 0)] = Av (rng 0 ++ List.replicate (c.nodes.l.length - 0) 0) := by simp [Ab, rng]
 have hsort := qLz (Γ := Γ) 3 c.nodes.l.length none hn 91 [.ip [qJy c] 0] (fun a b => qEn (Rj c a.toNat) (Rj c b.toNat)) (rng c.nodes.l.length) X6 (fun x hx y hy => qDZ c h x y (qCJ.1 hx) (qCJ.1 hy))
 have hlt : (fun a b => decide (qEn (Rj c a.toNat) (Rj c b.toNat) < 0)) = qFq c := by
  funext a b
  simp only [qFq, qEn]
  by_cases h1 : Rj c a.toNat < Rj c b.toNat
  ·simp [h1]
  ·by_cases h2 : Rj c b.toNat < Rj c a.toNat <;> simp [h1, h2]
 rw [hlt] at hsort
 have ho : q3H (qFq c) (c.nodes.l.length - 1) 1 (rng c.nodes.l.length) = Vj c := rfl
 rw [ho] at hsort
 have holen : (Vj c).length = c.nodes.l.length := by rw [(q7p c).1.length_eq, X6]
 simp [h, A9, A4, St.freeze, B7.closed, Bi, frz1, frz0, E1, del, Ah]
 refine ⟨by omega, ?_⟩
 rw [hz]
 refine hlp _ ?_
 simp
 refine ⟨_, _, hsort, ?_⟩
 have htk : (Av (Vj c)).take c.nodes.l.length = Av (Vj c) := List.take_of_length_le (by rw [A0, holen]; exact Nat.le_refl _)
 simp [A0, X6, holen, Qc, Ah, htk, h]
end Go.Lg
namespace Go.Lg
open Go
section
variable {P : Program} {Γ : Tables} {Q : AX → St → Prop} {s : St}
/- probecard/sims.fits (function 49) -/
abbrev q20 : IC := (.seq (.reg [od 2 (.box true (tm 0)), od 3 (.box true (tm 1)), od 4 (.mv (ki 0))] [kp [2, 3] []]) (.seq (.block 0 (.seq (.reg [od 6 (fa 2 2), od 7 (ld 1 6), od 8 (le 0 7), od 9 (.bin .gtr (tm 8) (ki 0)), om 10 9, oF 11 (lG 4 2) 10,
 oF 12 (.bsl true 71 1 [(ku 15)]) 10, oF 13 (.call 66 [(tm 11), (tm 12)]) 10, oF 14 (le 0 13) 10, oF 15 (.bin .gtr (tm 14) (ki 0)) 10, od 16 (.pick (tm 10) kT (tm 15)), om 5 16] [kp [2, 3, 5] []]) (.cond (tm 5) (.seq (.reg [od 4
 (.mv (ki 7))] [kp [4] []]) .ret) (.seq (.reg [od 18 (fa 0 3), od 19 (ld 1 18), od 20 (le 0 19), od 21 (lG 4 2), od 22 (.call 77 [(tm 21)]), od 23 (le 0 22), od 24 (.bin .neq (tm 20) (tm 23)), om 25 24, oF 26 (fa 1 3) 25, oF 27 (ld
 1 26) 25, oF 28 (le 0 27) 25, oF 29 (lG 4 2) 25, oF 30 (.call 19 [(tm 29)]) 25, oF 31 (le 0 30) 25, oF 32 (.bin .neq (tm 28) (tm 31)) 25, od 33 (.pick (tm 25) kT (tm 32)), om 17 33] [kp [3, 17] []]) (.cond (tm 17) (.seq (.reg [od 4
 (.mv (ki 8))] [kp [4] []]) .ret) (.seq (.reg [od 35 (fa 0 3), od 36 (ld 1 35), od 37 (.call 80 [(tm 36), (.func 106)]), om 38 37, oF 39 (fa 1 3) 38, oF 40 (ld 1 39) 38, oF 41 (.call 80 [(tm 40), (.func 106)]) 38, od 42 (.pick (tm
 38) kT (tm 41)), om 34 42] [kp [34] []]) (.cond (tm 34) (.seq (.reg [od 4 (.mv (ki 1))] [kp [4] []]) .ret) .skip))))))) (.seq (.reg [od 4 (.mv (ki 0))] [kp [4] []]) .ret)))
def H5 : List RV := [.tmp 4]
/- probecard/sims.above (function 106) -/
abbrev q4q : IC := (.seq (.reg [od 2 (.mv kF)] [kp [0] []]) (.seq (.reg [om 3 0, od 4 (.bin .gtr (tm 3) (ku 3)), om 2 4] [kp [2] []]) .ret))
def q4r : List RV := [.tmp 2]
/- (probecard/sims.run).load (function 50) -/
abbrev Js : IC := (.seq (.reg [od 2 (.box true (tm 0)), od 4 (.mv (ku 0))] [kp [1, 2] []]) (.seq (.seq (.reg [om 5 1, od 6 (.bin .lss (tm 5) (ki 0)), om 7 6, oF 8 (.mv (tm 1)) 7, oF 9 (fa 4 2) 7, oF 10 (ld 1 9) 7, oF 11 (le 0 10) 7, oF 12 (.bin .geq
 (tm 8) (tm 11)) 7, od 13 (.pick (tm 7) kT (tm 12))] [kp [1, 2, 13] []]) (.cond (tm 13) (.seq (.reg [od 4 (.mv (ku 2))] [kp [4] []]) .ret) .skip)) (.seq (.reg [od 14 (fa 4 2), od 15 (ld 1 14), om 16 1, od 17 (ia 1 15 16), od 18 (ld
 1 17), od 19 (.call 109 [(tm 18)]), om 4 19] [kp [4] []]) .ret)))
def Jt : List RV := [.tmp 4]
/- (probecard/sims.run).observe (function 51) -/
abbrev W2 : IC := .gh (.seq (.reg [od 15 (.bin .lss (tm 14) (tm 13))] [kp [1, 2, 3, 12, 13, 14, 15] [2, 3, 24, 55]]) (.seq (.cond (tm 15) .skip (.exit 0)) (.seq (.block 1 (.seq (.reg [od 16 (ia 1 12 14), od 17 (ld 1 16), om 5 17] [kp [1, 2, 3, 5,
 12, 13, 14] [2, 3, 24, 55]]) (.reg [od 18 (fa 0 3), od 19 (.ldR 3 1 false (tm 18)), od 20 (.ldT 5 true (tm 1)), om 21 5, od 22 (.call 107 [(tm 20), (tm 21)]), od 23 (.bsl true 61 1 [(tm 22)]), od 24 (.app false 61 1 (tm 19) (tm
 23)), od 25 (fa 0 3), on (.stR 3 1 (tm 25) (tm 24))] [kp [1, 2, 3, 12, 13, 14] [2, 3, 24, 55]]))) (.reg [od 26 (.bin .add (tm 14) (ki 1)), om 14 26] [kp [1, 2, 3, 12, 13, 14] [2, 3, 24, 55]])))) [kp [1, 2, 3, 12, 13, 14] [2, 3, 24,
 55]]
def Hk : IC := .loop W2
abbrev W3 : IC := .gh (.seq (.reg [od 32 (.bin .lss (tm 31) (tm 30))] [kp [1, 2, 3, 29, 30, 31, 32] [2, 3, 24, 55]]) (.seq (.cond (tm 32) .skip (.exit 2)) (.seq (.block 3 (.seq (.reg [od 33 (ia 1 29 31), od 34 (ld 1 33), om 7 34] [kp [1, 2, 3, 7,
 29, 30, 31] [2, 3, 24, 55]]) (.seq (.reg [od 8 (.mv (ku 2))] [kp [1, 2, 3, 7, 8, 29, 30, 31] [2, 3, 24, 55]]) (.seq (.seq (.reg [od 35 (fa 0 1), od 36 (fa 0 35), od 37 (ld 1 36), om 38 7, od 39 (ia 4 37 38), od 40 (fa 1 39), od 41
 (ld 1 40), om 9 41] [kp [1, 2, 3, 8, 9, 29, 30, 31] [2, 3, 24, 55]]) (.seq (.reg [om 42 9, od 43 (le 0 42), od 44 (.bin .eql (tm 43) (ki 1))] [kp [1, 2, 3, 8, 9, 29, 30, 31, 44] [2, 3, 24, 55]]) (.cond (tm 44) (.reg [od 45 (lG 5
 1), om 46 9, od 47 (.iadr 1 (tm 46) (ki 0)), od 48 (ld 1 47), od 49 (.call 107 [(tm 45), (tm 48)]), od 50 (.call 94 [(tm 49)]), om 8 50] [kp [1, 2, 3, 8, 29, 30, 31] [2, 3, 24, 55]]) .skip))) (.reg [od 51 (fa 1 3), od 52 (ld 1 51),
 om 53 8, od 54 (.bsl true 61 1 [(tm 53)]), od 55 (.app false 61 1 (tm 52) (tm 54)), od 56 (fa 1 3), on (.store 1 (tm 56) (tm 55))] [kp [1, 2, 3, 29, 30, 31] [2, 3, 24, 55]]))))) (.reg [od 57 (.bin .add (tm 31) (ki 1)), om 31 57]
 [kp [1, 2, 3, 29, 30, 31] [2, 3, 24, 55]])))) [kp [1, 2, 3, 29, 30, 31] [2, 3, 24, 55]]
def Hl : IC := .loop W3
abbrev W4 : IC := (.seq (.reg [od 1 (.box true (tm 0)), od 2 (.alloc false [(.slice none 0 0), (.slice none 0 0)])] [kp [1, 2] [2, 24, 55]]) (.seq (.reg [od 3 (.alloc false [(.slice none 0 0), (.slice none 0 0)])] [.nlb 3 0 24 61 1, .nlb 3 1 55 61
 1, kp [1, 2, 3] [2, 3, 24, 55]]) (.seq (.seq (.reg [od 10 (fa 0 1), od 11 (fa 3 10), od 12 (ld 1 11), od 13 (le 0 12), od 14 (.mv (ki 0))] [kp [1, 2, 3, 12, 13, 14] [2, 3, 24, 55]]) (.block 0 Hk)) (.seq (.seq (.reg
 [od 27 (fa 0 1), od 28 (lG 4 27), od 29 (.call 19 [(tm 28)]), od 30 (le 0 29), od 31 (.mv (ki 0))] [kp [1, 2, 3, 29, 30, 31] [2, 3, 24, 55]]) (.block 2 Hl)) (.seq (.reg [od 58 (fa 0 3), od 59 (.ldR 3 1 false (tm
 58)), od 60 (.rcall 43 [(tm 59)] [24]), od 61 (fa 1 3), od 62 (.ldR 3 1 false (tm 61)), od 63 (.rcall 43 [(tm 62)] [55]), od 64 (.build [(1, (tm 60)), (1, (tm 63))]), on (.stR 2 2 (tm 2) (tm 64))] [kp [2] [2, 24, 55]]) .ret)))))
theorem Pe (h : ∀ K : St → Prop, K = run P Γ Hk Q → run P Γ W2 (Am K Q) s) : run P Γ Hk Q s := Ae h
theorem Pg (h : ∀ K : St → Prop, K = run P Γ Hl Q → run P Γ W3 (Am K Q) s) : run P Γ Hl Q s := Ae h
def W5 : List RV := [.cell 2 2 true]
/- probecard/sims.Observe (function 42) -/
abbrev q2I : IC := (.seq (.reg [od 2 (.box true (tm 0)), od 4 (.alloc false [(.slice none 0 0), (.slice none 0 0)])] [kp [1, 2, 4] [4]]) (.seq (.reg [od 5 (lG 4 2), om 6 1, od 7 (.build [(4, (tm 5)), (1, (tm 6))]), od 8 (.call 51 [(tm 7)]), on
 (.store 2 (tm 4) (tm 8))] [kp [4] [4]]) .ret))
def q2J : List RV := [.cell 4 2 true]
/- probecard/netlists.Inputs (function 77) -/
abbrev Yc : IC := (.seq (.reg [od 1 (.box true (tm 0)), od 2 (.mv kN)] [kp [1] []]) (.seq (.reg [od 3 (lG 4 1), od 4 (.bsl true 71 1 [(ku 0)]), od 5 (.call 66 [(tm 3), (tm 4)]), om 2 5] [kp [2] []]) .ret))
def Yd : List RV := [.tmp 2]
/- slices.Clip[[]probecard/api.Value,probecard/api.Value] (function 43) -/
abbrev H9 : IC := (.seq (.reg [od 2 (.mv kN)] [kp [0] [1000000]]) (.seq (.reg [om 3 0, om 4 0, od 5 (le 0 4), om 6 0, od 7 (le 0 6), od 8 (.slice 1 (tm 3) none (some (tm 5)) (some (tm 7))), om 2 8] [kp [2] [1000000]]) .ret))
def Ha : List RV := [.tmp 2]
end
end Go.Lg
namespace Go.Lg
open Go Go.Proofs
theorem qAz : Ap Tryz.prog 49 q20 43 2 H5 = true := by kernel_rfl
theorem qA7 : Ap Tryz.prog 106 q4q 5 1 q4r = true := by kernel_rfl
theorem q5p : Ap Tryz.prog 107 Js 20 2 Jt = true := by kernel_rfl
theorem q3S : Ap Tryz.prog 51 W4 65 1 W5 = true := by kernel_rfl
theorem q7q : Ap Tryz.prog 42 q2I 9 2 q2J = true := by kernel_rfl
theorem q4O : Ap Tryz.prog 77 Yc 6 1 Yd = true := by kernel_rfl
theorem M7 : Ap Tryz.prog 43 H9 9 1 Ha = true := by kernel_rfl
end Go.Lg
namespace Go.Lg
open Go Go.Proofs
variable {Γ : Tables}
theorem Ur (c : B5) (hc : COk c) : Ac Tryz.prog Γ 77 [.agg (tC c)] (.sl (Av (Bz c)) (some (Bz c).length) none) := by
 refine Ar q4O rfl ?_
 simp [Yc, tC, A5, A8, Ad, B1]
 refine A1 (qCF c hc 0) rfl ?_
 simp [Yd, Bz]
theorem qA8 (es : List (List T)) (cap : Option Nat) (nl : Option Bool) (hw : Ce 1 es) : Ac Tryz.prog Γ 43 [.sl es cap nl] (.sl es (some es.length) nl) := by
 refine Ar M7 rfl ?_
 simp [H9, Ha, ret, hw]
def q0e (v : Int) : Bool := decide (3 < v)
theorem qA9 (v : Int) : A3 Tryz.prog Γ 106 [tK v] (tB (q0e v)) := by
 refine A7 qA7 rfl ?_
 simp [q4q, q4r, As, q0e]
structure Pat where
 inn : Sl Int
 st : Sl Int
def tP (p : Pat) : List T := [tV p.inn, tV p.st]
theorem Oi (c : B5) : (Bz c).length ≤ c.nodes.l.length := X3 _ _ _
theorem Di (c : B5) : (Aj c).length ≤ c.nodes.l.length := X3 _ _ _
def q6x (c : B5) (p : Pat) : Int :=
 if 0 < c.mems.l.length ∨ 0 < (mems c).length then 7 else
 if p.inn.l.length ≠ (Bz c).length ∨ p.st.l.length ≠ (Aj c).length then 8 else
 if p.inn.l.any q0e = true ∨ p.st.l.any q0e = true then 1 else 0
theorem qGz (c : B5) (hc : COk c) (p : Pat) (hp : p.inn.l.length ≤ 1000000000 ∧ p.st.l.length ≤ 1000000000) : A3 Tryz.prog Γ 49 [.agg (tC c), .agg (tP p)] (tI (q6x c p)) := by
 refine A7 qAz rfl ?_
 have e1 := qCF (Γ := Γ) c hc 15
 have e2 := Ur (Γ := Γ) c hc
 have e3 := Fo (Γ := Γ) c hc
 have e4 := Dy (Γ := Γ) p.inn.l p.inn.cap p.inn.nl 106 [] q0e (fun x _ => qA9 x) hp.1
 have e5 := Dy (Γ := Γ) p.st.l p.st.cap p.st.nl 106 [] q0e (fun x _ => qA9 x) hp.2
 have hm : Qs [15] c.nodes.l 0 = mems c := rfl
 rw [hm] at e1
 generalize hR : q6x c p = R
 unfold q6x at hR
 by_cases h1 : 0 < c.mems.l.length
 ·rw [if_pos (.inl h1)] at hR
  subst hR
  have h1' : ¬ c.mems.l = [] := fun e => by rw [e] at h1; simp at h1
  simp [q20, tC, A5, A8, Ad, B1, tP, tV, A9, h1, h1', H5, As]
 have h1' : c.mems.l = [] := List.eq_nil_of_length_eq_zero (by omega)
 simp [q20, tC, A5, A8, Ad, B1, tP, tV, A9, h1, h1']
 refine A1 e1 (by simp [Ah, Af, Ab, tC, A5, A8, Ad, B1, h1']) ?_
 by_cases h2 : 0 < (mems c).length
 ·rw [if_pos (.inr h2)] at hR
  subst hR
  have h2' : ¬ mems c = [] := fun e => by rw [e] at h2; simp at h2
  simp [A0, h2, h2', H5, As]
 rw [if_neg (by omega)] at hR
 have h2' : mems c = [] := List.eq_nil_of_length_eq_zero (by omega)
 simp [A0, h2']
 have tt : ∀ {x : T}, x = T.agg (tC c) → Af [some x] = some [T.agg (tC c)] := fun h => by rw [h]; rfl
 have tc : T.agg (tC c) = T.agg [T.sl (An Dn c.nodes.l) c.nodes.cap c.nodes.nl, T.sl (Ab tS c.names.l) c.names.cap c.names.nl, T.sl (An tMm []) c.mems.cap c.mems.nl, T.sl (Av c.outs.l) c.outs.cap c.outs.nl] := by rw [← h1']; rfl
 refine Aa e2 (by rw [tc]; rfl) ?_
 simp [A0]
 by_cases h3 : p.inn.l.length = (Bz c).length
 case neg =>
  have h3' : ¬ (p.inn.l.length : Int) = (Bz c).length := by omega
  rw [if_pos (.inl h3)] at hR
  subst hR
  simp [h3, h3', H5, As, Bg]
 simp [h3]
 refine Aa e3 (by rw [tc]; rfl) ?_
 simp [A0]
 by_cases h4 : p.st.l.length = (Aj c).length
 case neg =>
  have h4' : ¬ (p.st.l.length : Int) = (Aj c).length := by omega
  rw [if_pos (.inr h4)] at hR
  subst hR
  simp [h4, h4', H5, As, Bg]
 rw [if_neg (by omega)] at hR
 simp [h4, Bg]
 refine A1 e4 rfl ?_
 by_cases h5 : p.inn.l.any q0e = true
 ·rw [if_pos (.inl h5)] at hR
  subst hR
  simp only [h5]
  simp [H5, As]
 simp only [Bool.not_eq_true] at h5
 simp only [h5]
 simp
 refine A1 e5 rfl ?_
 by_cases h6 : p.st.l.any q0e = true
 ·rw [if_pos (.inr h6)] at hR
  subst hR
  simp only [h6]
  simp [H5, As]
 rw [if_neg (by simp only [h5]; simp only [Bool.not_eq_true] at h6; simp [h6])] at hR
 subst hR
 simp only [Bool.not_eq_true] at h6
 simp only [h6]
 simp [H5, As]
def Z5 (c : B5) (id n : Nat) (cap : Option Nat) : List AV := [.t (A5 c.nodes), .t (A8 c.names), .t (Ad c.mems), .t (B1 c.outs), .ls id 0 n cap]
theorem qAA {ns vs l : List Int} {i : Nat} (h : i < ns.length) (hv : i < vs.length) : Hz (ns.drop i) (vs.drop i) l = Hz (ns.drop (i + 1)) (vs.drop (i + 1)) (l.set (ns.getD i 0).toNat (vs.getD i 0)) := by
 rw [List.drop_eq_getElem_cons h, List.drop_eq_getElem_cons hv]
 simp only [Hz]
 rw [Cj h, Cj hv]
@[simp] theorem qNm {s : Nat} {e : List T} : Ce s [e] = (e.length = s) := propext ⟨fun h => h e List.mem_cons_self, fun h x hx => by simp at hx; subst hx; exact h⟩
def N8 (c : B5) (nets : Sl Int) : List T := [A5 c.nodes, A8 c.names, Ad c.mems, B1 c.outs, tV nets]
def q0f (nets : List Int) (n : Int) : Int := if n < 0 ∨ (nets.length : Int) ≤ n then 2 else F2 (nets.getD n.toNat 0)
theorem qAB (c : B5) (nets : Sl Int) (n : Int) (hl : nets.l.length ≤ 1000000000) : A3 Tryz.prog Γ 107 [.agg (N8 c nets), tI n] (tK (q0f nets.l n)) := by
 refine A7 q5p rfl ?_
 generalize hR : q0f nets.l n = R
 unfold q0f at hR
 by_cases h1 : n < 0
 ·rw [if_pos (.inl h1)] at hR
  subst hR
  simp [Js, N8, A5, A8, Ad, B1, tV, h1, Jt, As]
 by_cases h2 : (nets.l.length : Int) ≤ n
 ·rw [if_pos (.inr h2)] at hR
  subst hR
  simp [Js, N8, A5, A8, Ad, B1, tV, h1, h2, A0, Jt, As]
 rw [if_neg (by omega)] at hR
 have h3 : n.toNat < nets.l.length := by omega
 have e := ge1 (f := tK) h3
 generalize nets.l.getD n.toNat 0 = v at *
 have h4 : n < nets.l.length := by omega
 simp (disch := omega) [Js, N8, A5, A8, Ad, B1, tV, h1, h2, h4, A0, A6, e]
 refine ⟨by omega, A1 (q5n v) rfl ?_⟩
 simp [Jt, As, hR]
def qAC (c : B5) (nets : List Int) (n : Int) : Int := if (Jm c n.toNat).length = 1 then P8 (q0f nets ((Jm c n.toNat).getD 0 0)) else 2
def Z6 (c : B5) (nets : List Int) : List Int := c.outs.l.map (q0f nets)
def Df (c : B5) (nets : List Int) : List Int := (Aj c).map (qAC c nets)
def q7r (o s : Nat) : List AV := [.ls 24 0 o none, .ls 55 0 s none]
def q4P (o s : List Int) : List (Nat × B7) := [(2, .bx [.t (.sl [] (some 0) (some true)), .t (.sl [] (some 0) (some true))]), (3, .bx (q7r o.length s.length)), (24, .sl 61 1 (Aq o)), (55, .sl 61 1 (Aq s))]
theorem Ph {l : List Int} {v : Int} : Aq l ++ [[tK v]] = Aq (l ++ [v]) := Bf
theorem Ci {l : List Int} : (Aq l).take l.length = Aq l := Ag
theorem qDa {Q : AX → St → Prop} (c : B5) (nets : Sl Int) (hl : nets.l.length ≤ 1000000000) (ho : c.outs.l.length ≤ 1000000000) (R : List Int)
  (h0 : Q (.exit 0) ⟨[(1, .t (.ip (N8 c nets) 0)), (2, .lp 2 0 0), (3, .lp 3 0 0), (12, .t (B1 c.outs)), (13, .t (tI c.outs.l.length)), (14, .t (tI c.outs.l.length)), (15, .t (tB false))], q4P R []⟩) :
  ∀ (k i : Nat) (out : List Int), k + i = c.outs.l.length → out.length = i → out ++ (c.outs.l.drop i).map (q0f nets.l) = R →
  run Tryz.prog Γ Hk Q ⟨[(1, .t (.ip (N8 c nets) 0)), (2, .lp 2 0 0), (3, .lp 3 0 0), (12, .t (B1 c.outs)), (13, .t (tI c.outs.l.length)), (14, .t (tI i))], q4P out []⟩
 | 0, i, out, h, hi, hR => by
  refine Pe fun K hK => ?_
  have h2 : i = c.outs.l.length := by omega
  rw [List.drop_of_length_le (by omega), List.map_nil, List.append_nil] at hR
  subst hR
  simp [q4P, q7r, h2]
  simpa [q4P, q7r] using h0
 | k + 1, i, out, h, hi, hR => by
  refine Pe fun K hK => ?_
  have h2 : i < c.outs.l.length := by omega
  rw [List.drop_eq_getElem_cons h2, List.map_cons] at hR
  have e := ge1 (f := tI) h2
  rw [Cj h2] at e
  generalize c.outs.l[i] = n at *
  have ih := qDa c nets hl ho R h0 k (i + 1) (out ++ [q0f nets.l n]) (by omega) (by simp [hi]) (by rw [← hR]; simp)
  have vs := Ph (l := out) (v := q0f nets.l n)
  have vt : (Aq out).take i = Aq out := by rw [← hi]; exact Ci
  have hv := qAB (Γ := Γ) c nets n hl
  simp (disch := omega) [q4P, q7r, h2, B1, A0, A6, e, hi, A4, N8, A5, A8, Ad, tV]
  refine A1 hv rfl ?_
  simp (disch := omega) [vt, vs, A0, A6, hi, A4]
  refine ⟨by omega, ?_⟩
  rw [hK]
  simpa [q4P, q7r, hi, N8, A5, A8, Ad, B1, tV] using ih
theorem qBa {Q : AX → St → Prop} (c : B5) (hc : COk c) (nets : Sl Int) (hl : nets.l.length ≤ 1000000000) (ns : List Int) (hns : ns.length ≤ 1000000000) (hin : ∀ n ∈ ns, 0 ≤ n ∧ n < c.nodes.l.length) (o R : List Int)
  (h0 : Q (.exit 2) ⟨[(1, .t (.ip (N8 c nets) 0)), (2, .lp 2 0 0), (3, .lp 3 0 0), (29, .t (.sl (Av ns) (some ns.length) none)), (30, .t (tI ns.length)), (31, .t (tI ns.length)), (32, .t (tB false))], q4P o R⟩) :
  ∀ (k i : Nat) (out : List Int), k + i = ns.length → out.length = i → out ++ (ns.drop i).map (qAC c nets.l) = R →
  run Tryz.prog Γ Hl Q ⟨[(1, .t (.ip (N8 c nets) 0)), (2, .lp 2 0 0), (3, .lp 3 0 0), (29, .t (.sl (Av ns) (some ns.length) none)), (30, .t (tI ns.length)), (31, .t (tI i))], q4P o out⟩
 | 0, i, out, h, hi, hR => by
  refine Pg fun K hK => ?_
  have h2 : i = ns.length := by omega
  rw [List.drop_of_length_le (by omega), List.map_nil, List.append_nil] at hR
  subst hR
  simp [q4P, q7r, h2]
  simpa [q4P, q7r] using h0
 | k + 1, i, out, h, hi, hR => by
  refine Pg fun K hK => ?_
  have h2 : i < ns.length := by omega
  rw [List.drop_eq_getElem_cons h2, List.map_cons] at hR
  have e := ge1 (f := tI) h2
  have hn := hin ns[i] (List.getElem_mem h2)
  rw [Cj h2] at e
  generalize ns[i] = n at *
  have ih := qBa c hc nets hl ns hns hin o R h0 k (i + 1) (out ++ [qAC c nets.l n]) (by omega) (by simp [hi]) (by rw [← hR]; simp)
  have vs := Ph (l := out) (v := qAC c nets.l n)
  have vt : (Aq out).take i = Aq out := by rw [← hi]; exact Ci
  have hnn : n.toNat < c.nodes.l.length := by omega
  have hget : (An Dn c.nodes.l)[n.toNat]?.getD [] = Dn (c.nodes.l.getD n.toNat Nd.d) := by
   rw [E3 Nd.d hnn]; simp [List.getD_eq_getElem?_getD]
  have hxi := hc.inn _ (List.getElem_mem hnn)
  have hgd : c.nodes.l.getD n.toNat Nd.d = c.nodes.l[n.toNat] := by simp [List.getD_eq_getElem?_getD, hnn]
  have hia : Jm c n.toNat = (c.nodes.l.getD n.toNat Nd.d).inn.l := rfl
  have hnl : qAC c nets.l n = if (Jm c n.toNat).length = 1 then P8 (q0f nets.l ((Jm c n.toNat).getD 0 0)) else 2 := rfl
  rw [← hgd] at hxi
  rw [hia] at hnl
  generalize c.nodes.l.getD n.toNat Nd.d = x at *
  generalize qAC c nets.l n = v at *
  obtain ⟨h3, h4⟩ := hn
  by_cases h1 : x.inn.l.length = 1
  ·rw [if_pos h1] at hnl
   have h10 : 0 < x.inn.l.length := by omega
   have e0 := ge1 (f := tI) h10
   have hv := qAB (Γ := Γ) c nets (x.inn.l.getD 0 0) hl
   generalize x.inn.l.getD 0 0 = m at *
   simp (disch := omega) [q4P, q7r, h2, B1, A0, A6, e, hi, A4, N8, A5, A8, Ad, tV, h3, h4, A9, Bd, hget, Dn, h1, e0, h10]
   refine A1 hv rfl ?_
   simp
   refine A1 (Ta _) rfl ?_
   rw [← hnl]
   simp (disch := omega) [vt, vs, A0, A6, hi, A4]
   refine ⟨by omega, ?_⟩
   rw [hK]
   simpa [q4P, q7r, hi, N8, A5, A8, Ad, B1, tV] using ih
  ·rw [if_neg h1] at hnl
   subst hnl
   have h1i : ¬ (x.inn.l.length : Int) = 1 := by omega
   simp (disch := omega) [q4P, q7r, h2, B1, A0, A6, e, hi, A4, N8, A5, A8, Ad, tV, h3, h4, A9, Bd, hget, Dn, h1, h1i, Bg, vt, vs]
   refine ⟨by omega, ?_⟩
   rw [hK]
   simpa [q4P, q7r, hi, N8, A5, A8, Ad, B1, tV] using ih
theorem qAD (ty : Nat) (es : List (List T)) (cap : Option Nat) (hw : Ce 1 es) : Eu Tryz.prog Γ 43 [(1000000, .sl ty 1 es)] [.ls 1000000 0 es.length cap] (.ls 1000000 0 es.length (some es.length)) [(1000000, .sl ty 1 es)] := by
 refine Gu M7 rfl ?_
 simp [H9, Ha, qGf, hw]
def tVs (l : List Int) : T := .sl (Aq l) (some l.length) none
theorem qCL (c : B5) (hc : COk c) (nets : Sl Int) (hl : nets.l.length ≤ 1000000000) : A3 Tryz.prog Γ 51 [.agg (N8 c nets)] (.agg [tVs (Z6 c nets.l), tVs (Df c nets.l)]) := by
 refine A7 q3S rfl ?_
 have hn := hc.nodes
 have ho := hc.outs
 have hs := Di c
 have g1 := fun Q h0 => qDa (Γ := Γ) (Q := Q) c nets hl ho (Z6 c nets.l) h0 c.outs.l.length 0 [] (by omega) rfl (by simp [Z6])
 have g2 := fun Q h0 => qBa (Γ := Γ) (Q := Q) c hc nets hl (Aj c) (by omega) (fun x hx => ⟨(q1w x hx).1, (q1w x hx).2.1⟩) (Z6 c nets.l) (Df c nets.l) h0 (Aj c).length 0 [] (by omega) rfl (by simp [Df])
 have l1 : (Z6 c nets.l).length = c.outs.l.length := by simp [Z6]
 have l2 : (Df c nets.l).length = (Aj c).length := by simp [Df]
 have t1 := Ci (l := Z6 c nets.l)
 have t2 := Ci (l := Df c nets.l)
 generalize Z6 c nets.l = O at *
 generalize Df c nets.l = S at *
 simp [W4, N8, A5, A8, Ad, B1, tV, A0]
 refine g1 _ ?_
 simp [q4P, q7r, N8, A5, A8, Ad, B1, tV]
 refine Aa (Fo c hc) rfl ?_
 simp [A0]
 refine g2 _ ?_
 have hc1 := qAD (Γ := Γ) 61 (Aq O) none A6
 have hc2 := qAD (Γ := Γ) 61 (Aq S) none A6
 simp only [A0] at hc1 hc2
 simp [q4P, q7r]
 refine ⟨_, hc1, ?_⟩
 simp
 refine ⟨_, hc2, ?_⟩
 simp [W5, tVs, A0, As, Ah, t1, t2]
def nd (c : B5) (n : Int) : Nd := c.nodes.l.getD n.toNat Nd.d
theorem qAE {c : B5} {n : Int} (h0 : 0 ≤ n) (h : n < c.nodes.l.length) : (An Dn c.nodes.l)[n.toNat]?.getD [] = Dn (nd c n) := by
 rw [E3 Nd.d (by omega)]; simp [nd, List.getD_eq_getElem?_getD]
theorem qIP {c : B5} {n : Int} (h0 : 0 ≤ n) (h : n < c.nodes.l.length) : nd c n ∈ c.nodes.l := by
 have hi : n.toNat < c.nodes.l.length := by omega
 have : nd c n = c.nodes.l[n.toNat] := by simp [nd, List.getD_eq_getElem?_getD, hi]
 rw [this]; exact List.getElem_mem hi
def F7 : AV := .t (.sl [] (some 0) (some true))
structure ROk (c : B5) : Prop where
 ok : COk c
 inn : ∀ x ∈ c.nodes.l, x.inn.l.length ≤ 16 ∧ ∀ k ∈ x.inn.l, 0 ≤ k ∧ k < c.nodes.l.length
theorem qFt {c : B5} {nets : List Int} {n : Int} (h : ∀ v ∈ nets, V4 v) : ∀ v ∈ q4m c nets n, V4 v := by
 intro v hv
 unfold q4m at hv
 split at hv
 ·rcases List.mem_or_eq_of_mem_set hv with hv | rfl
  ·exact h v hv
  ·refine qJv fun u hu => ?_
   obtain ⟨q, _, rfl⟩ := List.mem_map.1 hu
   exact q1v h _
 ·exact h v hv
def qEp (c : B5) (p : Pat) : Int := if Gq c ≠ 0 then Gq c else q6x c p
theorem qM0 {c : B5} (hc : COk c) (h : Gq c = 0) : ROk c := by
 have hs := (P9 h).1
 exact ⟨hc, fun x hx => ⟨(Ia hs).2.1 x hx, qDP hs x hx⟩⟩
theorem q9C : ∀ {ns vs nets : List Int}, (∀ v ∈ vs, V4 v) → (∀ v ∈ nets, V4 v) → ∀ v ∈ Hz ns vs nets, V4 v
 | [], vs, nets, _, h => by cases vs <;> exact h
 | _ :: _, [], nets, _, h => h
 | n :: ns, v :: vs, nets, hv, h => by
  simp only [Hz]
  refine q9C (fun u hu => hv u (List.mem_cons_of_mem _ hu)) fun u hu => ?_
  rcases List.mem_or_eq_of_mem_set hu with hu | rfl
  ·exact h u hu
  ·exact hv _ List.mem_cons_self
end Go.Lg
namespace Go.Lg
open Go
section
variable {P : Program} {Γ : Tables} {Q : AX → St → Prop} {s : St}
/- probecard/probecardlaw06.taken (function 54) -/
abbrev q3T : IC := .gh (.seq (.seq (.reg [om 9 8, om 10 1, od 11 (.bin .lss (tm 9) (tm 10))] [kp [0, 1, 2, 7, 8, 11] [19]]) (.cond (tm 11) .skip (.exit 0))) (.seq (.block 1 (.seq (.reg [om 14 0, od 15 (le 0 14), od 16 (.bin .eql (tm 15) (ki 0))] [kp
 [0, 1, 2, 7, 8, 16] [19]]) (.cond (tm 16) (.reg [om 17 7, od 18 (.bsl true 61 1 [(ku 2)]), od 19 (.app false 61 1 (tm 17) (tm 18)), om 7 19] [kp [0, 1, 2, 7, 8] [19]]) (.reg [om 20 7, om 21 0, om 22 8, om 23 0, od 24 (le 0 23), od
 25 (.bin .rem (tm 22) (tm 24)), od 26 (ia 1 21 25), od 27 (ld 1 26), om 28 2, od 29 (.bin .rem (tm 27) (tm 28)), od 30 (.bsl true 61 1 [(tm 29)]), oz 31 (.app false 61 1 (tm 20) (tm 30)) 19, om 7 31] [kp [0, 1, 2, 7, 8] [19]]))))
 (.reg [om 12 8, od 13 (.bin .add (tm 12) (ki 1)), om 8 13] [kp [0, 1, 2, 7, 8] [19]]))) [kp [0, 1, 2, 7, 8] [19]]
def Qd : IC := .loop q3T
abbrev q3U : IC := (.seq (.reg [od 6 (.mv kN)] [kp [0, 1, 2] []]) (.seq (.reg [od 7 (.mv kN)] [.nl 7 19 61 1, kp [0, 1, 2, 7] [19]]) (.seq (.seq (.reg [od 8 (.mv (ki 0))] [kp [0, 1, 2, 7, 8] [19]]) (.block 0 Qd)) (.seq (.reg [om 32 7, om
 6 32] [kp [6] [19]]) .ret))))
theorem Ye (h : ∀ K : St → Prop, K = run P Γ Qd Q → run P Γ q3T (Am K Q) s) : run P Γ Qd Q s := Ae h
def q3V : List RV := [.tmp 6]
/- probecard/probecardlaw06.count (function 55) -/
abbrev q3W : IC := .gh (.seq (.seq (.reg [om 7 6, od 8 (fa 0 2), od 9 (ld 1 8), od 10 (le 0 9), od 11 (.bin .lss (tm 7) (tm 10))] [kp [1, 2, 5, 6, 11] []]) (.cond (tm 11) .skip (.exit 0))) (.seq (.block 1 (.seq (.reg [od 14 (fa 0 2), od 15 (ld 1 14),
 om 16 6, od 17 (ia 4 15 16), od 18 (fa 0 17), od 19 (ld 1 18), om 20 1, od 21 (.bin .eql (tm 19) (tm 20))] [kp [1, 2, 5, 6, 21] []]) (.cond (tm 21) (.reg [om 22 5, od 23 (.bin .add (tm 22) (ki 1)), om 5 23] [kp [1, 2, 5, 6] []])
 .skip))) (.reg [om 12 6, od 13 (.bin .add (tm 12) (ki 1)), om 6 13] [kp [1, 2, 5, 6] []]))) [kp [1, 2, 5, 6] []]
def Qe : IC := .loop q3W
abbrev q3X : IC := (.seq (.reg [od 2 (.box true (tm 0)), od 4 (.mv (ki 0))] [kp [1, 2] []]) (.seq (.reg [od 5 (.mv (ki 0))] [kp [1, 2, 5] []]) (.seq (.seq (.reg [od 6 (.mv (ki 0))] [kp [1, 2, 5, 6] []]) (.block 0 Qe)) (.seq (.reg [om 24
 5, om 4 24] [kp [4] []]) .ret))))
theorem Yf (h : ∀ K : St → Prop, K = run P Γ Qe Q → run P Γ q3W (Am K Q) s) : run P Γ Qe Q s := Ae h
def q3Y : List RV := [.tmp 4]
/- (probecard/probecardlaw06.P).Of (function 35) -/
abbrev q4s : IC := (.seq (.reg [od 2 (.box true (tm 0)), od 3 (.box true (tm 1)), od 4 (.alloc false [(.slice none 0 0), (.slice none 0 0)])] [kp [2, 3, 4] [4, 9019, 14019]]) (.seq (.reg [od 5 (fa 0 2), od 6 (.ldT 1 false (tm 5)), od 7 (.ldT 4 true
 (tm 3)), od 8 (.callT 55 [(tm 7), (ku 0)]), od 9 (.ncall 54 [(tm 6), (tm 8), (ku 4)] 9000), od 10 (fa 1 2), od 11 (.ldT 1 false (tm 10)), od 12 (.ldT 4 true (tm 3)), od 13 (.callT 55 [(tm 12), (ku 14)]), od 14 (.ncall 54 [(tm 11),
 (tm 13), (ku 3)] 14000), od 15 (.build [(1, (tm 9)), (1, (tm 14))]), on (.stR 4 2 (tm 4) (tm 15))] [kp [4] [4, 9019, 14019]]) .ret))
def q4t : List RV := [.cell 4 2 true]
/- probecard/probecardlaw06.Same (function 13) -/
abbrev q4u : IC := .gh (.seq (.seq (.reg [om 11 5, om 12 0, od 13 (le 0 12), od 14 (.bin .lss (tm 11) (tm 13))] [kp [0, 1, 5, 14] []]) (.cond (tm 14) .skip (.exit 0))) (.seq (.block 1 (.seq (.reg [om 17 0, om 18 5, od 19 (ia 1 17 18), od 20 (ld 1
 19), om 21 1, om 22 5, od 23 (ia 1 21 22), od 24 (ld 1 23), od 25 (.bin .neq (tm 20) (tm 24))] [kp [0, 1, 5, 25] []]) (.cond (tm 25) (.seq (.reg [od 4 (.mv (ki 1))] [kp [4] []]) .ret) .skip))) (.reg [om 15 5, od 16 (.bin .add (tm
 15) (ki 1)), om 5 16] [kp [0, 1, 5] []]))) [kp [0, 1, 5] []]
def U2 : IC := .loop q4u
abbrev q0g : IC := (.seq (.reg [od 4 (.mv (ki 0))] [kp [0, 1] []]) (.seq (.seq (.reg [om 6 0, od 7 (le 0 6), om 8 1, od 9 (le 0 8), od 10 (.bin .neq (tm 7) (tm 9))] [kp [0, 1, 10] []]) (.cond (tm 10) (.seq (.reg [od 4 (.mv (ki 1))] [kp [4] []]) .ret)
 .skip)) (.seq (.seq (.reg [od 5 (.mv (ki 0))] [kp [0, 1, 5] []]) (.block 0 U2)) (.seq (.reg [od 4 (.mv (ki 0))] [kp [4] []]) .ret))))
theorem Zv (h : ∀ K : St → Prop, K = run P Γ U2 Q → run P Γ q4u (Am K Q) s) : run P Γ U2 Q s := Ae h
def U3 : List RV := [.tmp 4]
/- probecard/logic.Text (function 57) -/
abbrev q4v : IC := .gh (.seq (.reg [od 12 (.bin .lss (tm 11) (tm 10))] [kp [3, 9, 10, 11, 12] [8]]) (.seq (.cond (tm 12) .skip (.exit 0)) (.seq (.block 1 (.seq (.reg [om 13 11, od 14 (ia 1 9 11), od 15 (ld 1 14), om 4 13, om 5 15] [kp [3, 4, 5, 9,
 10, 11] [8]]) (.reg [om 16 3, om 17 4, om 18 5, od 19 (.call 109 [(tm 18)]), od 20 (.idxS (.const (sV [48, 49, 88, 90])) (tm 19)), od 21 (ia 1 16 17), on (.store 1 (tm 21) (tm 20))] [kp [3, 9, 10, 11] [8]]))) (.reg [od 22 (.bin
 .add (tm 11) (ki 1)), om 11 22] [kp [3, 9, 10, 11] [8]])))) [kp [3, 9, 10, 11] [8]]
def U4 : IC := .loop q4v
abbrev q4w : IC := (.seq (.reg [od 2 (.mv (.const (sV [])))] [kp [0] []]) (.seq (.reg [om 6 0, od 7 (le 0 6), od 8 (.mk 5 1 [(.int .u8 0)] (tm 7) (tm 7)), om 3 8] [kp [0, 3] [8]]) (.seq (.seq (.reg [om 9 0, od 10 (le 0 9), od 11 (.mv (ki 0))] [kp [3,
 9, 10, 11] [8]]) (.block 0 U4)) (.seq (.reg [om 23 3, od 24 (.bytesStr (tm 23)), om 2 24] [kp [2] []]) .ret))))
theorem Zw (h : ∀ K : St → Prop, K = run P Γ U4 Q → run P Γ q4v (Am K Q) s) : run P Γ U4 Q s := Ae h
def q4x : List RV := [.tmp 2]
/- probecard/logic.Parse (function 108) -/
end
end Go.Lg
namespace Go.Lg
open Go Go.Proofs
theorem q8t : Ap Tryz.prog 54 q3U 33 3 q3V = true := by kernel_rfl
theorem q8u : Ap Tryz.prog 55 q3X 25 2 q3Y = true := by kernel_rfl
theorem qAF : Ap Tryz.prog 35 q4s 16 2 q4t = true := by kernel_rfl
theorem qAG : Ap Tryz.prog 13 q0g 26 2 U3 = true := by kernel_rfl
theorem qAH : Ap Tryz.prog 57 q4w 25 1 q4x = true := by kernel_rfl
end Go.Lg
namespace Go.Lg
open Go Go.Proofs
variable {Γ : Tables}
theorem qDb {ks : List Int} {c : B5} {i : Nat} (hi : i < c.nodes.l.length) : Qs ks (c.nodes.l.take (i + 1)) 0 = Qs ks (c.nodes.l.take i) 0 ++ if ks.contains (Bo c i) then [(i : Int)] else [] := by
 have hk : Bo c i = c.nodes.l[i].k := by simp [Bo, hi]
 rw [List.take_add_one, List.getElem?_eq_getElem hi, q9A, hk]
 have : (c.nodes.l.take i).length = i := by rw [List.length_take]; omega
 rw [this]
 simp [Qs]
theorem qAI {Q : AX → St → Prop} (c : B5) (hc : COk c) (k : Int)
  (h0 : Q (.exit 0) ⟨[(1, .t (tK k)), (2, .t (.ip (tC c) 0)), (5, .t (tI (Qs [k] c.nodes.l 0).length)), (6, .t (tI c.nodes.l.length)), (11, .t (tB false))], []⟩) : ∀ (f i : Nat), f + i = c.nodes.l.length →
  run Tryz.prog Γ Qe Q ⟨[(1, .t (tK k)), (2, .t (.ip (tC c) 0)), (5, .t (tI (Qs [k] (c.nodes.l.take i) 0).length)), (6, .t (tI i))], []⟩
 | 0, i, h => by
  refine Yf fun K hK => ?_
  have h2 : i = c.nodes.l.length := by omega
  subst h2
  rw [List.take_length]
  simp [tC, A5, A8, Ad, B1, A9]
  simpa [tC, A5, A8, Ad, B1] using h0
 | f + 1, i, h => by
  refine Yf fun K hK => ?_
  have h2 : i < c.nodes.l.length := by omega
  have hn := hc.nodes
  have ih := qAI c hc k h0 f (i + 1) (by omega)
  rw [qDb h2] at ih
  have hget := qAE (c := c) (n := (i : Int)) (by omega) (by omega)
  have hk : (nd c i).k = Bo c i := by simp [nd, Bo]
  simp only [Int.toNat_natCast] at hget
  have hle := X3 [k] (c.nodes.l.take i) 0
  rw [List.length_take] at hle
  generalize nd c i = x at *
  by_cases h1 : x.k = k
  ·have hkk : [k].contains (Bo c i) = true := by rw [← hk, h1]; simp
   rw [hkk, if_pos rfl, List.length_append] at ih
   simp (disch := omega) [tC, A5, A8, Ad, B1, A9, h2, Bd, hget, Dn, h1, A4]
   rw [hK]
   simpa [tC, A5, A8, Ad, B1] using ih
  ·have hkk : [k].contains (Bo c i) = false := by rw [← hk]; simp; exact h1
   rw [hkk, if_neg (by simp), List.append_nil] at ih
   simp (disch := omega) [tC, A5, A8, Ad, B1, A9, h2, Bd, hget, Dn, h1, A4]
   rw [hK]
   simpa [tC, A5, A8, Ad, B1] using ih
theorem qAJ (c : B5) (hc : COk c) (k : Int) : A3 Tryz.prog Γ 55 [.agg (tC c), tK k] (tI (Qs [k] c.nodes.l 0).length) := by
 refine A7 q8u rfl ?_
 have g := fun Q h0 => qAI (Γ := Γ) (Q := Q) c hc k h0 c.nodes.l.length 0 (by omega)
 simp [q3X, tC, A5, A8, Ad, B1]
 refine g _ ?_
 simp [q3Y, As]
def Vl (l : List Int) (n : Nat) (most : Int) : List Int := (List.range' 0 n).map fun i => if l = [] then 2 else (l.getD (i % l.length) 0).tmod most
theorem q21 {l : List Int} {n : Nat} {most : Int} : (Vl l n most).length = n := by simp [Vl]
theorem q5q {Q : AX → St → Prop} (l : Sl Int) (n : Nat) (hn : n ≤ 1000000000) (most : Int) (hm : 0 < most) (R : List Int)
  (h0 : Q (.exit 0) ⟨[(0, .t (tV l)), (1, .t (tI n)), (2, .t (tK most)), (7, .ls 19 0 n none), (8, .t (tI n)), (11, .t (tB false))], [(19, .sl 61 1 (Aq R))]⟩) : ∀ (k i : Nat) (out : List Int), k + i = n → out.length = i → out ++ (List.range' i k).map (fun i => if l.l = [] then 2 else (l.l.getD (i % l.l.length) 0).tmod most) = R →
  run Tryz.prog Γ Qd Q ⟨[(0, .t (tV l)), (1, .t (tI n)), (2, .t (tK most)), (7, .ls 19 0 i none), (8, .t (tI i))], [(19, .sl 61 1 (Aq out))]⟩
 | 0, i, out, h, hi, hR => by
  refine Ye fun K hK => ?_
  have h2 : i = n := by omega
  subst h2
  simp only [List.range'_zero, List.map_nil, List.append_nil] at hR
  subst hR
  simp
  exact h0
 | k + 1, i, out, h, hi, hR => by
  refine Ye fun K hK => ?_
  have h2 : i < n := by omega
  rw [List.range'_succ, List.map_cons] at hR
  have vt : (Aq out).take i = Aq out := by rw [← hi]; exact Ci
  by_cases h1 : l.l = []
  ·have ih := q5q l n hn most hm R h0 k (i + 1) (out ++ [2]) (by omega) (by simp [hi]) (by rw [← hR]; simp [h1])
   have vs := Ph (l := out) (v := 2)
   simp (disch := omega) [h2, tV, A0, h1, A4, vt, vs, hi]
   refine ⟨by omega, ?_⟩
   rw [hK]
   simpa [tV, h1] using ih
  ·have hpos : 0 < l.l.length := List.length_pos_iff.2 h1
   have hlt : i % l.l.length < l.l.length := Nat.mod_lt _ hpos
   have hmod : (i : Int).tmod (l.l.length : Int) = ((i % l.l.length : Nat) : Int) := by rw [Int.natCast_emod]; exact Int.tmod_eq_emod_of_nonneg (by omega)
   rw [if_neg h1] at hR
   have e := ge1 (f := tK) hlt
   generalize hj : i % l.l.length = j at *
   generalize l.l.getD j 0 = v at *
   have ih := q5q l n hn most hm R h0 k (i + 1) (out ++ [v.tmod most]) (by omega) (by simp [hi]) (by rw [← hR]; simp)
   have vs := Ph (l := out) (v := v.tmod most)
   have hne : ¬ (l.l.length : Int) = 0 := by omega
   have hm0 : ¬ most = 0 := by omega
   simp (disch := omega) [h2, tV, A0, A6, h1, hne, hm0, hmod, hlt, e, A4, vt, vs, hi, -Int.natCast_emod]
   refine ⟨by omega, ?_⟩
   rw [hK]
   simpa [tV] using ih
theorem qFu (l : Sl Int) (n : Nat) (hn : n ≤ 1000000000) (most : Int) (hm : 0 < most) : Eu Tryz.prog Γ 54 [] [.t (tV l), .t (tI n), .t (tK most)] (.ls 19 0 n none) [(19, .sl 61 1 (Aq (Vl l.l n most)))] := by
 refine Gu q8t rfl ?_
 have g := fun Q h0 => q5q (Γ := Γ) (Q := Q) l n hn most hm (Vl l.l n most) h0 n 0 [] (by omega) rfl (by simp [Vl])
 simp [q3U]
 refine g _ ?_
 simp [q3V]
def qBb (a b : List Int) : Int := if a = b then 0 else 1
theorem qIQ {a b : List Int} (hl : a.length = b.length) (h : ∀ j, j < a.length → a.getD j 0 = b.getD j 0) : a = b := by
 refine List.ext_getElem hl fun i h1 h2 => ?_
 have := h i h1
 rwa [Cj h1, Cj h2] at this
theorem qBc {Q : AX → St → Prop} (a b : Sl Int) (hl : a.l.length ≤ 1000000000) (he : a.l.length = b.l.length)
  (h0 : a.l = b.l → Q (.exit 0) ⟨[(0, .t (tV a)), (1, .t (tV b)), (5, .t (tI a.l.length)), (14, .t (tB false))], []⟩)
  (h1 : a.l ≠ b.l → Q .ret ⟨[(4, .t (tI 1))], []⟩) : ∀ (k i : Nat), k + i = a.l.length → (∀ j, j < i → a.l.getD j 0 = b.l.getD j 0) →
  run Tryz.prog Γ U2 Q ⟨[(0, .t (tV a)), (1, .t (tV b)), (5, .t (tI i))], []⟩
 | 0, i, h, hp => by
  refine Zv fun K hK => ?_
  have h2 : i = a.l.length := by omega
  subst h2
  simp [tV, A0]
  exact h0 (qIQ he hp)
 | k + 1, i, h, hp => by
  refine Zv fun K hK => ?_
  have h2 : i < a.l.length := by omega
  have h3 : i < b.l.length := by omega
  have e1 := ge1 (f := tK) h2
  have e2 := ge1 (f := tK) h3
  by_cases hv : a.l.getD i 0 = b.l.getD i 0
  ·have ih := qBc a b hl he h0 h1 k (i + 1) (by omega) (fun j hj => by
    rcases Nat.lt_succ_iff_lt_or_eq.1 hj with hj | rfl
    ·exact hp j hj
    ·exact hv)
   rw [hv] at e1
   generalize b.l.getD i 0 = v at *
   simp (disch := omega) [h2, h3, tV, A0, A6, e1, e2, A4]
   rw [hK]
   simpa [tV] using ih
  ·have hne : a.l ≠ b.l := fun e => hv (by rw [e])
   generalize b.l.getD i 0 = v at *
   generalize a.l.getD i 0 = u at *
   simp (disch := omega) [h2, h3, tV, A0, A6, e1, e2, A4, hv]
   exact h1 hne
theorem qH0 (a b : Sl Int) (hl : a.l.length ≤ 1000000000) : A3 Tryz.prog Γ 13 [tV a, tV b] (tI (qBb a.l b.l)) := by
 refine A7 qAG rfl ?_
 by_cases he : a.l.length = b.l.length
 ·have g := fun Q h0 h1 => qBc (Γ := Γ) (Q := Q) a b hl he h0 h1 a.l.length 0 (by omega) (by simp)
  simp [q0g, tV, A0, he]
  simp only [tV] at g
  refine g _ (fun h => ?_) (fun h => ?_)
  ·simp [U3, As, qBb, h]
  ·simp [U3, As, qBb, h]
 ·have hne : ¬ a.l = b.l := fun e => he (by rw [e])
  have he' : ¬ (a.l.length : Int) = b.l.length := by omega
  simp [q0g, tV, A0, he, he', U3, As, qBb, hne]
def chV (v : Int) : Int := if v = 0 then 48 else if v = 1 then 49 else if v = 2 then 88 else 90
def qBd (l : List Int) : List UInt8 := l.map fun v => UInt8.ofNat (chV (F2 v)).toNat
theorem qBe {Q : AX → St → Prop} (l : Sl Int) (hl : l.l.length ≤ 1000000000) (hv : ∀ v ∈ l.l, 0 ≤ v) (R : List Int)
  (h0 : Q (.exit 0) ⟨[(3, .ls 8 0 l.l.length none), (9, .t (tV l)), (10, .t (tI l.l.length)), (11, .t (tI l.l.length)), (12, .t (tB false))], [(8, .sl 5 1 (Aq R))]⟩) : ∀ (k i : Nat), k + i = l.l.length → R = l.l.map (fun v => chV (F2 v)) →
  run Tryz.prog Γ U4 Q ⟨[(3, .ls 8 0 l.l.length none), (9, .t (tV l)), (10, .t (tI l.l.length)), (11, .t (tI i))], [(8, .sl 5 1 (Aq (R.take i ++ List.replicate (l.l.length - i) 0)))]⟩
 | 0, i, h, hR => by
  refine Zw fun K hK => ?_
  have h2 : i = l.l.length := by omega
  have h3 : R.length = l.l.length := by rw [hR]; simp
  subst h2
  rw [← h3, List.take_length, h3, Nat.sub_self, List.replicate_zero, List.append_nil]
  simp
  exact h0
 | k + 1, i, h, hR => by
  refine Zw fun K hK => ?_
  have h2 : i < l.l.length := by omega
  have h3 : R.length = l.l.length := by rw [hR]; simp
  have ih := qBe l hl hv R h0 k (i + 1) (by omega) hR
  have e1 := ge1 (f := tK) h2
  have hv0 := hv (l.l.getD i 0) (by rw [Cj h2]; exact List.getElem_mem h2)
  have hRi : R.getD i 0 = chV (F2 (l.l.getD i 0)) := by rw [hR, Cj h2]; simp [List.getD_eq_getElem?_getD, h2]
  have hset : ∀ v, v = R.getD i 0 → (Aq (R.take i ++ List.replicate (l.l.length - i) 0)).set i [tK v] = Aq (R.take (i + 1) ++ List.replicate (l.l.length - (i + 1)) 0) := by
   rintro v rfl
   show (Ab tK _).set i [tK _] = Ab tK _
   rw [J2]
   congr 1
   have e : l.l.length - i = (l.l.length - (i + 1)) + 1 := by omega
   have ht : (R.take i).length = i := by rw [List.length_take]; omega
   have hri : i < R.length := by omega
   have hta : R.take (i + 1) = R.take i ++ [R.getD i 0] := by rw [List.take_add_one, List.getElem?_eq_getElem hri, Cj hri]; rfl
   rw [e, List.replicate_succ, List.set_append, if_neg (by rw [ht]; omega), ht, Nat.sub_self, hta]
   simp
  have hlen : (Aq (R.take i ++ List.replicate (l.l.length - i) 0)).length = l.l.length := by rw [A0]; simp; omega
  generalize Aq (R.take i ++ List.replicate (l.l.length - i) 0) = E at *
  generalize l.l.getD i 0 = v at *
  have hc4 : F2 v = 0 ∨ F2 v = 1 ∨ F2 v = 2 ∨ F2 v = 3 := by unfold F2; split <;> omega
  simp (disch := omega) [h2, tV, A0, A6, e1, A4]
  refine A1 (q5n v) rfl ?_
  have hch : (ByteArray.mk #[48, 49, 88, 90]).size = 4 := rfl
  have hb : ∀ q : Int, F2 v = q → (0 ≤ q ∧ q < 4) := fun q hq => by omega
  generalize F2 v = w at *
  have hval : ((([48, 49, 88, 90] : List UInt8)[w.toNat]?.getD 0).toNat : Int) = chV w := by
   rcases hc4 with rfl | rfl | rfl | rfl <;> rfl
  have hw := hb w rfl
  have hs := hset _ (hval.trans hRi.symm)
  simp (disch := omega) [h2, hlen, hs, A4, sV, hch, hw]
  rw [hK]
  simpa [tV] using ih
theorem qAK : ∀ (l : List Int), (∀ v ∈ l, 0 ≤ v ∧ v < 256) → O0 (Aq l) = some (l.map fun v => UInt8.ofNat v.toNat)
 | [], _ => rfl
 | v :: l, h => by
  have ih := qAK l fun u hu => h u (List.mem_cons_of_mem _ hu)
  have hv := h v List.mem_cons_self
  show (O0 (Aq l)).map _ = _
  rw [ih]; rfl
theorem q4B (l : Sl Int) (hl : l.l.length ≤ 1000000000) (hv : ∀ v ∈ l.l, 0 ≤ v) : A3 Tryz.prog Γ 57 [tV l] (tS (qBd l.l)) := by
 refine A7 qAH rfl ?_
 have g := fun Q h0 => qBe (Γ := Γ) (Q := Q) l hl hv (l.l.map fun v => chV (F2 v)) h0 l.l.length 0 (by omega) rfl
 have hz : List.replicate l.l.length [T.v (Value.int .u8 0)] = Aq (([] : List Int) ++ List.replicate (l.l.length - 0) 0) := by simp [Ab]
 have hlen : (l.l.map fun v => chV (F2 v)).length = l.l.length := by simp
 have hR : O0 (Aq (l.l.map fun v => chV (F2 v))) = some (qBd l.l) := by
  rw [qAK]
  ·simp [qBd]
  ·intro v hv'
   obtain ⟨u, _, rfl⟩ := List.mem_map.1 hv'
   unfold chV; split; omega; split; omega; split <;> omega
 have htk : (Aq (l.l.map fun v => chV (F2 v))).take l.l.length = Aq (l.l.map fun v => chV (F2 v)) := by rw [← hlen]; exact Ci
 rw [List.take_zero] at g
 generalize Aq (l.l.map fun v => chV (F2 v)) = E at *
 simp (disch := omega) [q4w, tV, A0, A4]
 refine ⟨by omega, ?_⟩
 rw [hz]
 refine g _ ?_
 simp [q4x, As, htk, hR, tS, sV]
structure PD where
 i : Sl Int
 s : Sl Int
def tPD (q : PD) : List T := [tV q.i, tV q.s]
def q8v (q : PD) : Prop := (∀ v ∈ q.i.l, Byt v) ∧ ∀ v ∈ q.s.l, Byt v
def qNn (q : PD) (c : B5) : List Int := Vl q.i.l (Bz c).length 4
def qNo (q : PD) (c : B5) : List Int := Vl q.s.l (Aj c).length 3
def qAL (q : PD) (c : B5) : Pat := ⟨⟨qNn q c, none, none⟩, ⟨qNo q c, none, none⟩⟩
def v1 (v : Int) : Sl Int := ⟨[v], none, none⟩
end Go.Lg
namespace Go.Lg
open Go Go.Proofs Go.Proofs.YtjcogpofldkniaaGreatDoor
theorem qFv : Tryz.prog.cellsOf 31 = 2 := by kernel_rfl
theorem qCM : Rd Tryz.prog 25 fun ts => ∃ s : Sl Int, ts = [tV s] ∧ ∀ b ∈ s.l, Byt b := by
 refine (q6S Tryz.underlying25 q3D (by decide) qDN).mono fun ts ⟨es, cap, nl, h, _, hes⟩ => ?_
 obtain ⟨l, rfl, hl⟩ := q6g (f := fun n : Int => [tK n]) (Q := Byt) fun x hx => (hes x hx).1
 exact ⟨⟨l, cap, nl⟩, h, hl⟩
theorem qOj : Rd Tryz.prog 31 fun ts => ∃ q, ts = tPD q ∧ q8v q := by
 refine (q0w (l := [(1, fun ts => ∃ s : Sl Int, ts = [tV s] ∧ ∀ b ∈ s.l, Byt b), (1, fun ts => ∃ s : Sl Int, ts = [tV s] ∧ ∀ b ∈ s.l, Byt b)]) Tryz.underlying31 qFv
  (.cons rfl q9B qCM (.cons rfl q9B qCM (.nil _)))).mono fun ts h => ?_
 obtain ⟨_, _, rfl, ⟨a, rfl, ha⟩, _, _, rfl, ⟨b, rfl, hb⟩, rfl⟩ := h
 exact ⟨⟨a, b⟩, rfl, ha, hb⟩
end Go.Lg
namespace Go.Proofs.YtjcogpofldkniaaGreatDoor
open Go Go.Lg Go.ChangeShapes Go.WideShapes Go.ChangeAt Go.RowKit
end Go.Proofs.YtjcogpofldkniaaGreatDoor
namespace Go.Lg
open Go
section
variable {P : Program} {Γ : Tables} {Q : AX → St → Prop} {s : St}
/- probecard/memories.matches (function 102) -/
abbrev W6 : IC := .gh (.seq (.reg [od 10 (.bin .lss (tm 9) (tm 8))] [kp [0, 7, 8, 9, 10] []]) (.seq (.cond (tm 10) .skip (.exit 0)) (.seq (.block 1 (.seq (.reg [od 11 (ia 1 7 9), od 12 (ld 1 11), om 6 12] [kp [0, 6, 7, 8, 9] []]) (.seq (.seq (.reg
 [om 13 6, od 14 (.call 16 [(tm 13)]), om 15 14, oT 16 (.mv (tm 6)) 15, oT 17 (.conv .i64 (tm 16)) 15, oT 18 (.mv (tm 0)) 15, oT 19 (.bin .and (tm 18) (ki 1)) 15, oT 20 (.bin .neq (tm 17) (tm 19)) 15, od 21 (.pick (tm 15) (tm 20)
 kF)] [kp [0, 7, 8, 9, 21] []]) (.cond (tm 21) (.seq (.reg [od 4 (.mv kF)] [kp [4] []]) .ret) .skip)) (.reg [om 22 0, od 23 (.bin .shr (tm 22) (.const (.int .u64 1))), om 0 23] [kp [0, 7, 8, 9] []])))) (.reg [od 24 (.bin .add (tm 9)
 (ki 1)), om 9 24] [kp [0, 7, 8, 9] []])))) [kp [0, 7, 8, 9] []]
def Hn : IC := .loop W6
abbrev W7 : IC := (.seq (.reg [od 4 (.mv kF)] [kp [0, 1] []]) (.seq (.seq (.reg [om 7 1, od 8 (le 0 7), od 9 (.mv (ki 0))] [kp [0, 7, 8, 9] []]) (.block 0 Hn)) (.seq (.reg [om 25 0, od 26 (.bin .eql (tm 25) (ki 0)), om 4 26] [kp [4]
 []]) .ret)))
theorem Pi (h : ∀ K : St → Prop, K = run P Γ Hn Q → run P Γ W6 (Am K Q) s) : run P Γ Hn Q s := Ae h
def N9 : List RV := [.tmp 4]
/- probecard/memories.bit (function 103) -/
abbrev Vm : IC := (.seq (.reg [od 4 (.mv (ku 0))] [kp [0, 1] []]) (.seq (.seq (.reg [om 5 1, om 6 0, od 7 (le 0 6), od 8 (.bin .geq (tm 5) (tm 7))] [kp [0, 1, 8] []]) (.cond (tm 8) (.seq (.reg [od 4 (.mv (ku 2))] [kp [4] []]) .ret) .skip)) (.seq
 (.reg [om 9 0, om 10 1, od 11 (ia 1 9 10), od 12 (ld 1 11), od 13 (.call 94 [(tm 12)]), om 4 13] [kp [4] []]) .ret)))
def Vn : List RV := [.tmp 4]
/- probecard/memories.common (function 104) -/
abbrev Oj : IC := (.seq (.reg [od 4 (.mv (ku 0))] [kp [0, 1] []]) (.seq (.seq (.reg [om 5 0, om 6 1, od 7 (.bin .neq (tm 5) (tm 6))] [kp [0, 7] []]) (.cond (tm 7) (.seq (.reg [od 4 (.mv (ku 2))] [kp [4] []]) .ret) .skip)) (.seq (.reg [om 8 0, om 4
 8] [kp [4] []]) .ret)))
def Ol : List RV := [.tmp 4]
/- probecard/memories.Look (function 45) -/
abbrev q1C : IC := .gh (.seq (.reg [od 32 (.bin .lss (tm 31) (tm 30))] [kp [1, 5, 6, 8, 18, 19, 20, 30, 31, 32] [22030]]) (.seq (.cond (tm 32) .skip (.exit 2)) (.seq (.block 3 (.seq (.reg [om 33 31, om 9 33] [kp [1, 5, 6, 8, 9, 18, 19, 20, 30, 31]
 [22030]]) (.seq (.reg [om 34 6] [kp [1, 5, 6, 8, 9, 18, 19, 20, 30, 31, 34] [22030]]) (.cond (tm 34) (.reg [om 35 5, om 36 9, om 37 8, om 38 9, od 39 (.call 103 [(tm 37), (tm 38)]), od 40 (ia 1 35 36), on (.store 1 (tm 40) (tm
 39))] [kp [1, 5, 6, 8, 18, 19, 20, 30, 31] [22030]]) (.reg [om 41 5, om 42 9, om 43 5, om 44 9, od 45 (ia 1 43 44), od 46 (.ldR 22030 1 false (tm 45)), om 47 8, om 48 9, od 49 (.call 103 [(tm 47), (tm 48)]), od 50 (.call 104 [(tm
 46), (tm 49)]), od 51 (ia 1 41 42), on (.stR 22030 1 (tm 51) (tm 50))] [kp [1, 5, 6, 8, 18, 19, 20, 30, 31] [22030]]))))) (.reg [od 52 (.bin .add (tm 31) (ki 1)), om 31 52] [kp [1, 5, 6, 8, 18, 19, 20, 30, 31] [22030]])))) [kp [1,
 5, 6, 8, 18, 19, 20, 30, 31] [22030]]
def Lh : IC := .loop q1C
abbrev q1D : IC := .gh (.seq (.reg [od 21 (.bin .lss (tm 20) (tm 19))] [kp [1, 5, 6, 18, 19, 20, 21] [22030]]) (.seq (.cond (tm 21) .skip (.exit 0)) (.seq (.block 1 (.seq (.reg [om 22 20, od 23 (ia 1 18 20), od 24 (ld 1 23), om 7 22, om 8 24] [kp [1,
 5, 6, 7, 8, 18, 19, 20] [22030]]) (.seq (.seq (.reg [om 25 7, om 26 1, od 27 (.call 102 [(tm 25), (tm 26)]), od 28 (.un .not (tm 27))] [kp [1, 5, 6, 8, 18, 19, 20, 28] [22030]]) (.cond (tm 28) (.exit 1) .skip)) (.seq (.seq (.reg
 [om 29 5, od 30 (le 0 29), od 31 (.mv (ki 0))] [kp [1, 5, 6, 8, 18, 19, 20, 30, 31] [22030]]) (.block 2 Lh)) (.reg [od 6 (.mv kF)] [kp [1, 5, 6, 18, 19, 20] [22030]]))))) (.reg [od 53 (.bin .add (tm 20) (ki 1)), om 20
 53] [kp [1, 5, 6, 18, 19, 20] [22030]])))) [kp [1, 5, 6, 18, 19, 20] [22030]]
def Lj : IC := .loop q1D
abbrev Td : IC := (.seq (.reg [od 4 (.mv kN)] [kp [0, 1] []]) (.seq (.seq (.reg [om 10 0, od 11 (le 0 10), od 12 (.bin .eql (tm 11) (ki 0))] [kp [0, 1, 12] []]) (.cond (tm 12) (.seq (.reg [od 4 (.mv kN)] [kp [4] [22030]]) .ret) .skip)) (.seq (.reg
 [om 13 0, od 14 (.iadr 1 (tm 13) (ki 0)), od 15 (ld 1 14), od 16 (le 0 15), od 17 (.ncall 75 [(tm 16)] 17000), om 5 17] [kp [0, 1, 5] [22030]]) (.seq (.reg [od 6 (.mv kT)] [kp [0, 1, 5, 6] [22030]]) (.seq (.seq (.reg [om 18 0, od
 19 (le 0 18), od 20 (.mv (ki 0))] [kp [1, 5, 6, 18, 19, 20] [22030]]) (.block 0 Lj)) (.seq (.reg [om 54 5, om 4 54] [kp [4] [22030]]) .ret))))))
theorem Us (h : ∀ K : St → Prop, K = run P Γ Lh Q → run P Γ q1C (Am K Q) s) : run P Γ Lh Q s := Ae h
theorem Ut (h : ∀ K : St → Prop, K = run P Γ Lj Q → run P Γ q1D (Am K Q) s) : run P Γ Lj Q s := Ae h
def Tf : List RV := [.tmp 4]
/- probecard/memories.Store (function 46) -/
abbrev Zx : IC := .gh (.seq (.reg [od 51 (.bin .lss (tm 50) (tm 49))] [kp [1, 2, 3, 9, 10, 11, 12, 26, 27, 28, 49, 50, 51] [25, 37]]) (.seq (.cond (tm 51) .skip (.exit 2)) (.seq (.block 3 (.seq (.reg [om 52 50, om 13 52] [kp [1, 2, 3, 9, 10, 11, 12,
 13, 26, 27, 28, 49, 50] [25, 37]]) (.seq (.reg [om 53 12, om 54 13, od 55 (.call 103 [(tm 53), (tm 54)]), om 56 2, om 57 13, od 58 (.call 103 [(tm 56), (tm 57)]), om 14 55, om 15 58] [kp [1, 2, 3, 9, 10, 11, 12, 13, 14, 15, 26, 27,
 28, 49, 50] [25, 37]]) (.block 4 (.seq (.reg [om 69 3, od 70 (.bin .eql (tm 69) (ku 0)), om 71 70, oF 72 (.mv (tm 11)) 71, oF 73 (.mv (tm 1)) 71, oF 74 (.call 102 [(tm 72), (tm 73)]) 71, oF 75 (.un .not (tm 74)) 71, od 76 (.pick
 (tm 71) kT (tm 75)), om 68 76] [kp [1, 2, 3, 9, 10, 11, 12, 13, 14, 15, 26, 27, 28, 49, 50, 68] [25, 37]]) (.cond (tm 68) (.reg [om 77 10, om 78 11, od 79 (ia 1 77 78), od 80 (ld 1 79), om 81 13, om 82 14, od 83 (ia 1 80 81), on
 (.store 1 (tm 83) (tm 82))] [kp [1, 2, 3, 9, 10, 11, 12, 26, 27, 28, 49, 50] [25, 37]]) (.seq (.reg [om 85 9, om 84 85] [kp [1, 2, 3, 9, 10, 11, 12, 13, 14, 15, 26, 27, 28, 49, 50, 84] [25, 37]]) (.cond (tm 84) (.reg [om 86 10, om
 87 11, od 88 (ia 1 86 87), od 89 (ld 1 88), om 90 13, om 91 15, od 92 (ia 1 89 90), on (.store 1 (tm 92) (tm 91))] [kp [1, 2, 3, 9, 10, 11, 12, 26, 27, 28, 49, 50] [25, 37]]) (.reg [om 59 10, om 60 11, od 61 (ia 1 59 60), od 62
 (.ldR 25 1 false (tm 61)), om 63 13, om 64 14, om 65 15, od 66 (.call 104 [(tm 64), (tm 65)]), od 67 (ia 1 62 63), on (.stR 37 1 (tm 67) (tm 66))] [kp [1, 2, 3, 9, 10, 11, 12, 26, 27, 28, 49, 50] [25, 37]]))))))))) (.reg [od 93
 (.bin .add (tm 50) (ki 1)), om 50 93] [kp [1, 2, 3, 9, 10, 11, 12, 26, 27, 28, 49, 50] [25, 37]])))) [kp [1, 2, 3, 9, 10, 11, 12, 26, 27, 28, 49, 50] [25, 37]]
def Ju : IC := .loop Zx
abbrev Zy : IC := .gh (.seq (.reg [od 29 (.bin .lss (tm 28) (tm 27))] [kp [1, 2, 3, 9, 10, 26, 27, 28, 29] [25, 37]]) (.seq (.cond (tm 29) .skip (.exit 0)) (.seq (.block 1 (.seq (.reg [om 30 28, od 31 (ia 1 26 28), od 32 (ld 1 31), om 11 30, om 12
 32] [kp [1, 2, 3, 9, 10, 11, 12, 26, 27, 28] [25, 37]]) (.seq (.reg [om 33 10, om 34 11, om 35 12, od 36 (le 0 35), od 37 (.mk 61 1 [(.int .u8 0)] (tm 36) (tm 36)), od 38 (ia 1 33 34), on (.store 1 (tm 38) (tm 37))] [kp [1, 2, 3,
 9, 10, 11, 12, 26, 27, 28] [25, 37]]) (.seq (.reg [om 39 10, om 40 11, od 41 (ia 1 39 40), od 42 (ld 1 41), om 43 12, od 44 (.cpy 1 (tm 42) (tm 43))] [kp [1, 2, 3, 9, 10, 11, 12, 26, 27, 28] [25, 37]]) (.seq (.reg [om 45 10, om 46
 11, od 47 (ia 1 45 46), od 48 (ld 1 47), od 49 (le 0 48), od 50 (.mv (ki 0))] [kp [1, 2, 3, 9, 10, 11, 12, 26, 27, 28, 49, 50] [25, 37]]) (.block 2 Ju)))))) (.reg [od 94 (.bin .add (tm 28) (ki 1)), om 28 94] [.frz
 37, kp [1, 2, 3, 9, 10, 26, 27, 28] [25, 37]])))) [kp [1, 2, 3, 9, 10, 26, 27, 28] [25, 37]]
def Jv : IC := .loop Zy
abbrev Qf : IC := (.seq (.reg [od 8 (.mv kN)] [kp [0, 1, 2, 3] []]) (.seq (.reg [om 16 3, od 17 (.bin .eql (tm 16) (ku 1)), om 18 17, oT 19 (.mv (tm 1)) 18, oT 20 (.call 80 [(tm 19), (.func 105)]) 18, oT 21 (.un .not (tm 20)) 18, od 22 (.pick (tm
 18) (tm 21) kF), om 9 22] [kp [0, 1, 2, 3, 9] []]) (.seq (.reg [om 23 0, od 24 (le 0 23), od 25 (.mkB 41 [(.slice none 0 0)] (tm 24) (tm 24)), om 10 25] [kp [0, 1, 2, 3, 9, 10] [25, 37]]) (.seq (.seq (.reg [om 26 0, od 27 (le 0
 26), od 28 (.mv (ki 0))] [kp [1, 2, 3, 9, 10, 26, 27, 28] [25, 37]]) (.block 0 Jv)) (.seq (.reg [om 95 10, om 8 95] [kp [8] [25, 37]]) .ret)))))
theorem Rl (h : ∀ K : St → Prop, K = run P Γ Ju Q → run P Γ Zx (Am K Q) s) : run P Γ Ju Q s := Ae h
theorem Rm (h : ∀ K : St → Prop, K = run P Γ Jv Q → run P Γ Zy (Am K Q) s) : run P Γ Jv Q s := Ae h
def Qg : List RV := [.tmp 8]
/- probecard/memories.Store$1 (function 105) -/
abbrev W8 : IC := (.seq (.reg [od 2 (.mv kF)] [kp [0] []]) (.seq (.reg [om 3 0, od 4 (.call 16 [(tm 3)]), od 5 (.un .not (tm 4)), om 2 5] [kp [2] []]) .ret))
def W9 : List RV := [.tmp 2]
/- probecard/memories.unknown (function 75) -/
abbrev Wa : IC := (.seq (.reg [od 2 (.mv kN)] [kp [0] []]) (.seq (.reg [od 3 (.bsl true 61 1 [(ku 2)]), om 4 0, od 5 (.call 117 [(tm 3), (tm 4)]), om 2 5] [kp [2] []]) .ret))
def Wb : List RV := [.tmp 2]
/- (probecard/memories.machine).values (function 41) -/
abbrev Kz : IC := .gh (.seq (.reg [od 14 (.bin .lss (tm 13) (tm 12))] [kp [2, 5, 11, 12, 13, 14] [10]]) (.seq (.cond (tm 14) .skip (.exit 0)) (.seq (.block 1 (.seq (.reg [od 15 (ia 1 11 13), od 16 (ld 1 15), om 7 16] [kp [2, 5, 7, 11, 12, 13] [10]])
 (.reg [om 17 5, od 18 (fa 4 2), od 19 (ld 1 18), om 20 7, od 21 (ia 1 19 20), od 22 (ld 1 21), od 23 (.bsl true 61 1 [(tm 22)]), oz 24 (.app false 61 1 (tm 17) (tm 23)) 10, om 5 24] [kp [2, 5, 11, 12, 13] [10]]))) (.reg [od 25
 (.bin .add (tm 13) (ki 1)), om 13 25] [kp [2, 5, 11, 12, 13] [10]])))) [kp [2, 5, 11, 12, 13] [10]]
def E5 : IC := .loop Kz
abbrev L0 : IC := (.seq (.reg [od 2 (.box true (tm 0)), od 4 (.mv kN)] [kp [1, 2] []]) (.seq (.reg [om 8 1, od 9 (le 0 8), od 10 (.mk 61 1 [(.int .u8 0)] (ki 0) (tm 9)), om 5 10] [kp [1, 2, 5] [10]]) (.seq (.seq (.reg [om 11 1, od 12 (le 0 11), od
 13 (.mv (ki 0))] [kp [2, 5, 11, 12, 13] [10]]) (.block 0 E5)) (.seq (.reg [om 26 5, om 4 26] [kp [4] [10]]) .ret))))
theorem I0 (h : ∀ K : St → Prop, K = run P Γ E5 Q → run P Γ Kz (Am K Q) s) : run P Γ E5 Q s := Ae h
def L1 : List RV := [.tmp 4]
/- (probecard/memories.machine).load (function 37) -/
abbrev Ns : IC := .gh (.seq (.reg [od 17 (.bin .lss (tm 16) (tm 15))] [kp [2, 3, 4, 14, 15, 16, 17] [3, 1000000]]) (.seq (.cond (tm 17) .skip (.exit 0)) (.seq (.block 1 (.seq (.reg [om 18 16, od 19 (ia 1 14 16), od 20 (ld 1 19), om 6 18, om 7 20]
 [kp [2, 3, 4, 6, 7, 14, 15, 16] [3, 1000000]]) (.reg [od 21 (fa 4 3), od 22 (.ldR 3 1 false (tm 21)), om 23 7, om 24 2, om 25 6, od 26 (ia 1 24 25), od 27 (.ldT 1 false (tm 26)), od 28 (ia 1 22 23), on (.stR 1000000 1 (tm 28) (tm
 27))] [kp [2, 3, 4, 14, 15, 16] [3, 1000000]]))) (.reg [od 29 (.bin .add (tm 16) (ki 1)), om 16 29] [kp [2, 3, 4, 14, 15, 16] [3, 1000000]])))) [kp [2, 3, 4, 14, 15, 16] [3, 1000000]]
def Ef : IC := .loop Ns
abbrev Nu : IC := .gh (.seq (.reg [od 35 (.bin .lss (tm 34) (tm 33))] [kp [3, 4, 32, 33, 34, 35] [3, 1000000]]) (.seq (.cond (tm 35) .skip (.exit 2)) (.seq (.block 3 (.seq (.reg [om 36 34, od 37 (ia 1 32 34), od 38 (ld 1 37), om 8 36, om 9 38] [kp
 [3, 4, 8, 9, 32, 33, 34] [3, 1000000]]) (.reg [od 39 (fa 4 3), od 40 (.ldR 3 1 false (tm 39)), om 41 9, od 42 (fa 0 4), od 43 (.ldT 1 false (tm 42)), om 44 8, od 45 (ia 1 43 44), od 46 (.ldT 1 false (tm 45)), od 47 (ia 1 40 41), on
 (.stR 1000000 1 (tm 47) (tm 46))] [kp [3, 4, 32, 33, 34] [3, 1000000]]))) (.reg [od 48 (.bin .add (tm 34) (ki 1)), om 34 48] [kp [3, 4, 32, 33, 34] [3, 1000000]])))) [kp [3, 4, 32, 33, 34] [3, 1000000]]
def Eg : IC := .loop Nu
abbrev Nv : IC := .gh (.seq (.reg [od 55 (.bin .lss (tm 54) (tm 53))] [kp [3, 4, 52, 53, 54, 55] [3, 1000000]]) (.seq (.cond (tm 55) .skip (.exit 4)) (.seq (.block 5 (.seq (.reg [od 56 (ia 1 52 54), od 57 (ld 1 56), om 11 57] [kp [3, 4, 11, 52, 53,
 54] [3, 1000000]]) (.reg [od 58 (fa 4 3), od 59 (.ldR 3 1 false (tm 58)), om 60 11, od 61 (fa 2 4), od 62 (.ldT 1 false (tm 61)), od 63 (fa 0 3), od 64 (fa 0 63), od 65 (.ldR 3 1 false (tm 64)), om 66 11, od 67 (ia 4 65 66), od 68
 (fa 2 67), od 69 (.ldT 1 false (tm 68)), od 70 (ia 1 62 69), od 71 (.ldT 1 false (tm 70)), od 72 (fa 0 3), od 73 (fa 0 72), od 74 (.ldR 3 1 false (tm 73)), om 75 11, od 76 (ia 4 74 75), od 77 (fa 3 76), od 78 (.ldT 1 false (tm
 77)), od 79 (ia 1 71 78), od 80 (.ldT 1 false (tm 79)), od 81 (ia 1 59 60), on (.stR 1000000 1 (tm 81) (tm 80))] [kp [3, 4, 52, 53, 54] [3, 1000000]]))) (.reg [od 82 (.bin .add (tm 54) (ki 1)), om 54 82] [kp [3, 4, 52, 53, 54] [3,
 1000000]])))) [kp [3, 4, 52, 53, 54] [3, 1000000]]
def Eh : IC := .loop Nv
abbrev Nw : IC := (.seq (.reg [od 3 (.box false (tm 0)), od 4 (.box true (tm 1))] [kp [2, 3, 4] [3, 1000000]]) (.seq (.seq (.reg [od 12 (fa 0 3), od 13 (lG 4 12), od 14 (.call 77 [(tm 13)]), od 15 (le 0 14), od 16 (.mv (ki 0))] [kp [2, 3, 4, 14, 15,
 16] [3, 1000000]]) (.block 0 Ef)) (.seq (.seq (.reg [od 30 (fa 0 3), od 31 (lG 4 30), od 32 (.call 19 [(tm 31)]), od 33 (le 0 32), od 34 (.mv (ki 0))] [kp [3, 4, 32, 33, 34] [3, 1000000]]) (.block 2
 Eg)) (.seq (.reg [od 49 (fa 0 3), od 50 (lG 4 49), od 51 (.bsl true 71 1 [(ku 15)]), od 52 (.call 66 [(tm 50), (tm 51)]), od 53 (le 0 52), od 54 (.mv (ki 0))] [kp [3, 4, 52, 53, 54] [3, 1000000]]) (.gh (.block
 4 Eh) [.keep [] [1000000]])))))
theorem J9 (h : ∀ K : St → Prop, K = run P Γ Ef Q → run P Γ Ns (Am K Q) s) : run P Γ Ef Q s := Ae h
theorem Ja (h : ∀ K : St → Prop, K = run P Γ Eg Q → run P Γ Nu (Am K Q) s) : run P Γ Eg Q s := Ae h
theorem Jb (h : ∀ K : St → Prop, K = run P Γ Eh Q → run P Γ Nv (Am K Q) s) : run P Γ Eh Q s := Ae h
def Nx : List RV := []
/- probecard/memories.lists (function 89) -/
abbrev Zz : IC := .gh (.seq (.reg [od 16 (.bin .lss (tm 15) (tm 14))] [kp [3, 13, 14, 15, 16] [11]]) (.seq (.cond (tm 16) .skip (.exit 0)) (.seq (.block 1 (.seq (.reg [od 17 (ia 1 13 15), od 18 (ld 1 17), om 5 18] [kp [3, 5, 13, 14, 15] [11]]) (.reg
 [om 19 3, om 20 5, oz 21 (.app false 41 1 (tm 19) (tm 20)) 11, om 3 21] [kp [3, 13, 14, 15] [11]]))) (.reg [od 22 (.bin .add (tm 15) (ki 1)), om 15 22] [kp [3, 13, 14, 15] [11]])))) [kp [3, 13, 14, 15] [11]]
def Jw : IC := .loop Zz
abbrev q00 : IC := (.seq (.reg [od 1 (.box true (tm 0)), od 2 (.mv kN)] [kp [1] []]) (.seq (.reg [od 6 (fa 0 1), od 7 (ld 1 6), od 8 (.bsl true 41 1 [(tm 7)]), od 9 (fa 2 1), od 10 (ld 1 9), od 11 (.app false 41 1 (tm 8) (tm 10)), om 3 11] [kp [1, 3]
 [11]]) (.seq (.seq (.reg [od 12 (fa 1 1), od 13 (ld 1 12), od 14 (le 0 13), od 15 (.mv (ki 0))] [kp [3, 13, 14, 15] [11]]) (.block 0 Jw)) (.seq (.reg [om 23 3, om 2 23] [kp [2] [11]]) .ret))))
theorem Rn (h : ∀ K : St → Prop, K = run P Γ Jw Q → run P Γ Zz (Am K Q) s) : run P Γ Jw Q s := Ae h
def q01 : List RV := [.tmp 2]
/- probecard/memories.lists (function 89) -/
abbrev Yg : IC := .gh (.seq (.reg [od 16 (.bin .lss (tm 15) (tm 14))] [kp [3, 13, 14, 15, 16] [21]]) (.seq (.cond (tm 16) .skip (.exit 0)) (.seq (.block 1 (.seq (.reg [od 17 (ia 1 13 15), od 18 (ld 1 17), om 5 18] [kp [3, 5, 13, 14, 15] [21]]) (.reg
 [om 19 3, om 20 5, od 21 (.app false 41 1 (tm 19) (tm 20)), om 3 21] [kp [3, 13, 14, 15] [21]]))) (.reg [od 22 (.bin .add (tm 15) (ki 1)), om 15 22] [kp [3, 13, 14, 15] [21]])))) [kp [3, 13, 14, 15] [21]]
def Om : IC := .loop Yg
abbrev Yh : IC := (.seq (.reg [od 1 (.box true (tm 0)), od 2 (.mv kN)] [kp [1] []]) (.seq (.reg [od 6 (fa 0 1), od 7 (ld 1 6), od 8 (.bsl true 41 1 [(tm 7)]), od 9 (fa 2 1), od 10 (ld 1 9), od 11 (.appT 41 1 (tm 8) (tm 10)), om 3 11] [kp [1, 3]
 [21]]) (.seq (.seq (.reg [od 12 (fa 1 1), od 13 (ld 1 12), od 14 (le 0 13), od 15 (.mv (ki 0))] [kp [3, 13, 14, 15] [21]]) (.block 0 Om)) (.seq (.reg [om 23 3, om 2 23] [kp [2] [21]]) .ret))))
theorem q22 (h : ∀ K : St → Prop, K = run P Γ Om Q → run P Γ Yg (Am K Q) s) : run P Γ Om Q s := Ae h
def Yi : List RV := [.tmp 2]
/- probecard/memories.unknown (function 75) -/
abbrev Uu : IC := (.seq (.reg [od 2 (.mv kN)] [kp [0] []]) (.seq (.reg [od 3 (.bsl true 61 1 [(ku 2)]), om 4 0, od 5 (.ncall 117 [(tm 3), (tm 4)] 5000), om 2 5] [kp [2] [5030]]) .ret))
def Uw : List RV := [.tmp 2]
/- probecard/memories.fits (function 88) -/
abbrev q1E : IC := .gh (.seq (.reg [od 37 (.bin .lss (tm 36) (tm 35))] [kp [3, 34, 35, 36, 37] []]) (.seq (.cond (tm 37) .skip (.exit 0)) (.seq (.block 1 (.seq (.reg [om 38 36, od 39 (ia 3 34 36), od 40 (lG 3 39), od 6 (.alloc false [(.slice none 0
 0), (.slice none 0 0), (.int .i64 0)]), om 5 38, on (.store 3 (tm 6) (tm 40))] [kp [3, 5, 6, 34, 35, 36] [6]]) (.seq (.reg [od 41 (.mkf 125 [(tm 6)]), om 7 41] [kp [3, 5, 6, 7, 34, 35, 36] [6]]) (.seq (.reg [od 42 (fa 1 3), od 43
 (ld 1 42), om 44 5, od 45 (ia 1 43 44), od 46 (ld 1 45), od 47 (le 0 46), od 48 (fa 0 6), od 49 (ld 1 48), od 50 (le 0 49), od 51 (.bin .shl (ki 1) (tm 50)), od 52 (.bin .neq (tm 47) (tm 51)), om 53 52, oF 54 (.mv (tm 7)) 53, oF 55
 (fa 2 3) 53, oF 56 (ld 1 55) 53, oF 57 (.mv (tm 5)) 53, oF 58 (ia 1 56 57) 53, oF 59 (ld 1 58) 53, oF 60 (.callv (tm 54) [(tm 59)]) 53, od 61 (.pick (tm 53) kT (tm 60)), om 62 61, oF 63 (fa 1 3) 62, oF 64 (ld 1 63) 62, oF 65 (.mv
 (tm 5)) 62, oF 66 (ia 1 64 65) 62, oF 67 (ld 1 66) 62, oF 68 (.mv (tm 7)) 62, oF 69 (.call 82 [(tm 67), (tm 68)]) 62, od 70 (.pick (tm 62) kT (tm 69))] [kp [3, 34, 35, 36, 70] []]) (.cond (tm 70) (.seq (.reg [od 4 (.mv kF)] [kp [4]
 []]) .ret) .skip))))) (.reg [od 71 (.bin .add (tm 36) (ki 1)), om 36 71] [kp [3, 34, 35, 36] []])))) [kp [3, 34, 35, 36] []]
def Ll : IC := .loop q1E
abbrev q1F : IC := (.seq (.reg [od 2 (.box true (tm 0)), od 3 (.box true (tm 1)), od 4 (.mv kF)] [kp [2, 3] []]) (.seq (.seq (.reg [od 8 (fa 0 3), od 9 (ld 1 8), od 10 (le 0 9), od 11 (lG 4 2), od 12 (.call 19 [(tm 11)]), od 13 (le 0 12), od 14 (.bin
 .neq (tm 10) (tm 13)), om 15 14, oF 16 (fa 1 3) 15, oF 17 (ld 1 16) 15, oF 18 (le 0 17) 15, oF 19 (fa 2 2) 15, oF 20 (ld 1 19) 15, oF 21 (le 0 20) 15, oF 22 (.bin .neq (tm 18) (tm 21)) 15, od 23 (.pick (tm 15) kT (tm 22)), om 24
 23, oF 25 (fa 2 3) 24, oF 26 (ld 1 25) 24, oF 27 (le 0 26) 24, oF 28 (fa 2 2) 24, oF 29 (ld 1 28) 24, oF 30 (le 0 29) 24, oF 31 (.bin .neq (tm 27) (tm 30)) 24, od 32 (.pick (tm 24) kT (tm 31))] [kp [2, 3, 32] []]) (.cond (tm 32)
 (.seq (.reg [od 4 (.mv kF)] [kp [4] []]) .ret) .skip)) (.seq (.seq (.reg [od 33 (fa 2 2), od 34 (ld 1 33), od 35 (le 0 34), od 36 (.mv (ki 0))] [kp [3, 34, 35, 36] []]) (.block 0 Ll)) (.seq (.reg [od 4 (.mv kT)] [kp
 [4] []]) .ret))))
theorem Ux (h : ∀ K : St → Prop, K = run P Γ Ll Q → run P Γ q1E (Am K Q) s) : run P Γ Ll Q s := Ae h
def q1G : List RV := [.tmp 4]
/- probecard/memories.fits$1 (function 125) -/
abbrev Yj : IC := (.seq (.reg [od 3 (.mv kF)] [kp [0, 1] []]) (.seq (.reg [om 4 0, od 5 (le 0 4), od 6 (fa 1 1), od 7 (ld 1 6), od 8 (le 0 7), od 9 (.bin .neq (tm 5) (tm 8)), om 3 9] [kp [3] []]) .ret))
def Yk : List RV := [.tmp 3]
/- probecard/memories.Check (function 36) -/
abbrev q02 : IC := (.seq (.reg [od 3 (.box true (tm 0)), od 4 (.box true (tm 1)), od 6 (.mv (ki 0))] [kp [2, 3, 4] []]) (.seq (.seq (.reg [od 10 (lG 4 3), od 11 (.call 20 [(tm 10)]), om 7 11] [kp [2, 3, 4, 7] []]) (.seq (.reg [om 12 7, od 13 (.bin
 .neq (tm 12) (ki 0))] [kp [2, 3, 4, 7, 13] []]) (.cond (tm 13) (.seq (.reg [om 14 7, om 6 14] [kp [6] []]) .ret) .skip))) (.seq (.reg [od 8 (.alloc false [.nilFunc]), on (.store 1 (tm 8) (.func 85))] [kp [2, 3, 4, 8] [8]]) (.seq
 (.reg [od 15 (.mkf 87 [(tm 8)]), om 9 15] [kp [2, 3, 4, 8, 9] [8]]) (.seq (.block 0 (.seq (.reg [om 17 2, od 18 (le 0 17), od 19 (lG 4 3), od 20 (.call 77 [(tm 19)]), od 21 (le 0 20), od 22 (.bin .neq (tm 18) (tm 21)), om 23 22, oF
 24 (lG 4 3) 23, oF 25 (lG 3 4) 23, oF 26 (.call 88 [(tm 24), (tm 25)]) 23, oF 27 (.un .not (tm 26)) 23, od 28 (.pick (tm 23) kT (tm 27)), om 16 28] [kp [2, 4, 8, 9, 16] [8]]) (.cond (tm 16) (.seq (.reg [od 6 (.mv (ki 8))] [kp [6]
 []]) .ret) (.seq (.reg [om 30 2, od 31 (ld 1 8), od 32 (.callv (tm 31) [(ku 3)]), od 33 (.call 80 [(tm 30), (tm 32)]), om 34 33, oF 35 (lG 3 4) 34, oF 36 (.call 89 [(tm 35)]) 34, oF 37 (.mv (tm 9)) 34, oF 38 (.call 82 [(tm 36), (tm
 37)]) 34, od 39 (.pick (tm 34) kT (tm 38)), om 29 39] [kp [29] []]) (.cond (tm 29) (.seq (.reg [od 6 (.mv (ki 1))] [kp [6] []]) .ret) .skip))))) (.seq (.reg [od 6 (.mv (ki 0))] [kp [6] []]) .ret))))))
def q03 : List RV := [.tmp 6]
/- probecard/memories.Check$1 (function 85) -/
abbrev Wc : IC := (.seq (.reg [od 1 (.box true (tm 0)), od 2 (.mv (.const .nilFunc))] [kp [1] []]) (.seq (.reg [od 3 (.mkf 86 [(tm 1)]), om 2 3] [kp [2] []]) .ret))
def We : List RV := [.tmp 2]
/- probecard/memories.Check$1$1 (function 86) -/
abbrev Ro : IC := (.seq (.reg [od 3 (.mv kF)] [kp [0, 1] []]) (.seq (.reg [om 4 0, od 5 (ld 1 1), od 6 (.bin .gtr (tm 4) (tm 5)), om 3 6] [kp [3] []]) .ret))
def Rq : List RV := [.tmp 3]
/- probecard/memories.Check$2 (function 87) -/
abbrev Wg : IC := (.seq (.reg [od 3 (.mv kF)] [kp [0, 1] []]) (.seq (.reg [om 4 0, od 5 (ld 1 1), od 6 (.callv (tm 5) [(ku 2)]), od 7 (.call 80 [(tm 4), (tm 6)]), om 3 7] [kp [3] []]) .ret))
def Wh : List RV := [.tmp 3]
/- probecard/memories.Cycle (function 11) -/
abbrev q04 : IC := .gh (.seq (.reg [od 49 (.bin .lss (tm 48) (tm 47))] [kp [3, 4, 6, 7, 11, 46, 47, 48, 49] [6, 7, 11, 35, 105, 127]]) (.seq (.cond (tm 49) .skip (.exit 0)) (.seq (.block 1 (.seq (.reg [od 50 (ia 1 46 48), od 51 (ld 1 50), om 15 51]
 [kp [3, 4, 6, 7, 11, 15, 46, 47, 48] [6, 7, 11, 35, 105, 127]]) (.seq (.reg [od 52 (fa 0 11), od 53 (fa 0 52), od 54 (ld 1 53), om 55 15, od 56 (ia 4 54 55), od 57 (lG 4 56), od 16 (.alloc false [(.int .u8 0), (.slice none 0 0),
 (.int .i64 0), (.int .i64 0)]), on (.store 4 (tm 16) (tm 57))] [kp [3, 4, 6, 7, 11, 15, 16, 46, 47, 48] [6, 7, 11, 16, 35, 105, 127]]) (.seq (.reg [od 58 (fa 0 16), od 59 (ld 1 58), od 60 (.call 39 [(tm 59)])] [kp [3, 4, 6, 7, 11,
 15, 16, 46, 47, 48, 60] [6, 7, 11, 16, 35, 105, 127]]) (.cond (tm 60) (.reg [od 61 (fa 4 11), od 62 (.ldR 11 1 false (tm 61)), om 63 15, od 64 (fa 0 16), od 65 (.ldR 16 1 false (tm 64)), od 66 (.ldR 11 5 true (tm 11)), od 67 (fa 1
 16), od 68 (.ldR 16 1 false (tm 67)), od 69 (.call 41 [(tm 66), (tm 68)]), od 70 (.call 40 [(tm 65), (tm 69)]), od 71 (ia 1 62 63), on (.stR 35 1 (tm 71) (tm 70))] [kp [3, 4, 6, 7, 11, 46, 47, 48] [6, 7, 11, 35, 105, 127]])
 .skip))))) (.reg [od 72 (.bin .add (tm 48) (ki 1)), om 48 72] [kp [3, 4, 6, 7, 11, 46, 47, 48] [6, 7, 11, 35, 105, 127]])))) [kp [3, 4, 6, 7, 11, 46, 47, 48] [6, 7, 11, 35, 105, 127]]
def Jx : IC := .loop q04
abbrev q05 : IC := .gh (.seq (.reg [od 87 (.bin .lss (tm 86) (tm 85))] [kp [4, 6, 7, 11, 17, 18, 84, 85, 86, 87] [6, 7, 11, 17, 18, 35, 105, 127]]) (.seq (.cond (tm 87) .skip (.exit 2)) (.seq (.block 3 (.seq (.reg [om 88 86, od 89 (ia 3 84 86), od 90
 (lG 3 89), od 20 (.alloc false [(.slice none 0 0), (.slice none 0 0), (.int .i64 0)]), om 19 88, on (.store 3 (tm 20) (tm 90))] [kp [4, 6, 7, 11, 17, 18, 19, 20, 84, 85, 86] [6, 7, 11, 17, 18, 20, 35, 105, 127]]) (.seq (.reg [od 91
 (lG 5 11), od 92 (fa 0 20), od 93 (ld 1 92), od 94 (.call 41 [(tm 91), (tm 93)]), om 21 94] [kp [4, 6, 7, 11, 17, 18, 19, 20, 21, 84, 85, 86] [6, 7, 11, 17, 18, 20, 35, 105, 127]]) (.seq (.reg [od 95 (fa 2 18), od 96 (.ldR 18 1
 false (tm 95)), od 97 (fa 1 4), od 98 (.ldT 1 false (tm 97)), om 99 19, od 100 (ia 1 98 99), od 101 (.ldT 1 false (tm 100)), om 102 21, od 103 (.call 45 [(tm 101), (tm 102)]), od 104 (.bsl true 41 1 [(tm 103)]), od 105 (.app false
 41 1 (tm 96) (tm 104)), od 106 (fa 2 18), on (.stR 18 1 (tm 106) (tm 105))] [kp [4, 6, 7, 11, 17, 18, 19, 20, 21, 84, 85, 86] [6, 7, 11, 17, 18, 20, 35, 105, 127]]) (.reg [od 107 (fa 1 18), od 108 (.ldR 18 1 false (tm 107)), od 109
 (fa 1 4), od 110 (.ldT 1 false (tm 109)), om 111 19, od 112 (ia 1 110 111), od 113 (.ldT 1 false (tm 112)), om 114 21, od 115 (.ldR 11 5 true (tm 11)), od 116 (fa 1 20), od 117 (.ldR 20 1 false (tm 116)), od 118 (.call 41 [(tm
 115), (tm 117)]), od 119 (fa 4 11), od 120 (.ldR 11 1 false (tm 119)), od 121 (fa 2 20), od 122 (.ldR 20 1 false (tm 121)), od 123 (ia 1 120 122), od 124 (.ldT 1 false (tm 123)), od 125 (.call 46 [(tm 113), (tm 114), (tm 118), (tm
 124)]), od 126 (.bsl true 43 1 [(tm 125)]), od 127 (.app false 43 1 (tm 108) (tm 126)), od 128 (fa 1 18), on (.stR 18 1 (tm 128) (tm 127))] [kp [4, 6, 7, 11, 17, 18, 84, 85, 86] [6, 7, 11, 17, 18, 35, 105, 127]]))))) (.reg [od 129
 (.bin .add (tm 86) (ki 1)), om 86 129] [kp [4, 6, 7, 11, 17, 18, 84, 85, 86] [6, 7, 11, 17, 18, 35, 105, 127]])))) [kp [4, 6, 7, 11, 17, 18, 84, 85, 86] [6, 7, 11, 17, 18, 35, 105, 127]]
def Jy : IC := .loop q05
abbrev q06 : IC := (.seq (.reg [od 3 (.box true (tm 0)), od 4 (.box true (tm 1)), od 6 (.alloc false [(.slice none 0 0), (.slice none 0 0), (.slice none 0 0)]), od 7 (.alloc false [(.slice none 0 0), (.slice none 0 0)]), od 8 (.mv kN), od 9 (.mv (ki
 0))] [kp [2, 3, 4, 6, 7] [6, 7, 105, 127]]) (.seq (.seq (.reg [od 22 (lG 4 3), od 23 (lG 3 4), om 24 2, od 25 (.call 36 [(tm 22), (tm 23), (tm 24)]), om 10 25] [kp [2, 3, 4, 6, 7, 10] [6, 7, 105, 127]]) (.seq (.reg [om 26 10, od 27
 (.bin .neq (tm 26) (ki 0))] [kp [2, 3, 4, 6, 7, 10, 27] [6, 7, 105, 127]]) (.cond (tm 27) (.seq (.reg [od 28 (.build [(1, kN), (1, kN), (1, kN)]), od 29 (.build [(1, kN), (1, kN)]), om 30 10, on (.store 3 (tm 6) (tm 28)), on
 (.store 2 (tm 7) (tm 29)), od 8 (.mv kN), om 9 30] [kp [6, 7, 8, 9] [6, 7, 35, 105, 127]]) .ret) .skip))) (.seq (.reg [od 31 (.ldT 4 true (tm 3)), od 32 (fa 0 3), od 33 (.ldT 1 false (tm 32)), od 34 (le 0 33), od 35 (.mkE 61 1
 [(.int .u8 0)] (tm 34) (tm 34)), od 36 (.build [(4, (tm 31)), (1, (tm 35))]), od 11 (.alloc false [(.slice none 0 0), (.slice none 0 0), (.slice none 0 0), (.slice none 0 0), (.slice none 0 0)]), on (.stR 11 5 (tm 11) (tm 36))] [kp
 [2, 3, 4, 6, 7, 11] [6, 7, 11, 35, 105, 127]]) (.seq (.reg [od 37 (lG 5 11), od 38 (lG 3 4), om 39 2, od 40 (.hcall 37 [(tm 37), (tm 38), (tm 39)] [35] 40000)] [kp [3, 4, 6, 7, 11] [6, 7, 11, 35, 105, 127]]) (.seq (.reg [od 42 (lG
 4 3), od 43 (.call 38 [(tm 42)]), om 41 43, od 44 (ex 41 0), od 45 (ex 41 1), om 12 44, om 13 45] [kp [3, 4, 6, 7, 11, 12] [6, 7, 11, 35, 105, 127]]) (.seq (.seq (.reg [om 46 12, od 47 (le 0 46), od 48 (.mv (ki 0))] [kp [3, 4, 6,
 7, 11, 46, 47, 48] [6, 7, 11, 35, 105, 127]]) (.gh (.block 0 Jx) [.frz 35])) (.seq (.reg [od 73 (lG 4 3), od 74 (fa 4 11), od 75 (ld 1 74), od 76 (.call 42 [(tm 73), (tm 75)]), od 17 (.alloc false [(.slice none 0 0),
 (.slice none 0 0)]), on (.store 2 (tm 17) (tm 76))] [kp [4, 6, 7, 11, 17] [6, 7, 11, 17, 35, 105, 127]]) (.seq (.reg [od 77 (fa 1 17), od 78 (ld 1 77), od 79 (.call 44 [(tm 78)]), od 80 (.call 43 [(tm 79)]), od 81 (.build [(1, (tm
 80)), (1, kN), (1, kN)]), od 18 (.alloc false [(.slice none 0 0), (.slice none 0 0), (.slice none 0 0)]), on (.store 3 (tm 18) (tm 81))] [.nlb 18 1 127 43 1, .nlb 18 2 105 41 1, kp [4, 6, 7, 11, 17, 18] [6, 7, 11, 17, 18, 35, 105,
 127]]) (.seq (.seq (.reg [od 82 (fa 0 11), od 83 (fa 2 82), od 84 (ld 1 83), od 85 (le 0 84), od 86 (.mv (ki 0))] [kp [4, 6, 7, 11, 17, 18, 84, 85, 86] [6, 7, 11, 17, 18, 35, 105, 127]]) (.gh (.block 2 Jy) [.frz 127,
 .frz 105])) (.seq (.reg [od 130 (fa 1 18), od 131 (.ldR 18 1 false (tm 130)), od 132 (.call 47 [(tm 131)]), od 133 (fa 2 18), od 134 (.ldR 18 1 false (tm 133)), od 135 (.call 48 [(tm 134)]), od 136 (fa 1 18), on (.stR 18 1 (tm 136)
 (tm 132)), od 137 (fa 2 18), on (.stR 18 1 (tm 137) (tm 135))] [kp [6, 7, 11, 17, 18] [6, 7, 11, 17, 18, 35, 105, 127]]) (.seq (.reg [od 138 (.ldR 18 3 true (tm 18)), od 139 (.ldR 17 2 true (tm 17)), od 140 (fa 4 11), od 141 (.ldR
 11 1 false (tm 140)), on (.stR 6 3 (tm 6) (tm 138)), on (.stR 7 2 (tm 7) (tm 139)), om 8 141, od 9 (.mv (ki 0))] [kp [6, 7, 8, 9] [6, 7, 35, 105, 127]]) .ret)))))))))))
theorem Rr (h : ∀ K : St → Prop, K = run P Γ Jx Q → run P Γ q04 (Am K Q) s) : run P Γ Jx Q s := Ae h
theorem Rt (h : ∀ K : St → Prop, K = run P Γ Jy Q → run P Γ q05 (Am K Q) s) : run P Γ Jy Q s := Ae h
def q07 : List RV := [.cell 6 3 true, .cell 7 2 true, .tmp 8, .tmp 9]
/- probecard/memories.Blank (function 29) -/
abbrev q08 : IC := .gh (.seq (.reg [od 32 (.bin .lss (tm 31) (tm 30))] [kp [2, 3, 5, 6, 18, 19, 20, 30, 31, 32] [2, 3, 5, 28, 46, 55]]) (.seq (.cond (tm 32) .skip (.exit 2)) (.seq (.block 3 (.seq (.reg [om 33 31, om 7 33] [kp [2, 3, 5, 6, 7, 18, 19,
 20, 30, 31] [2, 3, 5, 28, 46, 55]]) (.reg [om 34 6, om 35 7, od 36 (fa 1 5), od 37 (ld 1 36), od 38 (le 0 37), od 39 (.call 75 [(tm 38)]), od 40 (ia 1 34 35), on (.store 1 (tm 40) (tm 39))] [kp [2, 3, 5, 6, 18, 19, 20, 30, 31] [2,
 3, 5, 28, 46, 55]]))) (.reg [od 41 (.bin .add (tm 31) (ki 1)), om 31 41] [kp [2, 3, 5, 6, 18, 19, 20, 30, 31] [2, 3, 5, 28, 46, 55]])))) [kp [2, 3, 5, 6, 18, 19, 20, 30, 31] [2, 3, 5, 28, 46, 55]]
def Jz : IC := .loop q08
abbrev q09 : IC := .gh (.seq (.reg [od 21 (.bin .lss (tm 20) (tm 19))] [kp [2, 3, 18, 19, 20, 21] [2, 3, 46, 55]]) (.seq (.cond (tm 21) .skip (.exit 0)) (.seq (.block 1 (.seq (.reg [od 22 (ia 3 18 20), od 23 (lG 3 22), od 5 (.alloc false [(.slice
 none 0 0), (.slice none 0 0), (.int .i64 0)]), on (.store 3 (tm 5) (tm 23))] [kp [2, 3, 5, 18, 19, 20] [2, 3, 5, 46, 55]]) (.seq (.reg [od 24 (fa 0 5), od 25 (ld 1 24), od 26 (le 0 25), od 27 (.bin .shl (ki 1) (tm 26)), od 28 (.mk
 41 1 [(.slice none 0 0)] (tm 27) (tm 27)), om 6 28] [kp [2, 3, 5, 6, 18, 19, 20] [2, 3, 5, 28, 46, 55]]) (.seq (.seq (.reg [om 29 6, od 30 (le 0 29), od 31 (.mv (ki 0))] [kp [2, 3, 5, 6, 18, 19, 20, 30, 31] [2, 3, 5, 28, 46, 55]])
 (.gh (.block 2 Jz) [.frz 28])) (.seq (.reg [od 42 (fa 1 3), od 43 (ld 1 42), om 44 6, od 45 (.bsl true 43 1 [(tm 44)]), od 46 (.app false 43 1 (tm 43) (tm 45)), od 47 (fa 1 3), on (.store 1 (tm 47) (tm 46))] [kp [2,
 3, 5, 18, 19, 20] [2, 3, 5, 46, 55]]) (.reg [od 48 (fa 2 3), od 49 (.ldR 3 1 false (tm 48)), od 50 (fa 1 5), od 51 (.ldR 5 1 false (tm 50)), od 52 (le 0 51), od 53 (.call 75 [(tm 52)]), od 54 (.bsl true 41 1 [(tm 53)]), od 55 (.app
 false 41 1 (tm 49) (tm 54)), od 56 (fa 2 3), on (.stR 3 1 (tm 56) (tm 55))] [kp [2, 3, 18, 19, 20] [2, 3, 46, 55]])))))) (.reg [od 57 (.bin .add (tm 20) (ki 1)), om 20 57] [kp [2, 3, 18, 19, 20] [2, 3, 46, 55]])))) [kp [2, 3, 18,
 19, 20] [2, 3, 46, 55]]
def K1 : IC := .loop q09
abbrev q0A : IC := (.seq (.reg [od 1 (.box true (tm 0)), od 2 (.alloc false [(.slice none 0 0), (.slice none 0 0), (.slice none 0 0)])] [kp [1, 2] [2, 46, 55]]) (.seq (.seq (.reg [od 8 (lG 4 1), od 9 (.call 20 [(tm 8)]), od 10 (.bin .neq (tm 9) (ki
 0))] [kp [1, 2, 10] [2, 46, 55]]) (.cond (tm 10) (.seq (.reg [od 11 (.build [(1, kN), (1, kN), (1, kN)]), on (.store 3 (tm 2) (tm 11))] [kp [2] [2, 46, 55]]) .ret) .skip)) (.seq (.reg [od 12 (lG 4 1), od 13 (.call 19 [(tm 12)]), od
 14 (le 0 13), od 15 (.call 75 [(tm 14)]), od 16 (.build [(1, (tm 15)), (1, kN), (1, kN)]), od 3 (.alloc false [(.slice none 0 0), (.slice none 0 0), (.slice none 0 0)]), on (.store 3 (tm 3) (tm 16))] [.nlb 3 1 46 43 1, .nlb 3 2 55
 41 1, kp [1, 2, 3] [2, 3, 46, 55]]) (.seq (.seq (.reg [od 17 (fa 2 1), od 18 (ld 1 17), od 19 (le 0 18), od 20 (.mv (ki 0))] [kp [2, 3, 18, 19, 20] [2, 3, 46, 55]]) (.gh (.block 0 K1) [.frz 46, .frz 55])) (.seq (.reg
 [od 58 (fa 1 3), od 59 (.ldR 3 1 false (tm 58)), od 60 (.call 47 [(tm 59)]), od 61 (fa 2 3), od 62 (.ldR 3 1 false (tm 61)), od 63 (.call 48 [(tm 62)]), od 64 (fa 1 3), on (.stR 3 1 (tm 64) (tm 60)), od 65 (fa 2 3), on (.stR 3 1
 (tm 65) (tm 63))] [kp [2, 3] [2, 3, 46, 55]]) (.seq (.reg [od 66 (lG 3 3), on (.store 3 (tm 2) (tm 66))] [kp [2] [2, 46, 55]]) .ret))))))
theorem Ru (h : ∀ K : St → Prop, K = run P Γ Jz Q → run P Γ q08 (Am K Q) s) : run P Γ Jz Q s := Ae h
theorem Rw (h : ∀ K : St → Prop, K = run P Γ K1 Q → run P Γ q09 (Am K Q) s) : run P Γ K1 Q s := Ae h
def q0B : List RV := [.cell 2 3 true]
/- slices.Clip[[][][]probecard/api.Value,[][]probecard/api.Value] (function 47) -/
abbrev L2 : IC := (.seq (.reg [od 2 (.mv kN)] [kp [0] []]) (.seq (.reg [om 3 0, om 4 0, od 5 (le 0 4), om 6 0, od 7 (le 0 6), od 8 (.slice 1 (tm 3) none (some (tm 5)) (some (tm 7))), om 2 8] [kp [2] []]) .ret))
def L6 : List RV := [.tmp 2]
/- slices.Grow[[][]probecard/api.Value,[]probecard/api.Value] (function 115) -/
abbrev M8 : IC := (.seq (.reg [od 4 (.mv kN)] [kp [0, 1] [22]]) (.seq (.seq (.reg [om 5 1, od 6 (.bin .lss (tm 5) (ki 0))] [kp [0, 1, 6] [22]]) (.cond (tm 6) .dead .skip)) (.seq (.seq (.reg [om 8 1, om 9 0, od 10 (.cap (tm 9)), om 11 0, od 12 (le 0
 11), od 13 (.bin .sub (tm 10) (tm 12)), od 14 (.bin .sub (tm 8) (tm 13)), om 1 14] [kp [0, 1] [22]]) (.seq (.reg [om 15 1, od 16 (.bin .gtr (tm 15) (ki 0))] [kp [0, 1, 16] [22]]) (.cond (tm 16) (.reg [om 17 0, om 18 0, od 19 (.cap
 (tm 18)), od 20 (.slice 1 (tm 17) none (some (tm 19)) none), om 21 1, od 22 (.appZ 41 1 [(.slice none 0 0)] (tm 20) (tm 21)), om 23 0, od 24 (le 0 23), od 25 (.slice 1 (tm 22) none (some (tm 24)) none), om 0 25] [kp [0] [22]])
 .skip))) (.seq (.reg [om 26 0, om 4 26] [kp [4] [22]]) .ret))))
def M9 : List RV := [.tmp 4]
/- slices.Concat[[][]probecard/api.Value,[]probecard/api.Value] (function 70) -/
abbrev K2 : IC := .gh (.seq (.reg [od 12 (.bin .lss (tm 11) (tm 10))] [kp [0, 3, 9, 10, 11, 12] []]) (.seq (.cond (tm 12) .skip (.exit 0)) (.seq (.block 1 (.seq (.reg [od 13 (ia 1 9 11), od 14 (ld 1 13), om 5 14] [kp [0, 3, 5, 9, 10, 11] []]) (.seq
 (.reg [om 15 3, om 16 5, od 17 (le 0 16), od 18 (.bin .add (tm 15) (tm 17)), om 3 18] [kp [0, 3, 9, 10, 11] []]) (.seq (.reg [om 19 3, od 20 (.bin .lss (tm 19) (ki 0))] [kp [0, 3, 9, 10, 11, 20] []]) (.cond (tm 20) .dead .skip)))))
 (.reg [od 22 (.bin .add (tm 11) (ki 1)), om 11 22] [kp [0, 3, 9, 10, 11] []])))) [kp [0, 3, 9, 10, 11] []]
def Dz : IC := .loop K2
abbrev K3 : IC := .gh (.seq (.reg [od 28 (.bin .lss (tm 27) (tm 26))] [kp [6, 25, 26, 27, 28] [24022]]) (.seq (.cond (tm 28) .skip (.exit 2)) (.seq (.block 3 (.seq (.reg [od 29 (ia 1 25 27), od 30 (ld 1 29), om 8 30] [kp [6, 8, 25, 26, 27] [24022]])
 (.reg [om 31 6, om 32 8, oz 33 (.app false 41 1 (tm 31) (tm 32)) 24022, om 6 33] [kp [6, 25, 26, 27] [24022]]))) (.reg [od 34 (.bin .add (tm 27) (ki 1)), om 27 34] [kp [6, 25, 26, 27] [24022]])))) [kp [6, 25, 26, 27] [24022]]
def E0 : IC := .loop K3
abbrev K4 : IC := (.seq (.reg [od 2 (.mv kN)] [kp [0] []]) (.seq (.reg [od 3 (.mv (ki 0))] [kp [0, 3] []]) (.seq (.seq (.reg [om 9 0, od 10 (le 0 9), od 11 (.mv (ki 0))] [kp [0, 3, 9, 10, 11] []]) (.block 0 Dz)) (.seq (.reg
 [om 23 3, od 24 (.hcall 115 [kN, (tm 23)] [] 24000), om 6 24] [kp [0, 6] [24022]]) (.seq (.seq (.reg [om 25 0, od 26 (le 0 25), od 27 (.mv (ki 0))] [kp [6, 25, 26, 27] [24022]]) (.block 2 E0)) (.seq (.reg
 [om 35 6, om 2 35] [kp [2] [24022]]) .ret))))))
theorem He (h : ∀ K : St → Prop, K = run P Γ Dz Q → run P Γ K2 (Am K Q) s) : run P Γ Dz Q s := Ae h
theorem Hf (h : ∀ K : St → Prop, K = run P Γ E0 Q → run P Γ K3 (Am K Q) s) : run P Γ E0 Q s := Ae h
def K5 : List RV := [.tmp 2]
/- slices.ContainsFunc[[][]probecard/api.Value,[]probecard/api.Value] (function 82) -/
abbrev Gk : IC := (.seq (.reg [od 4 (.mv kF)] [kp [0, 1] []]) (.seq (.reg [om 5 0, om 6 1, od 7 (.call 124 [(tm 5), (tm 6)]), od 8 (.bin .geq (tm 7) (ki 0)), om 4 8] [kp [4] []]) .ret))
def Gm : List RV := [.tmp 4]
/- slices.IndexFunc[[][]probecard/api.Value,[]probecard/api.Value] (function 124) -/
abbrev I1 : IC := .gh (.seq (.reg [od 9 (.bin .lss (tm 8) (tm 7))] [kp [0, 1, 7, 8, 9] []]) (.seq (.cond (tm 9) .skip (.exit 0)) (.seq (.block 1 (.seq (.reg [om 10 8, om 5 10] [kp [0, 1, 5, 7, 8] []]) (.seq (.reg [om 11 1, om 12 0, om 13 5, od 14
 (ia 1 12 13), od 15 (ld 1 14), od 16 (.callv (tm 11) [(tm 15)])] [kp [0, 1, 5, 7, 8, 16] []]) (.cond (tm 16) (.seq (.reg [om 17 5, om 4 17] [kp [4] []]) .ret) .skip)))) (.reg [od 18 (.bin .add (tm 8) (ki 1)), om 8 18] [kp [0, 1, 7,
 8] []])))) [kp [0, 1, 7, 8] []]
def D7 : IC := .loop I1
abbrev I2 : IC := (.seq (.reg [od 4 (.mv (ki 0))] [kp [0, 1] []]) (.seq (.seq (.reg [om 6 0, od 7 (le 0 6), od 8 (.mv (ki 0))] [kp [0, 1, 7, 8] []]) (.block 0 D7)) (.seq (.reg [od 4 (.mv (.const (.int .i64 (-1))))] [kp
 [4] []]) .ret)))
theorem G8 (h : ∀ K : St → Prop, K = run P Γ D7 Q → run P Γ I1 (Am K Q) s) : run P Γ D7 Q s := Ae h
def I3 : List RV := [.tmp 4]
end
end Go.Lg
namespace Go.Lg
open Go Go.Proofs
theorem q3Z : Ap Tryz.prog 102 W7 27 2 N9 = true := by kernel_rfl
theorem q7s : Ap Tryz.prog 103 Vm 14 2 Vn = true := by kernel_rfl
theorem q4Q : Ap Tryz.prog 104 Oj 9 2 Ol = true := by kernel_rfl
theorem q6y : Ap Tryz.prog 45 Td 55 2 Tf = true := by kernel_rfl
theorem q5r : Ap Tryz.prog 46 Qf 96 4 Qg = true := by kernel_rfl
theorem q3a : Ap Tryz.prog 105 W8 6 1 W9 = true := by kernel_rfl
theorem q3b : Ap Tryz.prog 75 Wa 6 1 Wb = true := by kernel_rfl
theorem Xc : Ap Tryz.prog 41 L0 27 2 L1 = true := by kernel_rfl
theorem Z7 : Ap Tryz.prog 37 Nw 83 3 Nx = true := by kernel_rfl
theorem q5s : Ap Tryz.prog 89 q00 24 1 q01 = true := by kernel_rfl
theorem q4R : Ap Tryz.prog 89 Yh 24 1 Yi = true := by kernel_rfl
theorem q2m : Ap Tryz.prog 75 Uu 6 1 Uw = true := by kernel_rfl
theorem q6z : Ap Tryz.prog 88 q1F 72 2 q1G = true := by kernel_rfl
theorem q4S : Ap Tryz.prog 125 Yj 10 2 Yk = true := by kernel_rfl
theorem q5t : Ap Tryz.prog 36 q02 40 3 q03 = true := by kernel_rfl
theorem q3c : Ap Tryz.prog 85 Wc 4 1 We = true := by kernel_rfl
theorem q23 : Ap Tryz.prog 86 Ro 7 2 Rq = true := by kernel_rfl
theorem q3d : Ap Tryz.prog 87 Wg 8 2 Wh = true := by kernel_rfl
theorem q5u : Ap Tryz.prog 11 q06 142 3 q07 = true := by kernel_rfl
theorem q5v : Ap Tryz.prog 29 q0A 67 1 q0B = true := by kernel_rfl
theorem Xd : Ap Tryz.prog 47 L2 9 1 L6 = true := by kernel_rfl
theorem Yl : Ap Tryz.prog 115 M8 27 2 M9 = true := by kernel_rfl
theorem Vo : Ap Tryz.prog 70 K4 36 1 K5 = true := by kernel_rfl
theorem On : Ap Tryz.prog 82 Gk 9 2 Gm = true := by kernel_rfl
theorem Qx : Ap Tryz.prog 124 I2 19 2 I3 = true := by kernel_rfl
structure NG (B : Bool) (ns : List Nd) (i : Nat) (x : Nd) : Prop where
 k : 0 ≤ x.k ∧ x.k ≤ 15
 f : (Vh x.k).1 ≤ x.inn.l.length ∧ (x.inn.l.length : Int) ≤ (Vh x.k).2
 inn : ∀ p ∈ x.inn.l, 0 ≤ p ∧ p < ns.length
 top : 1 ≤ x.k ∧ x.k ≤ 13 → ∀ p ∈ x.inn.l, p < i
 bus : x.k = 13 → ∀ p ∈ x.inn.l, (ns.getD p.toNat Nd.d).k = 12
 mm : (x.k ≠ 15 → x.mem = 0 ∧ x.bit = 0) ∧ (x.k = 15 → B = true ∧ x.mem = 0 ∧ 0 ≤ x.bit ∧ x.bit ≤ 1)
theorem NG.mono {B : Bool} {ns ys : List Nd} {i : Nat} {x : Nd} (h : NG B ns i x) : NG B (ns ++ ys) i x :=
 ⟨h.k, h.f, fun p hp => by have := h.inn p hp; simp; omega, h.top, fun hk p hp => by
  have h1 := h.inn p hp
  rw [List.getD_eq_getElem?_getD, List.getElem?_append_left (by omega), ← List.getD_eq_getElem?_getD]
  exact h.bus hk p hp, h.mm⟩
def GNs (B : Bool) (ns : List Nd) : Prop := ∀ i (h : i < ns.length), NG B ns i ns[i]
theorem GNs.add {B : Bool} {ns : List Nd} {y : Nd} (h : GNs B ns) (hy : NG B (ns ++ [y]) ns.length y) : GNs B (ns ++ [y]) := by
 intro i hi
 by_cases h1 : i < ns.length
 ·rw [List.getElem_append_left h1]; exact (h i h1).mono
 ·have : i = ns.length := by simp at hi; omega
  subst this
  simpa using hy
theorem Ti : Vh 0 = (0, 0) ∧ Vh 1 = (0, 0) ∧ Vh 2 = (0, 0) ∧ Vh 3 = (1, 1) ∧ Vh 4 = (1, 1) ∧ Vh 5 = (2, 16) ∧ Vh 6 = (2, 16) ∧ Vh 7 = (2, 16) ∧ Vh 8 = (2, 16) ∧ Vh 9 = (2, 16) ∧ Vh 10 = (2, 16) ∧ Vh 11 = (3, 3) ∧ Vh 12 = (2, 2) ∧ Vh 13 = (1, 16) ∧ Vh 14 = (1, 1) ∧ Vh 15 = (0, 0) := by decide
theorem qM1 {B : Bool} {ns : List Nd} {i : Nat} : NG B ns i q8o := ⟨by decide, by decide, by simp [q8o], by simp [q8o], by simp [q8o], by simp [q8o]⟩
theorem qM2 {B : Bool} {ns : List Nd} {i : Nat} {v : Int} (h : 0 ≤ v ∧ v < ns.length) : NG B ns i (q7j v) := ⟨by simp [q7j], by simp [q7j, Ti], by simp [q7j]; exact h, by simp [q7j], by simp [q7j], by simp [q7j]⟩
theorem qIR {ns : List Nd} {i : Nat} {b : Int} (h : b = 0 ∨ b = 1) : NG true ns i (q5h b) := ⟨by simp [q5h], by simp [q5h, Ti], by simp [q5h], by simp [q5h], by simp [q5h], by simp [q5h]; omega⟩
theorem qM3 {ns : List Nd} : ∀ p ∈ q6e ns, 0 ≤ p ∧ p < ns.length ∧ (ns.getD p.toNat Nd.d).k = 12 := by
 intro p hp
 obtain ⟨h1, h2, h3⟩ := q6d [12] ns 0 p hp
 refine ⟨by omega, by omega, ?_⟩
 simpa using h3
theorem qFw {l : List Int} {q : Nat} (h : q < l.length) : l.getD q 0 ∈ l := by
 rw [List.getD_eq_getElem?_getD, List.getElem?_eq_getElem h]; exact List.getElem_mem h
theorem qJz {B bus : Bool} {g : Gd} {ns : List Nd} (hg : qCG g) (h0 : 1 ≤ ns.length) : NG B (ns ++ [q6f bus g ns]) ns.length (q6f bus g ns) := by
 have a := Cm (n := ns.length) hg.2.1.1 (by omega)
 have b := Cm (n := ns.length) hg.2.2.1.1 (by omega)
 have d := Cm (n := ns.length) hg.2.2.2.1 (by omega)
 have m13 : 0 ≤ g.k.tmod 13 ∧ g.k.tmod 13 < 13 := Cm (n := 13) hg.1.1 (by omega)
 have m9 : 0 ≤ g.k.tmod 9 ∧ g.k.tmod 9 < 9 := Cm (n := 9) hg.1.1 (by omega)
 have ma : 0 ≤ g.a.tmod 2 ∧ g.a.tmod 2 < 2 := Cm (n := 2) hg.2.1.1 (by omega)
 have hkk : 0 ≤ (if bus then g.k.tmod 13 else g.k.tmod 9) ∧ (if bus then g.k.tmod 13 else g.k.tmod 9) < 13 := by cases bus <;> simp <;> omega
 have ht := qM3 (ns := ns)
 obtain ⟨y, hy⟩ : ∃ y, y = q6f bus g ns := ⟨_, rfl⟩
 rw [← hy]
 have hlen : (ns ++ [y]).length = ns.length + 1 := by simp
 have old : ∀ p : Int, 0 ≤ p → p < ns.length → ((ns ++ [y]).getD p.toNat Nd.d).k = (ns.getD p.toNat Nd.d).k := fun p h1 h2 => by
  rw [List.getD_eq_getElem?_getD, List.getElem?_append_left (by omega), ← List.getD_eq_getElem?_getD]
 -- what suffices of a plain gate
 have mk : ∀ (k : Int) (l : List Int) (cap : Option Nat) (nl : Option Bool), 0 ≤ k → k ≤ 15 → k ≠ 13 → k ≠ 15 → (Vh k).1 ≤ l.length → (l.length : Int) ≤ (Vh k).2 → (∀ p ∈ l, 0 ≤ p ∧ p < ns.length) → NG B (ns ++ [y]) ns.length ⟨k, ⟨l, cap, nl⟩, 0, 0⟩ := fun k l cap nl h1 h2 h3 h4 h5 h6 h7 =>
  ⟨⟨h1, h2⟩, ⟨h5, h6⟩, fun p hp => by have := h7 p hp; omega, fun _ p hp => (h7 p hp).2, fun e => absurd e h3, fun _ => ⟨rfl, rfl⟩, fun e => absurd e h4⟩
 unfold q6f qDJ at hy
 simp only at hy
 generalize g.a.tmod ns.length = a' at *
 generalize g.b.tmod ns.length = b' at *
 generalize g.d.tmod ns.length = d' at *
 generalize (if bus = true then g.k.tmod 13 else g.k.tmod 9) = kk at *
 have two : ∀ p ∈ [a', b'], 0 ≤ p ∧ p < ns.length := by intro p hp; simp at hp; rcases hp with rfl | rfl; exact a; exact b
 have three : ∀ p ∈ [a', b', d'], 0 ≤ p ∧ p < ns.length := by intro p hp; simp at hp; rcases hp with rfl | rfl | rfl; exact a; exact b; exact d
 have one : ∀ p ∈ [a'], 0 ≤ p ∧ p < ns.length := by intro p hp; simp at hp; rcases hp with rfl; exact a
 split at hy
 ·rename_i h6
  have hc : kk = 0 ∨ kk = 1 ∨ kk = 2 ∨ kk = 3 ∨ kk = 4 ∨ kk = 5 := by omega
  split at hy
  ·rw [hy]
   have hf : (Vh (5 + kk)).1 = 2 ∧ (Vh (5 + kk)).2 = 16 := by rcases hc with rfl | rfl | rfl | rfl | rfl | rfl <;> decide
   rw [← hy]
   have := mk (5 + kk) [a', b', d'] none none (by omega) (by omega) (by omega) (by omega) (by rw [hf.1]; simp) (by rw [hf.2]; simp) three
   rw [← hy] at this; exact this
  ·have hf : (Vh (5 + kk)).1 = 2 ∧ (Vh (5 + kk)).2 = 16 := by rcases hc with rfl | rfl | rfl | rfl | rfl | rfl <;> decide
   have := mk (5 + kk) [a', b'] none none (by omega) (by omega) (by omega) (by omega) (by rw [hf.1]; simp) (by rw [hf.2]; simp) two
   rw [← hy] at this; exact this
 split at hy
 ·have := mk 4 [a'] none none (by omega) (by omega) (by omega) (by omega) (by simp [Ti]) (by simp [Ti]) one
  rw [← hy] at this; exact this
 split at hy
 ·have := mk 11 [a', b', d'] none none (by omega) (by omega) (by omega) (by omega) (by simp [Ti]) (by simp [Ti]) three
  rw [← hy] at this; exact this
 split at hy
 ·have := mk 12 [a', b'] none none (by omega) (by omega) (by omega) (by omega) (by simp [Ti]) (by simp [Ti]) two
  rw [← hy] at this; exact this
 split at hy
 ·rename_i ht2
  generalize q6e ns = t at *
  have mt := Cm (n := t.length) hg.2.1.1 ht2.2
  have mt2 := Cm (a := g.a.tmod t.length + 1) (n := t.length) (by omega) ht2.2
  have q1 := ht _ (qFw (l := t) (q := (g.a.tmod t.length).toNat) (by omega))
  have q2 := ht _ (qFw (l := t) (q := ((g.a.tmod t.length + 1).tmod t.length).toNat) (by omega))
  generalize t.getD (g.a.tmod t.length).toNat 0 = u1 at *
  generalize t.getD ((g.a.tmod t.length + 1).tmod t.length).toNat 0 = u2 at *
  have mkb : ∀ (l : List Int) (cap : Option Nat) (nl : Option Bool), 1 ≤ l.length → l.length ≤ 16 → (∀ p ∈ l, 0 ≤ p ∧ p < ns.length ∧ (ns.getD p.toNat Nd.d).k = 12) → NG B (ns ++ [y]) ns.length ⟨13, ⟨l, cap, nl⟩, 0, 0⟩ := fun l cap nl h5 h6 h7 =>
   ⟨by simp, ⟨by simp [Ti]; omega, by simp [Ti]; omega⟩, fun p hp => by have := h7 p hp; omega, fun _ p hp => (h7 p hp).2.1, fun _ p hp => by rw [old p (h7 p hp).1 (h7 p hp).2.1]; exact (h7 p hp).2.2, fun _ => ⟨rfl, rfl⟩, fun e => by simp at e⟩
  split at hy
  ·have := mkb [u1, u2] none none (by simp) (by simp) (by intro p hp; simp at hp; rcases hp with rfl | rfl; exact q1; exact q2)
   rw [← hy] at this; exact this
  ·have := mkb [u1] none none (by simp) (by simp) (by intro p hp; simp at hp; rcases hp with rfl; exact q1)
   rw [← hy] at this; exact this
 split at hy
 ·have hc : g.a.tmod 2 = 0 ∨ g.a.tmod 2 = 1 := by omega
  have hf : (Vh (1 + g.a.tmod 2)).1 = 0 ∧ (Vh (1 + g.a.tmod 2)).2 = 0 := by rcases hc with e | e <;> rw [e] <;> decide
  have := mk (1 + g.a.tmod 2) [] (some 0) (some true) (by omega) (by omega) (by omega) (by omega) (by rw [hf.1]; simp) (by rw [hf.2]; simp) (by simp)
  rw [← hy] at this; exact this
 ·have := mk 3 [a'] none none (by omega) (by omega) (by omega) (by omega) (by simp [Ti]) (by simp [Ti]) one
  rw [← hy] at this; exact this
theorem qBf {B bus : Bool} : ∀ {l : List Gd} {ns : List Nd}, (∀ g ∈ l, qCG g) → 1 ≤ ns.length → GNs B ns → GNs B (Sv bus l ns)
 | [], ns, _, _, h => h
 | g :: l, ns, hg, h0, h => by
  simp only [Sv]
  exact qBf (fun y hy => hg y (List.mem_cons_of_mem _ hy)) (by simp) (h.add (qJz (hg g List.mem_cons_self) h0))
theorem qK0 {B : Bool} {ns : List Nd} {j : Nat} {v : Int} (h : GNs B ns) (hj : j < ns.length) (hk : ns[j].k = 14) (hv : 0 ≤ v ∧ v < ns.length) : GNs B (Vz ns j v) := by
 have hm := (h j hj).mm.1 (by rw [hk]; decide)
 have hgd : ns.getD j Nd.d = ns[j] := by simp [List.getD_eq_getElem?_getD, hj]
 have kinds : ∀ q : Nat, ((Vz ns j v).getD q Nd.d).k = (ns.getD q Nd.d).k := fun q => by
  unfold Vz
  simp only [List.getD_eq_getElem?_getD, List.getElem?_set]
  split
  ·rename_i e; subst e; simp [hj]
  ·rfl
 intro i hi
 have hi' : i < ns.length := by rw [P7] at hi; exact hi
 by_cases hij : i = j
 ·subst hij
  have : (Vz ns i v)[i] = ⟨14, ⟨[v], some 1, some false⟩, 0, 0⟩ := by
   simp only [Vz, hgd, hk, hm.1, hm.2, List.getElem_set_self]
  rw [this]
  exact ⟨by simp, by simp [Ti], by simp [P7]; exact hv, by simp, by simp, by simp⟩
 ·have : (Vz ns j v)[i] = ns[i] := by
   simp only [Vz]
   rw [List.getElem_set_ne (fun e => hij e.symm)]
  rw [this]
  have hn := h i hi'
  exact ⟨hn.k, hn.f, fun p hp => by rw [P7]; exact hn.inn p hp, hn.top, fun hk p hp => by rw [kinds]; exact hn.bus hk p hp, hn.mm⟩
theorem qEq {ns : List Nd} {j q : Nat} {v : Int} : ((Vz ns j v).getD q Nd.d).k = (ns.getD q Nd.d).k := by
 unfold Vz
 simp only [List.getD_eq_getElem?_getD, List.getElem?_set]
 split
 ·rename_i e; subst e
  split
  ·simp
  ·rename_i h; simp [List.getElem?_eq_none (Nat.le_of_not_lt h)]
 ·rfl
theorem qDc {B : Bool} {x : CD} {first : Nat} (h0 : Byt x.d0) (h1 : Byt x.d1) : ∀ {k i : Nat} {ns : List Nd}, GNs B ns → (∀ q, q < i + k → first + q < ns.length ∧ (ns.getD (first + q) Nd.d).k = 14) → GNs B (q3C x first k i ns)
 | 0, _, _, h, _ => h
 | k + 1, i, ns, h, hq => by
  simp only [q3C]
  obtain ⟨hl, hk⟩ := hq i (by omega)
  have hd : 0 ≤ ddN x i := by unfold ddN; split; exact h0.1; exact h1.1
  have hv := Cm (n := ns.length) hd (by omega)
  refine qDc h0 h1 (qK0 h hl (by simpa [List.getD_eq_getElem?_getD, hl] using hk) hv) fun q hq' => ?_
  rw [P7, qEq]
  exact hq q (by omega)
theorem q8Q {bus : Bool} : ∀ {l : List Gd} {ns : List Nd} {q : Nat}, q < ns.length → ((Sv bus l ns).getD q Nd.d) = (ns.getD q Nd.d)
 | [], _, _, _ => rfl
 | g :: l, ns, q, h => by
  simp only [Sv]
  rw [q8Q (by simp; omega)]
  rw [List.getD_eq_getElem?_getD, List.getElem?_append_left h, ← List.getD_eq_getElem?_getD]
theorem qCN {B : Bool} {x : Nd} (h : ∀ ns : List Nd, 1 ≤ ns.length → ∀ i, NG B ns i x) : ∀ (k : Nat) {ns : List Nd}, GNs B ns → GNs B (ns ++ List.replicate k x)
 | 0, ns, hn => by simpa using hn
 | k + 1, ns, hn => by
  rw [List.replicate_succ, List.append_cons]
  exact qCN h k (hn.add (h _ (by simp) _))
theorem q8R {x : CD} (hx : q7l x) : GNs x.mem (H8 x) := by
 have m4 : 0 ≤ x.i.tmod 4 ∧ x.i.tmod 4 < 4 := Cm (n := 4) hx.i.1 (by omega)
 have m3 : 0 ≤ x.f.tmod 3 ∧ x.f.tmod 3 < 3 := Cm (n := 3) hx.f.1 (by omega)
 have g0 : GNs x.mem [] := fun i h => by simp at h
 have g1 : GNs x.mem (Iy x) := by
  have := qCN (B := x.mem) (x := q8o) (fun ns _ i => qM1) (x.i.tmod 4 + 1).toNat g0
  simpa [Iy] using this
 have l1 : 1 ≤ (Iy x).length := by simp [Iy]; omega
 have g2 : GNs x.mem (G3 x) := qCN (fun ns h i => qM2 ⟨by omega, by omega⟩) _ g1
 have l2 : (G3 x).length = (Iy x).length + (x.f.tmod 3).toNat := by simp [G3]
 have g3 : GNs x.mem (Ez x) := by
  unfold Ez
  split
  ·rename_i hm
   rw [hm] at g2 ⊢
   have a1 := g2.add (y := q5h 0) (qIR (.inl rfl))
   have a2 := a1.add (y := q5h 1) (qIR (.inr rfl))
   rw [List.append_assoc] at a2
   exact a2
  ·exact g2
 have l3 : (G3 x).length ≤ (Ez x).length := by unfold Ez; split <;> simp
 have g4 : GNs x.mem (C5 x) := qBf (fun g hg => hx.gates g (List.mem_of_mem_take hg)) (by omega) g3
 have l4 : (Ez x).length ≤ (C5 x).length := by unfold C5; rw [q1t]; omega
 refine qDc hx.d0 hx.d1 g4 fun q hq => ⟨by omega, ?_⟩
 unfold C5
 rw [q8Q (by omega)]
 have e : (Ez x).getD ((Iy x).length + q) Nd.d = (G3 x).getD ((Iy x).length + q) Nd.d := by
  unfold Ez
  split
  ·rw [List.getD_eq_getElem?_getD, List.getElem?_append_left (by omega), ← List.getD_eq_getElem?_getD]
  ·rfl
 rw [e]
 unfold G3
 rw [List.getD_eq_getElem?_getD, List.getElem?_append_right (by omega)]
 simp only [Nat.add_sub_cancel_left]
 rw [List.getElem?_replicate, if_pos (by omega)]
 rfl
theorem q24 {α : Type} {f : α → Int} : ∀ {l : List α}, (∀ x ∈ l, f x = 0) → Do (l.map f) = 0
 | [], _ => rfl
 | x :: l, h => by
  simp only [List.map_cons, Do, h x List.mem_cons_self, ne_eq, not_true_eq_false, if_false]
  exact q24 fun y hy => h y (List.mem_cons_of_mem _ hy)
theorem qEr : ∀ n, n ≤ 16 → J4 [] ((List.range' 0 n).map q15) = 0 := by
 intro n hn
 have : n = 0 ∨ n = 1 ∨ n = 2 ∨ n = 3 ∨ n = 4 ∨ n = 5 ∨ n = 6 ∨ n = 7 ∨ n = 8 ∨ n = 9 ∨ n = 10 ∨ n = 11 ∨ n = 12 ∨ n = 13 ∨ n = 14 ∨ n = 15 ∨ n = 16 := by omega
 rcases this with rfl | rfl | rfl | rfl | rfl | rfl | rfl | rfl | rfl | rfl | rfl | rfl | rfl | rfl | rfl | rfl | rfl <;> decide +kernel
theorem qH1 {x : CD} (hx : q7l x) : Dx (ofC x) = 0 := by
 have hl := q5j hx
 have h5 := q5k hx
 have hg := q8R hx
 have hN : (ofC x).nodes.l = H8 x := rfl
 have hmods : ∀ b, Byt b → 0 ≤ b.tmod (C5 x).length ∧ b.tmod (C5 x).length < (H8 x).length := fun b hb => by
  have := Cm (n := (C5 x).length) hb.1 (by omega); omega
 have hout : ∀ n, 0 ≤ n ∧ n < ((H8 x).length : Int) → Q6 (ofC x) n = false := fun n h => by simp [Q6, hN]; omega
 have hnode : ∀ y ∈ H8 x, Dq (ofC x) y = 0 := by
  intro y hy
  obtain ⟨i, hi, rfl⟩ := List.getElem_of_mem hy
  have hn := hg i hi
  unfold Dq
  rw [if_neg (by have := hn.k; omega), if_neg (by have := hn.f; omega)]
  have h1 : (H8 x)[i].inn.l.any (Q6 (ofC x)) = false := List.any_eq_false.2 fun p hp => by rw [hout p (hn.inn p hp)]; simp
  rw [h1]
  have h2 : ¬ ((H8 x)[i].k = 13 ∧ (H8 x)[i].inn.l.any (q37 (ofC x)) = true) := by
   rintro ⟨hk, ha⟩
   obtain ⟨p, hp, hq⟩ := List.any_eq_true.1 ha
   have := hn.bus hk p hp
   simp [q37, hN] at hq
   rw [List.getD_eq_getElem?_getD] at this
   exact hq this
  rw [if_neg (by simp), if_neg h2]
  have h3 : q13 (ofC x) (H8 x)[i] = true := by
   unfold q13
   by_cases hk : (H8 x)[i].k = 15
   ·obtain ⟨hm, e1, e2, e3⟩ := hn.mm.2 hk
    simp only [hk, ne_eq, not_true_eq_false, if_false, decide_eq_true_eq]
    simp [ofC, qAq, hm, e1]
    omega
   ·have := hn.mm.1 hk
    simp [hk, this]
  rw [h3]; simp
 unfold Dx
 have e1 : ¬ (16384 < (ofC x).nodes.l.length ∨ 16 < (ofC x).mems.l.length ∨ 16384 < (ofC x).outs.l.length) := by
  have : (ofC x).mems.l.length ≤ 1 := by simp only [ofC, qAq]; split <;> simp
  have : (ofC x).outs.l.length ≤ 4 := by simp [ofC]; omega
  rw [hN]; omega
 have e2 : (ofC x).names.l.length = (ofC x).nodes.l.length := by rw [hN]; simp [ofC]; omega
 rw [if_neg e1, if_neg (by simp [e2]), if_neg (by rw [hN, q24 hnode]; simp), if_neg (by
  rw [show (ofC x).names.l = (List.range' 0 (C5 x).length).map q15 from rfl, qEr _ hl.2]; simp), if_neg (by
  rw [q24]
  ·simp
  ·intro m hm
   simp only [ofC, qAq] at hm
   split at hm
   ·simp at hm; subst hm
    unfold Oc
    have a0 := hout _ (hmods _ hx.p0)
    have a1 := hout _ (hmods _ hx.p1)
    have a2 := hout _ (hmods _ hx.p2)
    have a3 := hout _ (hmods _ hx.p3)
    simp [Vi, a0, a1, a2, a3]
   ·cases hm)]
 have ho : (ofC x).outs.l.any (Q6 (ofC x)) = false := by
  refine List.any_eq_false.2 fun p hp => ?_
  have : 0 ≤ p ∧ p < ((H8 x).length : Int) := by
   simp only [ofC, List.mem_append, List.mem_map, List.mem_singleton] at hp
   rcases hp with ⟨b, hb, rfl⟩ | rfl
   ·exact hmods b (hx.outs b (List.mem_of_mem_take hb))
   ·omega
  rw [hout p this]; simp
 rw [ho]; rfl
theorem qBg {x : CD} (hx : q7l x) : Gq (ofC x) = 0 := by
 have hs := qH1 hx
 have hg := q8R hx
 have hN : (ofC x).nodes.l = H8 x := rfl
 have hin : ∀ y ∈ (ofC x).nodes.l, ∀ p ∈ y.inn.l, 0 ≤ p ∧ p < (ofC x).nodes.l.length := by
  intro y hy p hp
  rw [hN] at hy ⊢
  obtain ⟨i, hi, rfl⟩ := List.getElem_of_mem hy
  exact (hg i hi).inn p hp
 have hd := qDO (ofC x) (Ia hs).2.1 hin (by
  intro i hi hc p hp
  rw [hN] at hi
  have e : (ofC x).nodes.l.getD i Nd.d = (H8 x)[i] := by rw [hN]; simp [List.getD_eq_getElem?_getD, hi]
  simp only [Bo, Jm, e] at hc hp
  exact (hg i hi).top (by simpa [Fj] using hc) p hp)
 unfold Gq
 rw [if_neg (by simp [hs]), if_neg hd]
end Go.Lg
namespace Go.Lg
open Go Go.Proofs
variable {Γ : Tables}
theorem Lm {f : FuncId} {as' : List AV} {ts : List T} {res : T} {K : T → Prop} (h : A3 Tryz.prog Γ f ts res) (ht : Af (as'.map toT) = some ts) (hk : K res) : qCB Tryz.prog Γ f as' K ⟨⟩ := ⟨ts, res, ht, .inr h, hk⟩
theorem qH2 (q : PD) (hq : q8v q) (c : B5) (hc : COk c) : A3 Tryz.prog Γ 35 [.agg (tPD q), .agg (tC c)] (.agg (tP (qAL q c))) := by
 refine A7 qAF rfl ?_
 have h1 := qFu (Γ := Γ) q.i (Bz c).length (Nat.le_trans (Oi c) hc.nodes) 4 (by omega)
 have h2 := qFu (Γ := Γ) q.s (Aj c).length (Nat.le_trans (Di c) hc.nodes) 3 (by omega)
 have l1 : (Vl q.i.l (Bz c).length 4).length = (Bz c).length := q21
 have l2 : (Vl q.s.l (Aj c).length 3).length = (Aj c).length := q21
 have k1 := Ci (l := Vl q.i.l (Bz c).length 4)
 have k2 := Ci (l := Vl q.s.l (Aj c).length 3)
 rw [l1] at k1
 rw [l2] at k2
 simp [q4s, tC, A5, A8, Ad, B1, tPD, tV]
 refine Lm (qAJ c hc 0) rfl ?_
 simp
 refine ⟨_, _, h1, ?_⟩
 simp
 refine Lm (qAJ c hc 14) rfl ?_
 simp
 refine ⟨_, _, h2, ?_⟩
 simp [q4t, As, Ah, k1, k2, tP, tV, qAL, qNn, qNo]
structure NOk (c : B5) : Prop where
 ok : COk c
 lev : Gq c = 0
 mm : c.mems.l = []
 m0 : mems c = []
 n1 : 1 ≤ c.nodes.l.length
 n2 : c.nodes.l.length ≤ 16
 k : ∀ i, i < c.nodes.l.length → 0 ≤ Bo c i ∧ Bo c i ≤ 14
theorem qFx {l : List Int} {n : Nat} {most : Int} (hl : ∀ v ∈ l, 0 ≤ v) (hm : 0 < most ∧ most ≤ 4) : ∀ v ∈ Vl l n most, V4 v := by
 intro v hv
 obtain ⟨i, _, rfl⟩ := List.mem_map.1 hv
 split
 ·simp [V4]
 ·rename_i h
  have hpos : 0 < l.length := List.length_pos_iff.2 h
  have h0 : 0 ≤ l.getD (i % l.length) 0 := by
   rw [Cj (Nat.mod_lt _ hpos)]; exact hl _ (List.getElem_mem _)
  generalize l.getD (i % l.length) 0 = u at *
  rw [Int.tmod_eq_emod_of_nonneg h0]
  have := Int.emod_nonneg u (show most ≠ 0 by omega)
  have := Int.emod_lt_of_pos u hm.1
  unfold V4; omega
structure POk (c : B5) (p : Pat) : Prop where
 i : p.inn.l.length = (Bz c).length
 s : p.st.l.length = (Aj c).length
 vi : ∀ v ∈ p.inn.l, V4 v
 vs : ∀ v ∈ p.st.l, V4 v
theorem qIS {q : PD} (hq : q8v q) (c : B5) : POk c (qAL q c) :=
 ⟨q21, q21, qFx (fun v hv => (hq.1 v hv).1) (by omega), qFx (fun v hv => (hq.2 v hv).1) (by omega)⟩
theorem qH3 {c : B5} (hc : NOk c) {p : Pat} (hp : POk c p) : qEp c p = 0 := by
 unfold qEp
 rw [if_neg (by simp [hc.lev])]
 unfold q6x
 have a1 : ∀ {l : List Int}, (∀ v ∈ l, V4 v) → l.any q0e = false := fun h => List.any_eq_false.2 fun v hv => by have := (h v hv).2; simp [q0e]; omega
 rw [if_neg (by rw [hc.mm, hc.m0]; simp), if_neg (by simp [hp.i, hp.s]), a1 hp.vi, a1 hp.vs]
 simp
theorem Blw.below {a b : Int} (h : Blw a b) : qIC a b = true := by
 unfold qIC
 rcases h with rfl | rfl
 ·simp
 ·simp [F2]
theorem qEl.map {α : Type} {f g : α → Int} {l : List α} (h : ∀ x ∈ l, Blw (f x) (g x)) : qEl (l.map f) (l.map g) := by
 refine ⟨by simp, fun i => ?_⟩
 by_cases hi : i < l.length
 ·rw [Cj (by simpa using hi), Cj (by simpa using hi), List.getElem_map, List.getElem_map]
  exact h _ (List.getElem_mem hi)
 ·rw [List.getD_eq_getElem?_getD, List.getD_eq_getElem?_getD, List.getElem?_eq_none (by simp; omega), List.getElem?_eq_none (by simp; omega)]
  exact .refl _
end Go.Lg
namespace Go.Lg
open Go Go.Proofs
structure T3 where
 a : Int
 b : Int
 d : Int
deriving DecidableEq
def qCO (c : B5) (rd : List (List Int)) : List Int := (mems c).map fun n => (rd.getD (nd c n).mem.toNat []).getD (nd c n).bit.toNat 0
def q1H (c : B5) (pin pst : List Int) (rd : List (List Int)) : List Int := Hz (mems c) (qCO c rd) (qFr c pin pst)
def qIT (c : B5) (pin pst : List Int) (rd : List (List Int)) : List Int := qGv c (Vj c) (q1H c pin pst rd)
theorem q7t {c : B5} {pin pst : List Int} {rd : List (List Int)} : (q1H c pin pst rd).length = c.nodes.l.length := by unfold q1H; rw [T0, qGw]
theorem qH4 {c : B5} {pin pst : List Int} {rd : List (List Int)} : (qIT c pin pst rd).length = c.nodes.l.length := by unfold qIT; rw [qDQ, q7t]
def q0h : Nat → List Int → Bool
 | i, [] => decide (i = 0)
 | i, v :: l => if v ≤ 1 ∧ v ≠ (i : Int) % 2 then false else q0h (i / 2) l
def qBh (a b : Int) : Int := if a = b then a else 2
def q3e (w : List Int) (b : Nat) : Int := if b < w.length then P8 (w.getD b 0) else 2
def q1I (w : List Int) (first : Bool) : Nat → Nat → List Int → List Int
 | 0, _, out => out
 | k + 1, b, out => q1I w first k (b + 1) (out.set b (if first then q3e w b else qBh (out.getD b 0) (q3e w b)))
def q4y (addr : List Int) : Nat → List (List Int) → List Int × Bool → List Int × Bool
 | _, [], s => s
 | i, w :: ws, s => q4y addr (i + 1) ws (if q0h i addr then (q1I w s.2 s.1.length 0 s.1, false) else s)
def q3f (words : List (List Int)) (addr : List Int) : List Int := match words with
 | [] => []
 | w :: ws => (q4y addr 0 (w :: ws) (List.replicate w.length 2, true)).1
def q8S (addr : List Int) (en : Int) : Bool := decide (en = 1) && !addr.any fun v => !N7 v
def qAM (i : Nat) (addr : List Int) (en old new : Int) : Int := if en = 0 ∨ q0h i addr = false then old else if q8S addr en = true then new else qBh old new
def Vp (i : Nat) (addr data : List Int) (en : Int) (w : List Int) : Nat → Nat → List Int
 | 0, _ => []
 | k + 1, b => qAM i addr en (q3e w b) (q3e data b) :: Vp i addr data en w k (b + 1)
def Gt (addr data : List Int) (en : Int) : Nat → List (List Int) → List (List Int)
 | _, [] => []
 | i, w :: ws => Vp i addr data en w w.length 0 :: Gt addr data en (i + 1) ws
end Go.Lg
namespace Go.Lg
open Go
section
variable {P : Program} {Γ : Tables} {Q : AX → St → Prop} {s : St}
/- slices.Repeat[[]probecard/api.Value,probecard/api.Value] (function 117) -/
abbrev L8 : IC := .gh (.seq (.seq (.reg [om 34 8, om 35 7, od 36 (le 0 35), od 37 (.bin .lss (tm 34) (tm 36))] [kp [7, 8, 37] [30]]) (.cond (tm 37) .skip (.exit 0))) (.block 1 (.reg [om 38 8, om 39 7, om 40 8, od 41 (.slice 1 (tm 39) (some (tm 40))
 none none), om 42 7, om 43 8, od 44 (.slice 1 (tm 42) none (some (tm 43)) none), od 45 (.cpy 1 (tm 41) (tm 44)), od 46 (.bin .add (tm 38) (tm 45)), om 8 46] [kp [7, 8] [30]]))) [kp [7, 8] [30]]
def E6 : IC := .loop L8
abbrev G9 : IC := (.seq (.reg [od 4 (.mv kN)] [kp [0, 1] []]) (.seq (.seq (.reg [om 9 1, od 10 (.bin .lss (tm 9) (ki 0))] [kp [0, 1, 10] []]) (.cond (tm 10) .dead .skip)) (.seq (.reg [om 13 0, od 14 (le 0 13), od 15 (.conv .u64 (tm 14)), om 16 1, od
 17 (.conv .u64 (tm 16)), od 18 (.call 144 [(tm 15), (tm 17)]), om 12 18, od 19 (ex 12 0), od 20 (ex 12 1), om 5 19, om 6 20] [kp [0, 5, 6] []]) (.seq (.seq (.reg [om 21 5, od 22 (.bin .gtr (tm 21) (.const (.int .u64 0))), om 23 22,
 oF 24 (.mv (tm 6)) 23, oF 25 (.bin .gtr (tm 24) (.const (.int .u64 9223372036854775807))) 23, od 26 (.pick (tm 23) kT (tm 25))] [kp [0, 6, 26] []]) (.cond (tm 26) .dead .skip)) (.seq (.reg [om 28 6, od 29 (.conv .i64 (tm 28)), od
 30 (.mk 61 1 [(.int .u8 0)] (tm 29) (tm 29)), om 7 30] [kp [0, 7] [30]]) (.seq (.reg [om 31 7, om 32 0, od 33 (.cpy 1 (tm 31) (tm 32)), om 8 33] [kp [7, 8] [30]]) (.seq (.block 0 E6) (.seq (.reg [om 47 7, om
 4 47] [kp [4] [30]]) .ret))))))))
theorem D8 (h : ∀ K : St → Prop, K = run P Γ E6 Q → run P Γ L8 (Am K Q) s) : run P Γ E6 Q s := Ae h
def D5 : List RV := [.tmp 4]
/- probecard/sims.Blank (function 71) -/
abbrev q4z : IC := (.seq (.reg [od 1 (.box true (tm 0)), od 2 (.alloc false [(.slice none 0 0), (.slice none 0 0)])] [kp [1, 2] [2]]) (.seq (.reg [od 3 (.mv (.func 116))] [kp [1, 2, 3] [2]]) (.seq (.reg [om 4 3, od 5 (.ldT 4 true (tm 1)), od 6 (.call
 77 [(tm 5)]), od 7 (le 0 6), od 8 (.callv (tm 4) [(tm 7)]), om 9 3, od 10 (.ldT 4 true (tm 1)), od 11 (.call 19 [(tm 10)]), od 12 (le 0 11), od 13 (.callv (tm 9) [(tm 12)]), od 14 (.build [(1, (tm 8)), (1, (tm 13))]), on (.stR 2 2
 (tm 2) (tm 14))] [kp [2] [2]]) .ret)))
def q50 : List RV := [.cell 2 2 true]
/- probecard/sims.Blank$1 (function 116) -/
abbrev q2K : IC := (.seq (.reg [od 2 (.mv kN)] [kp [0] []]) (.seq (.reg [od 3 (.bsl true 61 1 [(ku 2)]), om 4 0, od 5 (.call 117 [(tm 3), (tm 4)]), om 2 5] [kp [2] []]) .ret))
def q2L : List RV := [.tmp 2]
/- math/bits.Mul (function 144) -/
abbrev q8T : IC := (.seq (.reg [od 4 (.mv (.const (.int .u64 0))), od 5 (.mv (.const (.int .u64 0)))] [kp [0, 1] []]) (.seq (.cond kF (.seq (.reg [om 11 0, od 12 (.conv .u32 (tm 11)), om 13 1, od 14 (.conv .u32 (tm 13)), od 15 (.call 160 [(tm 12),
 (tm 14)]), om 10 15, od 16 (ex 10 0), od 17 (ex 10 1), om 6 16, om 7 17] [kp [6, 7] []]) (.seq (.reg [om 18 6, od 19 (.conv .u64 (tm 18)), om 20 7, od 21 (.conv .u64 (tm 20)), om 4 19, om 5 21] [kp [4, 5] []]) .ret)) .skip) (.seq
 (.reg [om 23 0, om 24 1, od 25 (.call 161 [(tm 23), (tm 24)]), om 22 25, od 26 (ex 22 0), od 27 (ex 22 1), om 8 26, om 9 27] [kp [8, 9] []]) (.seq (.reg [om 28 8, om 29 9, om 4 28, om 5 29] [kp [4, 5] []]) .ret))))
def q8U : List RV := [.tmp 4, .tmp 5]
/- math/bits.Mul64 (function 161) -/
abbrev q51 : IC := (.seq (.reg [od 4 (.mv (.const (.int .u64 0))), od 5 (.mv (.const (.int .u64 0)))] [kp [0, 1] []]) (.seq (.reg [om 14 0, od 15 (.bin .and (tm 14) (.const (.int .u64 4294967295))), om 6 15] [kp [0, 1, 6] []]) (.seq (.reg [om 16 0,
 od 17 (.bin .shr (tm 16) (.const (.int .u64 32))), om 7 17] [kp [0, 1, 6, 7] []]) (.seq (.reg [om 18 1, od 19 (.bin .and (tm 18) (.const (.int .u64 4294967295))), om 8 19] [kp [0, 1, 6, 7, 8] []]) (.seq (.reg [om 20 1, od 21 (.bin
 .shr (tm 20) (.const (.int .u64 32))), om 9 21] [kp [0, 1, 6, 7, 8, 9] []]) (.seq (.reg [om 22 6, om 23 8, od 24 (.bin .mul (tm 22) (tm 23)), om 10 24] [kp [0, 1, 6, 7, 8, 9, 10] []]) (.seq (.reg [om 25 7, om 26 8, od 27 (.bin .mul
 (tm 25) (tm 26)), om 28 10, od 29 (.bin .shr (tm 28) (.const (.int .u64 32))), od 30 (.bin .add (tm 27) (tm 29)), om 11 30] [kp [0, 1, 6, 7, 9, 11] []]) (.seq (.reg [om 31 11, od 32 (.bin .and (tm 31) (.const (.int .u64
 4294967295))), om 12 32] [kp [0, 1, 6, 7, 9, 11, 12] []]) (.seq (.reg [om 33 11, od 34 (.bin .shr (tm 33) (.const (.int .u64 32))), om 13 34] [kp [0, 1, 6, 7, 9, 12, 13] []]) (.seq (.reg [om 35 12, om 36 6, om 37 9, od 38 (.bin
 .mul (tm 36) (tm 37)), od 39 (.bin .add (tm 35) (tm 38)), om 12 39] [kp [0, 1, 7, 9, 12, 13] []]) (.seq (.reg [om 40 7, om 41 9, od 42 (.bin .mul (tm 40) (tm 41)), om 43 13, od 44 (.bin .add (tm 42) (tm 43)), om 45 12, od 46 (.bin
 .shr (tm 45) (.const (.int .u64 32))), od 47 (.bin .add (tm 44) (tm 46)), om 4 47] [kp [0, 1, 4] []]) (.seq (.reg [om 48 0, om 49 1, od 50 (.bin .mul (tm 48) (tm 49)), om 5 50] [kp [4, 5] []]) .ret))))))))))))
def q52 : List RV := [.tmp 4, .tmp 5]
end
end Go.Lg
namespace Go.Lg
open Go Go.Proofs
theorem K6 : Ap Tryz.prog 117 G9 48 2 D5 = true := by kernel_rfl
theorem qAN : Ap Tryz.prog 71 q4z 15 1 q50 = true := by kernel_rfl
theorem q7u : Ap Tryz.prog 116 q2K 6 1 q2L = true := by kernel_rfl
theorem qCP : Ap Tryz.prog 144 q8T 30 2 q8U = true := by kernel_rfl
theorem qAO : Ap Tryz.prog 161 q51 51 2 q52 = true := by kernel_rfl
end Go.Lg
namespace Go.Lg
open Go
section
variable {P : Program} {Γ : Tables} {Q : AX → St → Prop} {s : St}
/- slices.Clone[[]probecard/api.Value,probecard/api.Value] (function 44) -/
abbrev E9 : IC := (.seq (.reg [od 2 (.mv kN)] [kp [0] []]) (.seq (.seq (.reg [om 3 0, od 4 (.isNil true (tm 3))] [kp [0, 4] []]) (.cond (tm 4) (.seq (.reg [od 2 (.mv kN)] [kp [2] []]) .ret) .skip)) (.seq (.reg [od 5 (.bsl true 61 1 []), om 6 0, od 7
 (.appT 61 1 (tm 5) (tm 6)), om 2 7] [kp [2] []]) .ret)))
def Ea : List RV := [.tmp 2]
end
end Go.Lg
namespace Go.Lg
open Go Go.Proofs
theorem Ym : Ap Tryz.prog 44 E9 8 1 Ea = true := by kernel_rfl
end Go.Lg
namespace Go.Lg
open Go
section
variable {P : Program} {Γ : Tables} {Q : AX → St → Prop} {s : St}
/- slices.Clip[[]probecard/api.Node,probecard/api.Node] (function 64) -/
abbrev Pj : IC := (.seq (.reg [od 2 (.mv kN)] [kp [0] [1000000]]) (.seq (.reg [om 3 0, om 4 0, od 5 (le 0 4), om 6 0, od 7 (le 0 6), od 8 (.slice 4 (tm 3) none (some (tm 5)) (some (tm 7))), om 2 8] [kp [2] [1000000]]) .ret))
def Pl : List RV := [.tmp 2]
/- slices.Clip[[]string,string] (function 65) -/
abbrev Rx : IC := (.seq (.reg [od 2 (.mv kN)] [kp [0] []]) (.seq (.reg [om 3 0, om 4 0, od 5 (le 0 4), om 6 0, od 7 (le 0 6), od 8 (.slice 1 (tm 3) none (some (tm 5)) (some (tm 7))), om 2 8] [kp [2] []]) .ret))
def Ry : List RV := [.tmp 2]
/- strconv.Itoa (function 22) -/
abbrev q2M : IC := (.seq (.reg [od 2 (.mv (.const (sV [])))] [kp [0] []]) (.seq (.reg [om 3 0, od 4 (.call 68 [(tm 3)]), om 2 4] [kp [2] []]) .ret))
def q2N : List RV := [.tmp 2]
/- internal/strconv.Itoa (function 68) -/
abbrev q0C : IC := (.seq (.reg [od 2 (.mv (.const (sV [])))] [kp [0] []]) (.seq (.reg [om 3 0, od 4 (.call 114 [(tm 3), (ki 10)]), om 2 4] [kp [2] []]) .ret))
def q0D : List RV := [.tmp 2]
/- internal/strconv.FormatInt (function 114) -/
abbrev Qh : IC := (.seq (.reg [od 4 (.mv (.const (sV [])))] [kp [0, 1] []]) (.seq (.seq (.reg [om 10 1, od 11 (.bin .eql (tm 10) (ki 10))] [kp [0, 1, 11] []]) (.cond (tm 11) (.seq (.seq (.reg [om 12 0, od 13 (.bin .leq (ki 0) (tm 12)), om 14 13, oT
 15 (.mv (tm 0)) 14, oT 16 (.bin .lss (tm 15) (ki 100)) 14, od 17 (.pick (tm 14) (tm 16) kF)] [kp [0, 17] []]) (.cond (tm 17) (.seq (.reg [om 18 0, od 19 (.call 140 [(tm 18)]), om 4 19] [kp [4] []]) .ret) .skip)) (.seq (.reg [od 5
 (.alloc false [(.int .u8 0), (.int .u8 0), (.int .u8 0), (.int .u8 0), (.int .u8 0), (.int .u8 0), (.int .u8 0), (.int .u8 0), (.int .u8 0), (.int .u8 0), (.int .u8 0), (.int .u8 0), (.int .u8 0), (.int .u8 0), (.int .u8 0), (.int
 .u8 0), (.int .u8 0), (.int .u8 0), (.int .u8 0), (.int .u8 0), (.int .u8 0), (.int .u8 0), (.int .u8 0), (.int .u8 0)])] [kp [0, 5] [5]]) (.seq (.reg [om 20 0, od 21 (.conv .u64 (tm 20)), om 6 21] [kp [0, 5, 6] [5]]) (.seq (.seq
 (.reg [om 22 0, od 23 (.bin .lss (tm 22) (ki 0))] [kp [0, 5, 6, 23] [5]]) (.cond (tm 23) (.reg [om 24 6, od 25 (.un .neg (tm 24)), om 6 25] [kp [0, 5, 6] [5]]) .skip)) (.seq (.reg [om 26 6, od 27 (.call 141 [(tm 26)]), om 7 27] [kp
 [0, 5, 6, 7] [5]]) .dead))))) .skip)) (.seq (.reg [om 45 0, od 46 (.conv .u64 (tm 45)), om 47 1, om 48 0, od 49 (.bin .lss (tm 48) (ki 0)), od 50 (.call 143 [kN, (tm 46), (tm 47), (tm 49), kF]), om 44 50, od 51 (ex 44 0), od 52 (ex
 44 1), om 8 51, om 9 52] [kp [9] []]) (.seq (.reg [om 53 9, om 4 53] [kp [4] []]) .ret))))
def Qi : List RV := [.tmp 4]
/- internal/strconv.small (function 140) -/
abbrev Oo : IC := (.seq (.reg [od 2 (.mv (.const (sV [])))] [kp [0] []]) (.seq (.seq (.reg [om 3 0, od 4 (.bin .lss (tm 3) (ki 10))] [kp [0, 4] []]) (.cond (tm 4) (.seq (.reg [om 5 0, om 6 0, od 7 (.bin .add (tm 6) (ki 1)), od 8 (.slice 0 (.const
 (sV [48, 49, 50, 51, 52, 53, 54, 55, 56, 57, 97, 98, 99, 100, 101, 102, 103, 104, 105, 106, 107, 108, 109, 110, 111, 112, 113, 114, 115, 116, 117, 118, 119, 120, 121, 122])) (some (tm 5)) (some (tm 7)) none), om 2 8] [kp [2] []])
 .ret) .skip)) (.seq (.reg [om 9 0, od 10 (.bin .mul (tm 9) (ki 2)), om 11 0, od 12 (.bin .mul (tm 11) (ki 2)), od 13 (.bin .add (tm 12) (ki 2)), od 14 (.slice 0 (.const (sV [48, 48, 48, 49, 48, 50, 48, 51, 48, 52, 48, 53, 48, 54,
 48, 55, 48, 56, 48, 57, 49, 48, 49, 49, 49, 50, 49, 51, 49, 52, 49, 53, 49, 54, 49, 55, 49, 56, 49, 57, 50, 48, 50, 49, 50, 50, 50, 51, 50, 52, 50, 53, 50, 54, 50, 55, 50, 56, 50, 57, 51, 48, 51, 49, 51, 50, 51, 51, 51, 52, 51, 53,
 51, 54, 51, 55, 51, 56, 51, 57, 52, 48, 52, 49, 52, 50, 52, 51, 52, 52, 52, 53, 52, 54, 52, 55, 52, 56, 52, 57, 53, 48, 53, 49, 53, 50, 53, 51, 53, 52, 53, 53, 53, 54, 53, 55, 53, 56, 53, 57, 54, 48, 54, 49, 54, 50, 54, 51, 54, 52,
 54, 53, 54, 54, 54, 55, 54, 56, 54, 57, 55, 48, 55, 49, 55, 50, 55, 51, 55, 52, 55, 53, 55, 54, 55, 55, 55, 56, 55, 57, 56, 48, 56, 49, 56, 50, 56, 51, 56, 52, 56, 53, 56, 54, 56, 55, 56, 56, 56, 57, 57, 48, 57, 49, 57, 50, 57, 51,
 57, 52, 57, 53, 57, 54, 57, 55, 57, 56, 57, 57])) (some (tm 10)) (some (tm 13)) none), om 2 14] [kp [2] []]) .ret)))
def Oq : List RV := [.tmp 2]
end
end Go.Lg
namespace Go.Lg
open Go Go.Proofs
theorem q0i : Ap Tryz.prog 64 Pj 9 1 Pl = true := by kernel_rfl
theorem q25 : Ap Tryz.prog 65 Rx 9 1 Ry = true := by kernel_rfl
theorem q7v : Ap Tryz.prog 22 q2M 5 1 q2N = true := by kernel_rfl
theorem q5w : Ap Tryz.prog 68 q0C 5 1 q0D = true := by kernel_rfl
theorem q1J : Ap Tryz.prog 114 Qh 54 2 Qi = true := by kernel_rfl
theorem q4T : Ap Tryz.prog 140 Oo 15 1 Oq = true := by kernel_rfl
end Go.Lg
namespace Go.Lg
open Go Go.Proofs
variable {Γ : Tables}
def q2O (i : Nat) : List UInt8 := if i < 10 then [UInt8.ofNat (48 + i)] else [UInt8.ofNat (48 + i / 10), UInt8.ofNat (48 + i % 10)]
def qNp : List UInt8 := [48, 49, 50, 51, 52, 53, 54, 55, 56, 57, 97, 98, 99, 100, 101, 102, 103, 104, 105, 106, 107, 108, 109, 110, 111, 112, 113, 114, 115, 116, 117, 118, 119, 120, 121, 122]
def qNq : List UInt8 := (List.range 100).flatMap fun i => [UInt8.ofNat (48 + i / 10), UInt8.ofNat (48 + i % 10)]
theorem qK1 : ∀ i, i < 10 → ((ByteArray.mk qNp.toArray).extract i (i + 1)).data.toList = [UInt8.ofNat (48 + i)] := by decide +kernel
theorem qK2 : ∀ i, i < 100 → ((ByteArray.mk qNq.toArray).extract (i * 2) (i * 2 + 2)).data.toList = [UInt8.ofNat (48 + i / 10), UInt8.ofNat (48 + i % 10)] := by decide +kernel
theorem qKi {a : ByteArray} {l : List UInt8} (h : a.data.toList = l) : a = ByteArray.mk l.toArray := by
 cases a; simp only at h; subst h; rfl
theorem qEs (i : Nat) (hi : i < 100) : A3 Tryz.prog Γ 140 [tI i] (tS (q2O i)) := by
 refine A7 q4T rfl ?_
 by_cases h : i < 10
 ·have h' : (i : Int) < 10 := by omega
  have e := qKi (qK1 i h)
  simp only [qNp] at e
  simp (disch := omega) [Oo, sV, h, h', A4]
  have e1 : ((i : Int) + 1).toNat = i + 1 := by omega
  simp [Oq, e1, e, q2O, h, tS, sV]
  omega
 ·have h' : ¬ (i : Int) < 10 := by omega
  have e := qKi (qK2 i hi)
  have d2 : qNq = [48, 48, 48, 49, 48, 50, 48, 51, 48, 52, 48, 53, 48, 54, 48, 55, 48, 56, 48, 57, 49, 48, 49, 49, 49, 50, 49, 51, 49, 52, 49, 53, 49, 54, 49, 55, 49, 56, 49, 57, 50, 48, 50, 49, 50, 50, 50, 51, 50, 52, 50, 53, 50, 54, 50, 55, 50, 56, 50, 57, 51, 48, 51, 49, 51, 50, 51, 51, 51, 52, 51, 53, 51, 54, 51, 55, 51, 56, 51, 57, 52, 48, 52, 49, 52, 50, 52, 51, 52, 52, 52, 53, 52, 54, 52, 55, 52, 56, 52, 57, 53, 48, 53, 49, 53, 50, 53, 51, 53, 52, 53, 53, 53, 54, 53, 55, 53, 56, 53, 57, 54, 48, 54, 49, 54, 50, 54, 51, 54, 52, 54, 53, 54, 54, 54, 55, 54, 56, 54, 57, 55, 48, 55, 49, 55, 50, 55, 51, 55, 52, 55, 53, 55, 54, 55, 55, 55, 56, 55, 57, 56, 48, 56, 49, 56, 50, 56, 51, 56, 52, 56, 53, 56, 54, 56, 55, 56, 56, 56, 57, 57, 48, 57, 49, 57, 50, 57, 51, 57, 52, 57, 53, 57, 54, 57, 55, 57, 56, 57, 57] := by decide +kernel
  rw [d2] at e
  simp (disch := omega) [Oo, sV, h, h', A4]
  have e1 : ((i : Int) * 2).toNat = i * 2 := by omega
  have e2 : ((i : Int) * 2 + 2).toNat = i * 2 + 2 := by omega
  simp [Oq, e1, e2, e, q2O, h, tS, sV]
  omega
theorem qBi (i : Nat) (hi : i < 100) : A3 Tryz.prog Γ 22 [tI i] (tS (q2O i)) := by
 have h1 : A3 Tryz.prog Γ 114 [tI i, tI 10] (tS (q2O i)) := by
  refine A7 q1J rfl ?_
  have h0 : (0 : Int) ≤ i := by omega
  have h2 : (i : Int) < 100 := by omega
  simp (disch := omega) [Qh, h2]
  refine A1 (qEs i hi) rfl ?_
  simp [Qi, tS, sV]
 have h2 : A3 Tryz.prog Γ 68 [tI i] (tS (q2O i)) := by
  refine A7 q5w rfl ?_
  simp [q0C]
  refine A1 h1 rfl ?_
  simp [q0D, tS, sV]
 refine A7 q7v rfl ?_
 simp [q2M]
 refine A1 h2 rfl ?_
 simp [q2N, tS, sV]
abbrev Pnt := Int × Int
def qIU (l : List (Int × Pnt)) (n : Int) : Pnt := match l.find? (fun p => p.1 == n) with | some p => p.2 | none => (0, 0)
def qKj (l : List (Int × Pnt)) : Prop := ∀ p ∈ l, -1000000 ≤ p.2.1 ∧ p.2.1 ≤ 1000000 ∧ -1000000 ≤ p.2.2 ∧ p.2.2 ≤ 1000000
theorem qKj.at {l : List (Int × Pnt)} (h : qKj l) (n : Int) : -1000000 ≤ (qIU l n).1 ∧ (qIU l n).1 ≤ 1000000 ∧ -1000000 ≤ (qIU l n).2 ∧ (qIU l n).2 ≤ 1000000 := by
 unfold qIU
 split
 ·rename_i p hp
  exact h p (List.mem_of_find?_eq_some hp)
 ·simp
def qOk {α : Type} (s : Sl α) : Prop := (s.nl = some true → s.l = []) ∧ (s.nl = none → s.l ≠ []) ∧ s.l.length ≤ 1000000
theorem q7w (s : Sl Int) (hs : qOk s) : Ac Tryz.prog Γ 44 [tV s] (if s.nl = some true then .sl [] (some 0) (some true) else .sl (Aq s.l) none none) := by
 refine Ar Ym rfl ?_
 obtain ⟨l, cap, nl⟩ := s
 obtain ⟨h1, h2, h3⟩ := hs
 simp only at h1 h2 h3
 rcases nl with _ | _ | _
 ·have h4 : Aq l ≠ [] := by simpa [Ab] using h2 rfl
  simp (disch := omega) [E9, Ea, A6, A0, h4, Bg, tV]
  omega
 ·simp (disch := omega) [E9, Ea, A6, A0, Bg, tV]
  omega
 ·have := h1 rfl
  subst this
  simp [E9, Ea, tV]
theorem qIV {w : World} {X : Nat → Prop} {cap : Option Nat} {v : Value} (h : TR w X (.sl [] cap none) v) : TR w X (.sl [] cap (some true)) v ∨ TR w X (.sl [] cap (some false)) v := by
 cases h with
 | nil _ _ a c hc hn hz =>
  cases a with
  | none => exact .inl (.nil cap (some true) none c hc (fun b hb => by cases hb; rfl) hz)
  | some a => exact .inr (.nil cap (some false) (some a) c hc (fun b hb => by cases hb; rfl) hz)
 | sl _ _ _ s b off c f hcell hlen hrel hone hx hle hc hq =>
  exact .inr (.sl [] cap (some false) s b off c f hcell hlen hrel hone hx hle hc (fun q hq => by cases hq; rfl))
theorem qK3 {w : World} {X : Nat → Prop} {es : List (List T)} {cap : Option Nat} {nl : Option Bool} {v : Value} (h : TR w X (.sl es cap nl) v) : TR w X (.sl es none none) v := by
 cases h with
 | nil _ _ a c hc hn hz => exact .nil none none a c (fun n h => nomatch h) (fun n h => nomatch h) hz
 | sl _ _ _ s b off c f hcell hlen hrel hone hx hle hc hq => exact .sl es none none s b off c f hcell hlen hrel hone hx hle (fun n h => nomatch h) (fun n h => nomatch h)
theorem qBj {P : Program} {f : FuncId} {args : List T} {es : List (List T)} {cap : Option Nat} {nl : Option Bool} (h : Ac P Γ f args (.sl es cap nl)) : Ac P Γ f args (.sl es none none) :=
 fun w X vs hg hx hr => (h w X vs hg hx hr).mono fun v w' ⟨hb, ht⟩ => ⟨hb, qK3 ht⟩
theorem qEt {P : Program} {f : FuncId} {cap : Option Nat} {r : T} (h1 : Ac P Γ f [.sl [] cap (some true)] r) (h2 : Ac P Γ f [.sl [] cap (some false)] r) : Ac P Γ f [.sl [] cap none] r :=
 fun w X vs hg hx hr => by
  obtain ⟨x, ys, rfl, hx1, hy⟩ := hr.cons_inv
  rcases qIV hx1 with h | h
  ·exact h1 w X _ hg hx (F3.cons h hy)
  ·exact h2 w X _ hg hx (F3.cons h hy)
def Vq (s : Sl Int) : Sl Int := if s.nl = some true then ⟨[], some 0, some true⟩ else ⟨s.l, none, none⟩
theorem qBk (s : Sl Int) (h1 : s.nl = some true → s.l = []) (h2 : s.l.length ≤ 1000000) : Ac Tryz.prog Γ 44 [tV s] (tV (Vq s)) := by
 obtain ⟨l, cap, nl⟩ := s
 simp only at h1 h2
 by_cases h3 : nl = none ∧ l = []
 ·obtain ⟨rfl, rfl⟩ := h3
  have a1 := q7w (Γ := Γ) ⟨[], cap, some true⟩ ⟨fun _ => rfl, (fun h => nomatch h), Nat.zero_le _⟩
  have a2 := q7w (Γ := Γ) ⟨[], cap, some false⟩ ⟨(fun h => nomatch h), (fun h => nomatch h), Nat.zero_le _⟩
  exact qEt (qBj a1) (qBj a2)
 ·have := q7w (Γ := Γ) ⟨l, cap, nl⟩ ⟨h1, fun a b => h3 ⟨a, b⟩, h2⟩
  unfold Vq
  by_cases hn : nl = some true
  ·have hl := h1 hn
   subst hn
   subst hl
   simpa [tV, D4] using this
  ·simpa [tV, hn] using this
end Go.Lg
namespace Go.Lg
open Go
section
variable {P : Program} {Γ : Tables} {Q : AX → St → Prop} {s : St}
/- slices.Clip[[][]probecard/api.Value,[]probecard/api.Value] (function 48) -/
abbrev Mc : IC := (.seq (.reg [od 2 (.mv kN)] [kp [0] []]) (.seq (.reg [om 3 0, om 4 0, od 5 (le 0 4), om 6 0, od 7 (le 0 6), od 8 (.slice 1 (tm 3) none (some (tm 5)) (some (tm 7))), om 2 8] [kp [2] []]) .ret))
def Md : List RV := [.tmp 2]
end
end Go.Lg
namespace Go.Lg
open Go Go.Proofs
theorem Yn : Ap Tryz.prog 48 Mc 9 1 Md = true := by kernel_rfl
end Go.Lg
namespace Go.Lg
open Go Go.Proofs
variable {Γ : Tables}
def Ax : T := .sl [] (some 0) (some true)
theorem qH5 (es : List (List T)) (cap : Option Nat) (nl : Option Bool) (hw : Ce 4 es) : Ac Tryz.prog Γ 64 [.sl es cap nl] (.sl es (some es.length) nl) := by
 refine Ar q0i rfl ?_
 simp [Pj, Pl, hw]
theorem qDd (es : List (List T)) (cap : Option Nat) (nl : Option Bool) (hw : Ce 1 es) : Ac Tryz.prog Γ 65 [.sl es cap nl] (.sl es (some es.length) nl) := by
 refine Ar q25 rfl ?_
 simp [Rx, Ry, hw]
def qNr (l : List (Sl Int)) : List Int := (l.map fun s => s.l).flatten
end Go.Lg
namespace Go.Lg
open Go Go.Proofs
def m0 (c : B5) (ch : List (Sl Int)) : Nat := c.nodes.l.length + 1 + ch.length
end Go.Lg
namespace Go.Lg
open Go Go.Proofs
variable {Γ : Tables}
theorem gE' {α : Type} {f : α → T} {l : List α} {i : Nat} (d : α) (h0 : i < l.length) : ∀ h : i < (Ab f l).length, (Ab f l)[i] = [f (l.getD i d)] := fun h => by
 have := Bv (f := f) d h0
 rw [List.getElem?_eq_getElem h] at this
 simpa [List.getD_eq_getElem?_getD] using this
theorem gE {α : Type} {f : α → T} {l : List α} {i : Nat} (d : α) (h0 : i < l.length) : (Ab f l)[i]?.getD [] = [f (l.getD i d)] := by
 rw [List.getElem?_eq_getElem (by rw [A0]; exact h0)]
 exact gE' d h0 _
structure Rsp where
 out : Sl Int
 next : Sl Int
def qNs (r : Rsp) : List T := [tV r.out, tV r.next]
def qNt : Rsp := ⟨⟨[], none, none⟩, ⟨[], none, none⟩⟩
theorem gR {l : List Rsp} {i : Nat} (h : i < l.length) : (An qNs l)[i]?.getD [] = qNs (l.getD i qNt) := by
 rw [E3 qNt h]; rfl
theorem q70 {n : Int} (h1 : 0 ≤ n) (h2 : n < 18446744073709551616) : IntKind.u64.wrap n = n := by
 simp [IntKind.wrap, IntKind.signed, IntKind.bits]
 omega
theorem qNu {n : Nat} (h : n < 4294967296) : IntKind.u64.wrap ((BitVec.ofInt 64 (n : Int) &&& BitVec.ofInt 64 4294967295).toNat : Int) = n := by
 have e : (BitVec.ofInt 64 (n : Int) &&& BitVec.ofInt 64 4294967295).toNat = n := by
  rw [BitVec.toNat_and]
  have h1 : (BitVec.ofInt 64 (n : Int)).toNat = n := by
   simp [BitVec.toNat_ofInt]; omega
  have h2 : (BitVec.ofInt 64 4294967295).toNat = 2 ^ 32 - 1 := by decide
  rw [h1, h2, Nat.and_two_pow_sub_one_eq_mod]
  omega
 rw [e, q70] <;> omega
theorem qEu {n : Nat} (h : n < 4294967296) : IntKind.u64.wrap ((BitVec.ofNat 64 n &&& 4294967295#64).toNat : Int) = n := by
 have := qNu h
 rwa [show BitVec.ofInt 64 (n : Int) = BitVec.ofNat 64 n from by simp, show BitVec.ofInt 64 4294967295 = 4294967295#64 from rfl] at this
abbrev tU (n : Int) : T := .v (.int .u64 n)
theorem qEv {n : Nat} (h : n < 4294967296) : (n : Int).fdiv 4294967296 = 0 := by
 rw [Int.fdiv_eq_ediv_of_nonneg _ (by omega)]; omega
theorem qEw (a b : Nat) (ha : a < 65536) (hb : b < 65536) : A3 Tryz.prog Γ 161 [tU a, tU b] (.tup [tU 0, tU (a * b : Nat)]) := by
 refine A7 qAO rfl ?_
 have hab : a * b ≤ 65535 * 65535 := Nat.mul_le_mul (by omega) (by omega)
 have a1 := qEu (n := a) (by omega)
 have b1 := qEu (n := b) (by omega)
 have z1 := qEu (n := 0) (by omega)
 have a2 := qEv (n := a) (by omega)
 have b2 := qEv (n := b) (by omega)
 have c2 := qEv (n := a * b) (by omega)
 have m32 : min (32 : Int).toNat 64 = 32 := by decide
 have c1 : IntKind.u64.wrap ((a : Int) * b) = ((a * b : Nat) : Int) := by rw [← Int.natCast_mul, q70] <;> omega
 have z2 : IntKind.u64.wrap 0 = 0 := by decide
 simp [q51, q52, IntKind.bits, a1, b1, a2, b2, c1, c2, z1, z2, m32, -Int.natCast_mul]
 erw [a1, b1, c1, c2, z2]
theorem qDe (a b : Nat) (ha : a < 65536) (hb : b < 65536) : A3 Tryz.prog Γ 144 [tU a, tU b] (.tup [tU 0, tU (a * b : Nat)]) := by
 refine A7 qCP rfl ?_
 simp [q8T]
 refine A1 (qEw a b ha hb) rfl ?_
 simp [q8U]
theorem qIW {j n : Nat} (h1 : 0 < j) (h2 : j < n) : (List.replicate j [tK 2] ++ List.replicate (n - j) [tK 0]).take j ++ ((List.replicate j [tK 2] ++ List.replicate (n - j) [tK 0]).take j).take (min (n - j) j) ++ (List.replicate j [tK 2] ++ List.replicate (n - j) [tK 0]).drop (j + min (n - j) j) = List.replicate (j + min (n - j) j) [tK 2] ++ List.replicate (n - (j + min (n - j) j)) [tK 0] := by
 have e1 : (List.replicate j [tK 2] ++ List.replicate (n - j) [tK 0]).take j = List.replicate j [tK 2] := by
  rw [List.take_append_of_le_length (by simp), List.take_of_length_le (by simp)]
 have e2 : (List.replicate j [tK 2]).take (min (n - j) j) = List.replicate (min (n - j) j) [tK 2] := by
  rw [List.take_replicate, Nat.min_eq_left (Nat.min_le_right _ _)]
 rw [e1, e2, ← List.replicate_append_replicate (n := j), List.drop_append, List.drop_of_length_le (by simp), List.nil_append, List.drop_replicate]
 congr 2
 simp; omega
theorem qAP {Q : AX → St → Prop} (n : Nat) (hn : n ≤ 1000000)
  (h0 : Q (.exit 0) ⟨[(7, .ls 30 0 n none), (8, .t (tI n)), (37, .t (tB false))], [(30, .sl 61 1 (List.replicate n [tK 2]))]⟩) :
  ∀ (f j : Nat), n - j ≤ f → 0 < j → j ≤ n →
  run Tryz.prog Γ E6 Q ⟨[(7, .ls 30 0 n none), (8, .t (tI j))], [(30, .sl 61 1 (List.replicate j [tK 2] ++ List.replicate (n - j) [tK 0]))]⟩
 | 0, j, hf, h1, h2 => by
  refine D8 fun K hK => ?_
  have h3 : j = n := by omega
  subst h3
  simp
  simpa using h0
 | f + 1, j, hf, h1, h2 => by
  refine D8 fun K hK => ?_
  by_cases h3 : j = n
  ·subst h3
   simp
   simpa using h0
  ·have h4 : j < n := by omega
   have ih := qAP n hn h0 f (j + min (n - j) j) (by omega) (by omega) (by omega)
   rw [← qIW h1 h4] at ih
   have hw : Ce 1 (List.replicate j [tK 2] ++ List.replicate (n - j) [tK 0]) := by
    intro e he
    rcases List.mem_append.1 he with he | he <;> rw [List.eq_of_mem_replicate he] <;> rfl
   have hl : (List.replicate j [tK 2] ++ List.replicate (n - j) [tK 0]).length = n := by simp; omega
   generalize List.replicate j [tK 2] ++ List.replicate (n - j) [tK 0] = es at *
   have hwt : Ce 1 (es.take j) := fun e he => hw e (List.mem_of_mem_take he)
   have hjn : min j n = j := by omega
   have w1 : IntKind.i64.wrap ((j : Int) + ((min (n - j) j : Nat) : Int)) = ((j + min (n - j) j : Nat) : Int) := by rw [A4] <;> omega
   simp [h4, h2, hl, hwt, hjn, w1, -Int.natCast_add]
   rw [hK]
   simpa using ih
theorem q8V (n : Nat) (hn : n ≤ 60000) : Ac Tryz.prog Γ 117 [.sl [[tK 2]] (some 1) (some false), tI n] (.sl (List.replicate n [tK 2]) none none) := by
 refine Ar K6 rfl ?_
 have em : A3 Tryz.prog Γ 144 [tU 1, tU n] (.tup [tU 0, tU n]) := by
  have := qDe (Γ := Γ) 1 n (by omega) (by omega)
  rwa [Nat.one_mul] at this
 have u1 : IntKind.u64.wrap (n : Int) = n := by rw [q70] <;> omega
 have u2 : IntKind.u64.wrap 1 = 1 := by decide
 have u3 : IntKind.i64.wrap (n : Int) = n := by rw [A4] <;> omega
 have u4 : ¬ (9223372036854775807 : Int) < n := by omega
 have u5 : ¬ (n : Int) < 0 := by omega
 have hw2 : Ce 1 [[tK 2]] := by intro e he; simp at he; subst he; rfl
 simp [G9, u1, u2, u5]
 refine A1 em rfl ?_
 simp [u3, u4]
 refine ⟨by omega, ?_⟩
 by_cases h0 : n = 0
 ·subst h0
  simp
  refine D8 fun K hK => ?_
  simp [D5, Ah]
 ·have hm1 : min n 1 = 1 := by omega
  have hdr : (List.replicate n [tK 0]).drop 1 = List.replicate (n - 1) [tK 0] := by rw [List.drop_replicate]
  have g := fun Q h0 => qAP (Γ := Γ) (Q := Q) n (by omega) h0 n 1 (by omega) (by omega) (by omega)
  simp at g
  simp [hm1]
  refine g _ ?_
  simp [D5, Ah]
theorem q8W (n : Nat) (hn : n ≤ 60000) : Ac Tryz.prog Γ 116 [tI n] (.sl (List.replicate n [tK 2]) none none) := by
 refine Ar q7u rfl ?_
 simp [q2K]
 refine Aa (q8V n hn) rfl ?_
 simp [q2L]
theorem qAQ (c : B5) (hc : COk c) (hi : (Bz c).length ≤ 60000) (hs : (Aj c).length ≤ 60000) : Ac Tryz.prog Γ 71 [.agg (tC c)] (.agg [.sl (Aq (List.replicate (Bz c).length 2)) none none, .sl (Aq (List.replicate (Aj c).length 2)) none none]) := by
 refine Ar qAN rfl ?_
 have e1 := Ur (Γ := Γ) c hc
 have e2 := Fo (Γ := Γ) c hc
 have b1 := q8W (Γ := Γ) (Bz c).length hi
 have b2 := q8W (Γ := Γ) (Aj c).length hs
 have v1 : ∀ n, Aq (List.replicate n 2) = List.replicate n [tK 2] := fun n => by simp [Ab]
 simp [tC, A5, A8, Ad, B1] at e1 e2
 simp [q4z, tC, A5, A8, Ad, B1]
 refine Aa e1 rfl ?_
 simp [A0]
 refine Aa b1 rfl ?_
 simp
 refine Aa e2 rfl ?_
 simp [A0]
 refine Aa b2 rfl ?_
 simp [q50, v1]
theorem qOl {n : Nat} (h : n < 4611686018427387904) : IntKind.i64.wrap ((n % 2 ^ IntKind.i64.bits &&& 1 % 2 ^ IntKind.i64.bits : Nat) : Int) = ((n % 2 : Nat) : Int) := by
 have e : (n % 2 ^ IntKind.i64.bits &&& 1 % 2 ^ IntKind.i64.bits : Nat) = n % 2 := by
  have h0 : IntKind.i64.bits = 64 := rfl
  rw [h0, Nat.mod_eq_of_lt (show n < 2 ^ 64 by omega), show 1 % 2 ^ 64 = 2 ^ 1 - 1 by decide, Nat.and_two_pow_sub_one_eq_mod]
 rw [e, A4] <;> omega
theorem qNv {n : Nat} : (n : Int).fdiv (2 ^ min 1 IntKind.i64.bits) = ((n / 2 : Nat) : Int) := by
 have h1 : min 1 IntKind.i64.bits = 1 := by decide
 rw [h1, Int.fdiv_eq_ediv_of_nonneg _ (by omega)]; omega
theorem qEx {Q : AX → St → Prop} (addr : Sl Int) (hl : addr.l.length ≤ 1000000) (hv : ∀ v ∈ addr.l, 0 ≤ v) (R : Bool)
  (h0 : ∀ i : Nat, decide (i = 0) = R → Q (.exit 0) ⟨[(0, .t (tI i)), (7, .t (tV addr)), (8, .t (tI addr.l.length)), (9, .t (tI addr.l.length)), (10, .t (tB false))], []⟩)
  (h1 : R = false → Q .ret ⟨[(4, .t (tB false))], []⟩) :
  ∀ (k j i : Nat), k + j = addr.l.length → i ≤ 1000000000 → q0h i (addr.l.drop j) = R →
  run Tryz.prog Γ Hn Q ⟨[(0, .t (tI i)), (7, .t (tV addr)), (8, .t (tI addr.l.length)), (9, .t (tI j))], []⟩
 | 0, j, i, h, hi, hR => by
  refine Pi fun K hK => ?_
  have h2 : j = addr.l.length := by omega
  subst h2
  rw [List.drop_of_length_le (Nat.le_refl _)] at hR
  have := h0 i hR
  simp
  simpa using this
 | k + 1, j, i, h, hi, hR => by
  refine Pi fun K hK => ?_
  have h2 : j < addr.l.length := by omega
  rw [List.drop_eq_getElem_cons h2] at hR
  have e1 := gE (f := tK) 0 h2
  have e1' := gE' (f := tK) 0 h2
  have hv0 := hv _ (List.getElem_mem h2)
  rw [Cj h2] at e1 e1'
  generalize addr.l[j] = v at *
  have w1 : IntKind.i64.wrap ((j : Int) + 1) = (j : Int) + 1 := by rw [A4] <;> omega
  have a1 := qOl (n := i) (by omega)
  have f1 := qNv (n := i)
  have hk := Tc (Γ := Γ) v
  simp only [q0h] at hR
  simp [tV, A0, A6, h2, e1, e1']
  refine A1 hk rfl ?_
  by_cases hv1 : v ≤ 1
  ·have wv : IntKind.i64.wrap v = v := by rw [A4] <;> omega
   by_cases hne : v = (i : Int) % 2
   ·rw [if_neg (by simp [hne])] at hR
    have ih := qEx addr hl hv R h0 h1 k (j + 1) (i / 2) (by omega) (by omega) hR
    simp [N7, hv1, wv, a1, ← hne, f1, w1]
    rw [hK]
    simpa [tV] using ih
   ·rw [if_pos ⟨hv1, hne⟩] at hR
    simp [N7, hv1, wv, a1, hne]
    exact h1 hR.symm
  ·rw [if_neg (by simp [hv1])] at hR
   have ih := qEx addr hl hv R h0 h1 k (j + 1) (i / 2) (by omega) (by omega) hR
   simp [N7, hv1, f1, w1]
   rw [hK]
   simpa [tV] using ih
theorem B0 {i : Nat} (h : i ≤ 1000000000) : IntKind.i64.wrap ((i : Int) + 1) = (i : Int) + 1 := by rw [A4] <;> omega
theorem q71 (i : Nat) (hi : i ≤ 1000000000) (addr : Sl Int) (hl : addr.l.length ≤ 1000000) (hv : ∀ v ∈ addr.l, 0 ≤ v) : A3 Tryz.prog Γ 102 [tI i, tV addr] (tB (q0h i addr.l)) := by
 refine A7 q3Z rfl ?_
 have g := fun Q h0 h1 => qEx (Γ := Γ) (Q := Q) addr hl hv (q0h i addr.l) h0 h1 addr.l.length 0 i (by omega) hi rfl
 simp [W7, tV, A0] at g ⊢
 refine g _ (fun q hq => ?_) (fun hq => ?_)
 ·simp [N9, ← hq]
 ·simp [N9, hq]
theorem q7x (w : Sl Int) (b : Nat) (hb : b ≤ 1000000000) (hw : w.l.length ≤ 1000000000) : A3 Tryz.prog Γ 103 [tV w, tI b] (tK (q3e w.l b)) := by
 refine A7 q7s rfl ?_
 unfold q3e
 by_cases h : b < w.l.length
 ·have e1 := gE (f := tK) 0 h
  have e1' := gE' (f := tK) 0 h
  rw [if_pos h]
  have hr := Ta (Γ := Γ) (w.l.getD b 0)
  generalize w.l.getD b 0 = v at *
  have h2 : ¬ (w.l.length : Int) ≤ b := by omega
  have h3 : ¬ w.l.length ≤ b := by omega
  simp [Vm, tV, A0, A6, h, h2, h3, e1, e1']
  refine A1 hr rfl ?_
  simp [Vn]
 ·rw [if_neg h]
  have h2 : (w.l.length : Int) ≤ b := by omega
  have h3 : w.l.length ≤ b := by omega
  simp [Vm, tV, A0, h2, h3, Vn]
theorem q8X (a b : Int) : A3 Tryz.prog Γ 104 [tK a, tK b] (tK (qBh a b)) := by
 refine A7 q4Q rfl ?_
 unfold qBh
 by_cases h : a = b
 ·simp [Oj, h, Ol]
 ·simp [Oj, h, Ol]
theorem qIX (n : Nat) (hn : n ≤ 60000) : Eu Tryz.prog Γ 117 [] [.t (.sl [[tK 2]] (some 1) (some false)), .t (tI n)] (.ls 30 0 n none) [(30, .sl 61 1 (Aq (List.replicate n 2)))] := by
 refine Gu K6 rfl ?_
 have em : A3 Tryz.prog Γ 144 [tU 1, tU n] (.tup [tU 0, tU n]) := by
  have := qDe (Γ := Γ) 1 n (by omega) (by omega)
  rwa [Nat.one_mul] at this
 have u1 : IntKind.u64.wrap (n : Int) = n := by rw [q70] <;> omega
 have u2 : IntKind.u64.wrap 1 = 1 := by decide
 have u3 : IntKind.i64.wrap (n : Int) = n := by rw [A4] <;> omega
 have u4 : ¬ (9223372036854775807 : Int) < n := by omega
 have u5 : ¬ (n : Int) < 0 := by omega
 have hw2 : Ce 1 [[tK 2]] := by intro e he; simp at he; subst he; rfl
 have v1 : Aq (List.replicate n 2) = List.replicate n [tK 2] := by simp [Ab]
 rw [v1]
 simp [G9, u1, u2, u5]
 refine A1 em rfl ?_
 simp [u3, u4]
 refine ⟨by omega, ?_⟩
 by_cases h0 : n = 0
 ·subst h0
  simp
  refine D8 fun K hK => ?_
  simp [D5]
 ·have hm1 : min n 1 = 1 := by omega
  have hdr : (List.replicate n [tK 0]).drop 1 = List.replicate (n - 1) [tK 0] := by rw [List.drop_replicate]
  have g := fun Q h0 => qAP (Γ := Γ) (Q := Q) n (by omega) h0 n 1 (by omega) (by omega) (by omega)
  simp at g
  simp [hm1]
  refine g _ ?_
  simp [D5]
theorem q26 (n : Nat) (hn : n ≤ 60000) : Ac Tryz.prog Γ 75 [tI n] (.sl (Aq (List.replicate n 2)) none none) := by
 refine Ar q3b rfl ?_
 have v1 : Aq (List.replicate n 2) = List.replicate n [tK 2] := by simp [Ab]
 simp [Wa]
 refine Aa (q8V n hn) rfl ?_
 simp [Wb, v1]
theorem qH6 (n : Nat) (hn : n ≤ 60000) : Eu Tryz.prog Γ 75 [] [.t (tI n)] (.ls 5030 0 n none) [(5030, .sl 61 1 (Aq (List.replicate n 2)))] := by
 refine Gu q2m rfl ?_
 simp [Uu]
 refine ⟨_, _, qIX n hn, ?_⟩
 simp [Uw]
def tW (s : Sl (Sl Int)) : T := .sl (Ab tV s.l) s.cap s.nl
def Sl.z : Sl Int := ⟨[], none, none⟩
theorem qKk {Q : AX → St → Prop} (addr : Sl Int) (n : Nat) (hn : n ≤ 1000000) (first : Bool) (w : Sl Int) (hw : w.l.length ≤ 1000000) (tw : T) (len i : Int) (R : List Int)
  (h0 : R.length = n → Q (.exit 2) ⟨[(1, .t (tV addr)), (5, .ls 22030 0 n none), (6, .t (tB first)), (8, .t (tV w)), (18, .t tw), (19, .t (tI len)), (20, .t (tI i)), (30, .t (tI n)), (31, .t (tI n)), (32, .t (tB false))], [(22030, .sl 61 1 (Aq R))]⟩) :
  ∀ (k b : Nat) (out : List Int), k + b = n → out.length = n → q1I w.l first k b out = R →
  run Tryz.prog Γ Lh Q ⟨[(1, .t (tV addr)), (5, .ls 22030 0 n none), (6, .t (tB first)), (8, .t (tV w)), (18, .t tw), (19, .t (tI len)), (20, .t (tI i)), (30, .t (tI n)), (31, .t (tI b))], [(22030, .sl 61 1 (Aq out))]⟩
 | 0, b, out, h, ho, hR => by
  refine Us fun K hK => ?_
  have h2 : b = n := by omega
  subst h2
  have hR : out = R := hR
  subst hR
  simp
  simpa using h0 ho
 | k + 1, b, out, h, ho, hR => by
  refine Us fun K hK => ?_
  have h2 : b < n := by omega
  have hbo : b < out.length := by omega
  simp only [q1I] at hR
  have ih := qKk addr n hn first w hw tw len i R h0 k (b + 1) _ (by omega) (by rw [List.length_set]; exact ho) hR
  have e1 := gE (f := tK) 0 hbo
  have e1' := gE' (f := tK) 0 hbo
  have hb := q7x (Γ := Γ) w b (by omega) (by omega)
  have hs : ∀ v : Int, (Aq out).set b [tK v] = Aq (out.set b v) := fun v => J2
  have w1 := B0 (i := b) (by omega)
  generalize out.getD b 0 = o at *
  cases first with
  | true =>
   simp only [if_pos] at ih
   simp [h2]
   refine A1 hb rfl ?_
   simp [h2, hbo, A0, hs, w1, ho]
   rw [hK]
   simpa using ih
  | false =>
   simp only [Bool.false_eq_true, if_false] at ih
   simp [h2, hbo, A0, A6, e1, e1', ho]
   refine A1 hb rfl ?_
   simp
   refine A1 (q8X o (q3e w.l b)) rfl ?_
   simp [h2, hbo, A0, hs, w1, ho]
   rw [hK]
   simpa using ih
theorem qIY {Q : AX → St → Prop} (addr : Sl Int) (ha : addr.l.length ≤ 1000000) (hv : ∀ v ∈ addr.l, 0 ≤ v) (n : Nat) (hn : n ≤ 1000000) (words : Sl (Sl Int)) (hl : words.l.length ≤ 1000000) (hw : ∀ w ∈ words.l, w.l.length ≤ 1000000) (R : List Int × Bool)
  (h0 : R.1.length = n → Q (.exit 0) ⟨[(1, .t (tV addr)), (5, .ls 22030 0 n none), (6, .t (tB R.2)), (18, .t (tW words)), (19, .t (tI words.l.length)), (20, .t (tI words.l.length)), (21, .t (tB false))], [(22030, .sl 61 1 (Aq R.1))]⟩) :
  ∀ (k i : Nat) (out : List Int) (first : Bool), k + i = words.l.length → out.length = n → q4y addr.l i ((words.l.drop i).map (·.l)) (out, first) = R →
  run Tryz.prog Γ Lj Q ⟨[(1, .t (tV addr)), (5, .ls 22030 0 n none), (6, .t (tB first)), (18, .t (tW words)), (19, .t (tI words.l.length)), (20, .t (tI i))], [(22030, .sl 61 1 (Aq out))]⟩
 | 0, i, out, first, h, ho, hR => by
  refine Ut fun K hK => ?_
  have h2 : i = words.l.length := by omega
  subst h2
  rw [List.drop_of_length_le (Nat.le_refl _)] at hR
  have hR : (out, first) = R := hR
  subst hR
  have := h0 ho
  simp
  simpa using this
 | k + 1, i, out, first, h, ho, hR => by
  refine Ut fun K hK => ?_
  have h2 : i < words.l.length := by omega
  rw [List.drop_eq_getElem_cons h2, List.map_cons] at hR
  simp only [q4y] at hR
  have e1 := gE (f := tV) Sl.z h2
  have e1' := gE' (f := tV) Sl.z h2
  have hwi := hw _ (List.getElem_mem h2)
  rw [show words.l.getD i Sl.z = words.l[i] by simp [List.getD_eq_getElem?_getD, h2]] at e1 e1'
  have hm := q71 (Γ := Γ) i (by omega) addr ha hv
  have w1 := B0 (i := i) (by omega)
  by_cases hmm : q0h i addr.l = true
  ·rw [if_pos hmm] at hR
   have hlen : ∀ (w : List Int) (f : Bool) (k b : Nat) (o : List Int), (q1I w f k b o).length = o.length := by
    intro w f k
    induction k with
    | zero => intro b o; rfl
    | succ k ih => intro b o; simp only [q1I]; rw [ih, List.length_set]
   have ih := qIY addr ha hv n hn words hl hw R h0 k (i + 1) _ _ (by omega) (by rw [hlen]; exact ho) hR
   generalize words.l[i] = w at *
   have g := fun Q h0 => qKk (Γ := Γ) (Q := Q) addr n hn first w hwi (tW words) words.l.length i (q1I w.l first n 0 out) h0 n 0 out (by omega) ho rfl
   simp only [ho] at ih
   generalize q1I w.l first n 0 out = R1 at *
   rw [hmm] at hm
   simp [tW] at ih g
   simp [tW, A0, A6, h2, e1, e1']
   refine A1 hm rfl ?_
   simp [h2]
   refine g _ fun hR1 => ?_
   simp [w1]
   rw [hK]
   simpa using ih
  ·rw [if_neg hmm] at hR
   have ih := qIY addr ha hv n hn words hl hw R h0 k (i + 1) _ _ (by omega) ho hR
   generalize words.l[i] = w at *
   simp only [Bool.not_eq_true] at hmm
   rw [hmm] at hm
   simp [tW] at ih
   simp [tW, A0, A6, h2, e1, e1']
   refine A1 hm rfl ?_
   simp [w1]
   rw [hK]
   simpa using ih
theorem qH7 (words : Sl (Sl Int)) (hl : words.l.length ≤ 1000000) (hw : ∀ w ∈ words.l, w.l.length ≤ 60000) (addr : Sl Int) (ha : addr.l.length ≤ 1000000) (hv : ∀ v ∈ addr.l, 0 ≤ v) :
  Ac Tryz.prog Γ 45 [tW words, tV addr] (if words.l = [] then .sl [] (some 0) (some true) else .sl (Aq (q3f (words.l.map (·.l)) addr.l)) none none) := by
 refine Ar q6y rfl ?_
 by_cases h0 : words.l = []
 ·rw [if_pos h0]
  simp [Td, tW, h0, D4, Tf]
 ·rw [if_neg h0]
  have h1 : 0 < words.l.length := List.length_pos_iff.2 h0
  have e1 := gE (f := tV) Sl.z h1
  have e1' := gE' (f := tV) Sl.z h1
  rw [show words.l.getD 0 Sl.z = words.l[0] by simp [List.getD_eq_getElem?_getD, h1]] at e1 e1'
  have hw0 := hw _ (List.getElem_mem h1)
  have hu := qH6 (Γ := Γ) words.l[0].l.length hw0
  have hR : q3f (words.l.map (·.l)) addr.l = (q4y addr.l 0 (words.l.map (·.l)) (List.replicate words.l[0].l.length 2, true)).1 := by
   obtain ⟨l, cp, n0⟩ := words
   cases l with
   | nil => exact absurd rfl h0
   | cons w ws => rfl
  rw [hR]
  generalize words.l[0] = w at *
  have g := fun Q h0 => qIY (Γ := Γ) (Q := Q) addr ha hv w.l.length (by omega) words hl (fun w h => by have := hw w h; omega) (q4y addr.l 0 (words.l.map (·.l)) (List.replicate w.l.length 2, true)) h0 words.l.length 0 (List.replicate w.l.length 2) true (by omega) (by simp) (by rw [List.drop_zero])
  generalize q4y addr.l 0 (words.l.map (·.l)) (List.replicate w.l.length 2, true) = R at *
  obtain ⟨R1, R2⟩ := R
  simp [tW] at g
  simp only [tV] at e1 e1'
  have h0' : ¬ (words.l.length : Int) = 0 := by omega
  simp [Td, tW, h0, h0', h1, A0, A6, e1, e1']
  refine ⟨_, _, hu, ?_⟩
  simp [A0]
  refine g _ fun hR1 => ?_
  have vt : (Aq R1).take w.l.length = Aq R1 := by rw [← hR1]; exact Ci
  simp [Tf, Ah, vt]
theorem q27 {i : Nat} {addr data w : List Int} {en : Int} : ∀ {k b : Nat}, (Vp i addr data en w k b).length = k
 | 0, _ => rfl
 | k + 1, b => by simp [Vp, q27]
theorem q5x {i : Nat} {addr data w : List Int} {en : Int} : ∀ {k b j : Nat}, j < k → (Vp i addr data en w k b).getD j 0 = qAM i addr en (q3e w (b + j)) (q3e data (b + j))
 | k + 1, b, 0, _ => rfl
 | k + 1, b, j + 1, h => by
  show (Vp i addr data en w k (b + 1)).getD j 0 = _
  rw [q5x (by omega), show b + 1 + j = b + (j + 1) by omega]
theorem qDf {hp : List (Nat × B7)} {k : Nat} : ∀ (l : List T), Af ((l.map AV.t).map (Ah hp k)) = some l
 | [] => rfl
 | t :: l => by
  have ih := qDf (hp := hp) (k := k) l
  cases k <;> simp only [List.map_cons, Ah, Af, ih] <;> rfl
theorem qKl {Q : AX → St → Prop} (addr data : Sl Int) (ha : addr.l.length ≤ 1000000) (hv : ∀ v ∈ addr.l, 0 ≤ v) (hd : data.l.length ≤ 1000000) (en : Int) (tw : T) (n i : Nat) (hi : i < n) (hn : n ≤ 1000000) (w : Sl Int) (hw : w.l.length ≤ 1000000) (cells : List AV)
  (hcl : i + 1 ≤ cells.length) (hc : (cells.drop i).take 1 = [.ls 37 0 w.l.length none]) (R : List Int) (hRl : R.length = w.l.length) (hR : ∀ b, b < w.l.length → R.getD b 0 = qAM i addr.l en (q3e w.l b) (q3e data.l b))
  (h0 : Q (.exit 2) ⟨[(1, .t (tV addr)), (2, .t (tV data)), (3, .t (tK en)), (9, .t (tB (q8S addr.l en))), (10, .lb 25 n), (11, .t (tI i)), (12, .t (tV w)), (26, .t tw), (27, .t (tI n)), (28, .t (tI i)), (49, .t (tI w.l.length)), (50, .t (tI w.l.length)), (51, .t (tB false))], [(25, .bx cells), (37, .sl 61 1 (Aq R))]⟩) :
  ∀ (k b : Nat) (row : List Int), k + b = w.l.length → row = R.take b ++ w.l.drop b →
  run Tryz.prog Γ Ju Q ⟨[(1, .t (tV addr)), (2, .t (tV data)), (3, .t (tK en)), (9, .t (tB (q8S addr.l en))), (10, .lb 25 n), (11, .t (tI i)), (12, .t (tV w)), (26, .t tw), (27, .t (tI n)), (28, .t (tI i)), (49, .t (tI w.l.length)), (50, .t (tI b))], [(25, .bx cells), (37, .sl 61 1 (Aq row))]⟩
 | 0, b, row, h, hr => by
  refine Rl fun K hK => ?_
  have h2 : b = w.l.length := by omega
  subst h2
  rw [List.drop_length, List.append_nil, ← hRl, List.take_length] at hr
  subst hr
  simp
  simpa using h0
 | k + 1, b, row, h, hr => by
  refine Rl fun K hK => ?_
  have h2 : b < w.l.length := by omega
  have h2R : b < R.length := by omega
  have hrl : row.length = w.l.length := by rw [hr]; simp; omega
  have ih := qKl addr data ha hv hd en tw n i hi hn w hw cells hcl hc R hRl hR h0 k (b + 1) _ (by omega) rfl
  have hset : ∀ v : Int, v = R.getD b 0 → (Aq row).set b [tK v] = Aq (R.take (b + 1) ++ w.l.drop (b + 1)) := by
   rintro v rfl
   rw [show (Aq row).set b [tK (R.getD b 0)] = Aq (row.set b (R.getD b 0)) from J2, hr]
   congr 1
   have ht : (R.take b).length = b := by rw [List.length_take]; omega
   rw [List.set_append_right _ _ (by omega), ht, Nat.sub_self, List.drop_eq_getElem_cons h2, List.set_cons_zero, show R.take (b + 1) = R.take b ++ [R.getD b 0] by rw [List.take_add_one, List.getElem?_eq_getElem h2R, Cj h2R]; rfl, List.append_assoc]
   rfl
  have hRb := hR b h2
  have hb1 := q7x (Γ := Γ) w b (by omega) (by omega)
  have hb2 := q7x (Γ := Γ) data b (by omega) (by omega)
  have hm := q71 (Γ := Γ) i (by omega) addr ha hv
  have w1 := B0 (i := b) (by omega)
  generalize R.take (b + 1) ++ w.l.drop (b + 1) = row' at *
  generalize R.getD b 0 = v at *
  generalize q3e w.l b = o at *
  generalize q3e data.l b = d at *
  unfold qAM at hRb
  generalize q8S addr.l en = su at *
  have hcv := q8X (Γ := Γ) o d
  have hii : (i : Int) < n := by omega
  simp [h2]
  refine A1 hb1 rfl ?_
  simp
  refine A1 hb2 rfl ?_
  by_cases he : en = 0
  ·rw [if_pos (.inl he)] at hRb
   subst hRb
   simp [he, hi, hii, hcl, hc, hrl, h2, A0, hset, w1]
   rw [hK]
   simpa [he] using ih
  ·simp [he]
   refine A1 hm rfl ?_
   cases hmm : q0h i addr.l with
   | false =>
    rw [if_pos (.inr hmm)] at hRb
    subst hRb
    simp [hmm, hi, hii, hcl, hc, hrl, h2, A0, hset, w1]
    rw [hK]
    simpa using ih
   | true =>
    rw [if_neg (by simp [he, hmm])] at hRb
    cases su with
    | true =>
     rw [if_pos rfl] at hRb
     subst hRb
     simp [hmm, hi, hii, hcl, hc, hrl, h2, A0, hset, w1]
     rw [hK]
     simpa using ih
    | false =>
     rw [if_neg (by simp)] at hRb
     simp [hmm, hi, hii, hcl, hc, hrl, h2, A0, w1]
     refine A1 hcv rfl ?_
     rw [← hRb]
     simp [hi, hii, hcl, hc, hrl, h2, A0, hset, w1]
     rw [hK]
     simpa using ih
def q5y (done : List (List Int)) (n : Nat) : List AV := (done.map fun r => T.sl (Aq r) none none).map AV.t ++ List.replicate (n - done.length) (AV.t (T.sl [] (some 0) (some true)))
theorem qIZ {done : List (List Int)} {n : Nat} (h : done.length ≤ n) : (q5y done n).length = n := by simp [q5y]; omega
theorem qIa {done : List (List Int)} {n : Nat} (h : done.length < n) (a : AV) : (q5y done n).take done.length ++ [a] ++ (q5y done n).drop (done.length + 1) = (done.map fun r => T.sl (Aq r) none none).map AV.t ++ [a] ++ List.replicate (n - (done.length + 1)) (AV.t (T.sl [] (some 0) (some true))) := by
 have e : ((done.map fun r => T.sl (Aq r) none none).map AV.t).length = done.length := by simp
 unfold q5y
 rw [show n - done.length = (n - (done.length + 1)) + 1 by omega, List.replicate_succ]
 rw [List.take_append_of_le_length (by omega), List.take_of_length_le (by omega), List.drop_append, List.drop_of_length_le (by omega), e, show done.length + 1 - done.length = 1 by omega]
 simp
theorem qIb {done : List (List Int)} {n : Nat} (h : done.length < n) (R : List Int) (ty : Nat) :
  ((done.map fun r => T.sl (Aq r) none none).map AV.t ++ [AV.ls 37 0 R.length none] ++ List.replicate (n - (done.length + 1)) (AV.t (T.sl [] (some 0) (some true)))).map (Bi 37 (.sl ty 1 (Aq R))) = q5y (done ++ [R]) n := by
 have vt : (Aq R).take R.length = Aq R := Ci
 unfold q5y
 simp [Bi, frz1, frz0, Ah, A2, vt, Function.comp_def]
theorem qKm {Q : AX → St → Prop} (addr data : Sl Int) (ha : addr.l.length ≤ 1000000) (hv : ∀ v ∈ addr.l, 0 ≤ v) (hd : data.l.length ≤ 1000000) (en : Int) (words : Sl (Sl Int)) (hl : words.l.length ≤ 1000000) (hw : ∀ w ∈ words.l, w.l.length ≤ 1000000) (R : List (List Int)) (hRl : R.length = words.l.length)
  (h0 : Q (.exit 0) ⟨[(1, .t (tV addr)), (2, .t (tV data)), (3, .t (tK en)), (9, .t (tB (q8S addr.l en))), (10, .lb 25 words.l.length), (26, .t (tW words)), (27, .t (tI words.l.length)), (28, .t (tI words.l.length)), (29, .t (tB false))], [(25, .bx (q5y R words.l.length))]⟩) :
  ∀ (k : Nat) (done : List (List Int)), k + done.length = words.l.length → done ++ Gt addr.l data.l en done.length ((words.l.drop done.length).map (·.l)) = R →
  run Tryz.prog Γ Jv Q ⟨[(1, .t (tV addr)), (2, .t (tV data)), (3, .t (tK en)), (9, .t (tB (q8S addr.l en))), (10, .lb 25 words.l.length), (26, .t (tW words)), (27, .t (tI words.l.length)), (28, .t (tI done.length))], [(25, .bx (q5y done words.l.length))]⟩
 | 0, done, h, hR => by
  refine Rm fun K hK => ?_
  have h2 : done.length = words.l.length := by omega
  rw [List.drop_of_length_le (by omega)] at hR
  simp only [List.map_nil, Gt, List.append_nil] at hR
  subst hR
  simp [h2]
  simpa using h0
 | k + 1, done, h, hR => by
  refine Rm fun K hK => ?_
  have h2 : done.length < words.l.length := by omega
  rw [List.drop_eq_getElem_cons h2, List.map_cons] at hR
  simp only [Gt] at hR
  have e1 := gE (f := tV) Sl.z h2
  have e1' := gE' (f := tV) Sl.z h2
  have hwi := hw _ (List.getElem_mem h2)
  rw [show words.l.getD done.length Sl.z = words.l[done.length] by simp [List.getD_eq_getElem?_getD, h2]] at e1 e1'
  have hrow : (Vp done.length addr.l data.l en words.l[done.length].l words.l[done.length].l.length 0).length = words.l[done.length].l.length := q27
  have hget := fun b (hb : b < words.l[done.length].l.length) => q5x (i := done.length) (addr := addr.l) (data := data.l) (en := en) (w := words.l[done.length].l) (b := 0) hb
  simp only [Nat.zero_add] at hget
  have ih := qKm addr data ha hv hd en words hl hw R hRl h0 k (done ++ [Vp done.length addr.l data.l en words.l[done.length].l words.l[done.length].l.length 0]) (by simp; omega) (by rw [← hR]; simp)
  generalize words.l[done.length] = w at *
  generalize Vp done.length addr.l data.l en w.l w.l.length 0 = row at *
  have hcl := qIZ (done := done) (n := words.l.length) (by omega)
  have hput := qIa h2 (.ls 37 0 w.l.length none)
  have hfz := qIb h2 row 61
  rw [hrow] at hfz
  have g := fun Q cells hc1 hc2 h0 => qKl (Γ := Γ) (Q := Q) addr data ha hv hd en (tW words) words.l.length done.length h2 hl w hwi cells hc1 hc2 row hrow hget h0 w.l.length 0 w.l (by omega) (by simp)
  generalize hC0 : q5y done words.l.length = C0 at *
  generalize hC1 : (done.map fun r => T.sl (Aq r) none none).map AV.t ++ [AV.ls 37 0 w.l.length none] ++ List.replicate (words.l.length - (done.length + 1)) (AV.t (T.sl [] (some 0) (some true))) = C1 at *
  have hc1 : done.length + 1 ≤ C1.length := by rw [← hC1]; simp
  have hc2 : (C1.drop done.length).take 1 = [.ls 37 0 w.l.length none] := by
   rw [← hC1, List.append_assoc, List.drop_append, List.drop_of_length_le (by simp)]
   simp
  have g := fun Q h0 => g Q C1 hc1 hc2 h0
  have w1 := B0 (i := done.length) (by omega)
  have hz : List.replicate w.l.length [T.v (Value.int .u8 0)] = Aq (List.replicate w.l.length 0) := by simp [Ab]
  have hcp : (Aq w.l).take w.l.length = Aq w.l := Ci
  have hdl : (Aq (List.replicate w.l.length (0 : Int))).drop w.l.length = [] := by rw [List.drop_of_length_le (by simp [Ab])]
  have hii : (done.length : Int) < words.l.length := by omega
  simp [tW] at ih g
  simp only [tV] at e1 e1' g ih
  rw [List.append_assoc, List.singleton_append] at hput
  simp [tV, tW, A0, A6, h2, e1, e1']
  simp [hz, A0, A6, h2, hii, hcl, hput, hc1, hc2, hcp, hdl]
  refine ⟨by omega, by omega, by omega, g _ ?_⟩
  simp [w1, St.freeze, B7.closed, Bi, frz1, frz0, E1, del, hfz]
  rw [hK]
  simpa using ih
theorem qDg (v : Int) : A3 Tryz.prog Γ 105 [tK v] (tB (!N7 v)) := by
 refine A7 q3a rfl ?_
 simp [W8]
 refine A1 (Tc v) rfl ?_
 simp [W9]
def qFy (R : List (List Int)) : T := .sl ((R.map fun r => T.sl (Aq r) none none).map fun t => [t]) (some R.length) none
theorem q5z {addr data : List Int} {en : Int} : ∀ {ws : List (List Int)} {i : Nat}, (Gt addr data en i ws).length = ws.length
 | [], _ => rfl
 | w :: ws, i => by simp [Gt, q5z]
theorem qEy (words : Sl (Sl Int)) (hl : words.l.length ≤ 1000000) (hw : ∀ w ∈ words.l, w.l.length ≤ 1000000) (addr data : Sl Int) (ha : addr.l.length ≤ 1000000) (hv : ∀ v ∈ addr.l, 0 ≤ v) (hd : data.l.length ≤ 1000000) (en : Int) :
  Ac Tryz.prog Γ 46 [tW words, tV addr, tV data, tK en] (qFy (Gt addr.l data.l en 0 (words.l.map (·.l)))) := by
 refine Ar q5r rfl ?_
 have hcf := Dy (Γ := Γ) addr.l addr.cap addr.nl 105 [] (fun v => !N7 v) (fun x _ => qDg x) (by omega)
 have hRl : (Gt addr.l data.l en 0 (words.l.map (·.l))).length = words.l.length := by rw [q5z, List.length_map]
 have g := fun Q h0 => qKm (Γ := Γ) (Q := Q) addr data ha hv hd en words hl hw (Gt addr.l data.l en 0 (words.l.map (·.l))) hRl h0 words.l.length [] (by simp) (by simp)
 have hsu : q8S addr.l en = if en = 1 then !addr.l.any (fun v => !N7 v) else false := by
  unfold q8S
  by_cases h : en = 1 <;> simp [h]
 have hall := qDf (hp := [(25, B7.bx (q5y (Gt addr.l data.l en 0 (words.l.map (·.l))) words.l.length))]) (k := 3) ((Gt addr.l data.l en 0 (words.l.map (·.l))).map fun r => T.sl (Aq r) none none)
 have hst : q5y (Gt addr.l data.l en 0 (words.l.map (·.l))) words.l.length = ((Gt addr.l data.l en 0 (words.l.map (·.l))).map fun r => T.sl (Aq r) none none).map AV.t := by
  unfold q5y
  rw [hRl, Nat.sub_self]
  simp
 have h0 : q5y [] words.l.length = List.replicate words.l.length (AV.t (T.sl [] (some 0) (some true))) := by simp [q5y]
 rw [h0] at g
 rw [hst] at g hall
 generalize Gt addr.l data.l en 0 (words.l.map (·.l)) = R at *
 have hT : qFy R = .sl ((R.map fun r => T.sl (Aq r) none none).map fun t => [t]) (some words.l.length) none := by rw [← hRl]; rfl
 rw [hT]
 generalize (R.map fun r => T.sl (Aq r) none none) = RT at *
 rw [List.map_map] at hall
 simp [tW, tV] at g
 by_cases he : en = 1
 ·rw [if_pos he] at hsu
  simp [Qf, tW, tV, he]
  refine A1 hcf rfl ?_
  rw [hsu, he] at g
  simp [A0]
  refine ⟨by omega, g _ ?_⟩
  simp [Qg, Ah, hall]
 ·rw [if_neg he] at hsu
  rw [hsu] at g
  simp [Qf, tW, tV, he, A0]
  refine ⟨by omega, g _ ?_⟩
  simp [Qg, Ah, hall]
end Go.Lg
namespace Go.Lg
open Go
section
variable {P : Program} {Γ : Tables} {Q : AX → St → Prop} {s : St}
/- probecard/probecardref03.Of (function 52) -/
abbrev q8Y : IC := .gh (.seq (.seq (.reg [om 7 6, od 8 (fa 0 2), od 9 (ld 1 8), od 10 (le 0 9), od 11 (.bin .lss (tm 7) (tm 10))] [kp [1, 2, 5, 6, 11] [25]]) (.cond (tm 11) .skip (.exit 0))) (.seq (.block 1 (.seq (.reg [od 14 (fa 0 2), od 15 (ld 1
 14), om 16 6, od 17 (ia 4 15 16), od 18 (fa 0 17), od 19 (ld 1 18), om 20 1, od 21 (.bin .eql (tm 19) (tm 20))] [kp [1, 2, 5, 6, 21] [25]]) (.cond (tm 21) (.reg [om 22 5, om 23 6, od 24 (.bsl true 3 1 [(tm 23)]), od 25 (.app false
 3 1 (tm 22) (tm 24)), om 5 25] [kp [1, 2, 5, 6] [25]]) .skip))) (.reg [om 12 6, od 13 (.bin .add (tm 12) (ki 1)), om 6 13] [kp [1, 2, 5, 6] [25]]))) [kp [1, 2, 5, 6] [25]]
def q0E : IC := .loop q8Y
abbrev q8Z : IC := (.seq (.reg [od 2 (.box true (tm 0)), od 4 (.mv kN)] [kp [1, 2] []]) (.seq (.reg [od 5 (.mv kN)] [.nl 5 25 3 1, kp [1, 2, 5] [25]]) (.seq (.seq (.reg [od 6 (.mv (ki 0))] [kp [1, 2, 5, 6] [25]]) (.block 0 q0E)) (.seq (.reg
 [om 26 5, om 4 26] [kp [4] [25]]) .ret))))
theorem q2P (h : ∀ K : St → Prop, K = run P Γ q0E Q → run P Γ q8Y (Am K Q) s) : run P Γ q0E Q s := Ae h
def q8a : List RV := [.tmp 4]
end
end Go.Lg
namespace Go.Lg
open Go Go.Proofs
theorem qCQ : Ap Tryz.prog 52 q8Z 27 2 q8a = true := by kernel_rfl
structure Plc (c : B5) (φ : Nat → Nat) : Prop where
 lt : ∀ i, i < c.nodes.l.length → φ i < c.nodes.l.length
 dn : ∀ i, i < c.nodes.l.length → Fj (Bo c i) = true → ∀ p ∈ Jm c i, p.toNat < c.nodes.l.length ∧ φ p.toNat < φ i
theorem Plc.ne {c : B5} {φ : Nat → Nat} (h : Plc c φ) {i : Nat} (hi : i < c.nodes.l.length) (hc : Fj (Bo c i) = true) : ∀ p ∈ Jm c i, p.toNat ≠ i := fun p hp e => by
 have := (h.dn i hi hc p hp).2
 rw [e] at this
 omega
end Go.Lg
namespace Go.Lg
open Go Go.Proofs
variable {Γ : Tables}
def Sm (B : Nat) (t : T3) : Prop := (0 ≤ t.a ∧ t.a ≤ B) ∧ (0 ≤ t.b ∧ t.b ≤ B) ∧ (0 ≤ t.d ∧ t.d ≤ B)
theorem Sm.mono {B C : Nat} (hBC : B ≤ C) {t : T3} (h : Sm B t) : Sm C t := by
 obtain ⟨⟨a0, a1⟩, ⟨b0, b1⟩, ⟨d0, d1⟩⟩ := h
 exact ⟨⟨a0, by omega⟩, ⟨b0, by omega⟩, ⟨d0, by omega⟩⟩
theorem qCR {c : B5} {n : Int} (h0 : 0 ≤ n) (h : n < c.nodes.l.length) : ∀ h' : n.toNat < (An Dn c.nodes.l).length, (An Dn c.nodes.l)[n.toNat]'h' = Dn (nd c n) := fun h' => by
 have := qAE h0 h
 rw [List.getElem?_eq_getElem h'] at this
 simpa using this
theorem qIc {Q : AX → St → Prop} (c : B5) (hc : COk c) (k : Int) (hn : c.nodes.l.length ≤ 1000000)
  (h0 : Q (.exit 0) ⟨[(1, .t (tK k)), (2, .t (.ip (tC c) 0)), (5, .ls 25 0 (Qs [k] c.nodes.l 0).length none), (6, .t (tI c.nodes.l.length)), (11, .t (tB false))], [(25, .sl 3 1 (Av (Qs [k] c.nodes.l 0)))]⟩) :
  ∀ (f i : Nat), f + i = c.nodes.l.length → run Tryz.prog Γ q0E Q ⟨[(1, .t (tK k)), (2, .t (.ip (tC c) 0)), (5, .ls 25 0 (Qs [k] (c.nodes.l.take i) 0).length none), (6, .t (tI i))], [(25, .sl 3 1 (Av (Qs [k] (c.nodes.l.take i) 0)))]⟩
 | 0, i, h => by
  refine q2P fun K hK => ?_
  have h2 : i = c.nodes.l.length := by omega
  subst h2
  rw [List.take_length]
  simp [tC, A5, A8, Ad, B1] at h0
  simp [tC, A5, A8, Ad, B1, A9]
  simpa using h0
 | f + 1, i, h => by
  refine q2P fun K hK => ?_
  have h2 : i < c.nodes.l.length := by omega
  have ih := qIc c hc k hn h0 f (i + 1) (by omega)
  rw [qDb h2] at ih
  have hget := qAE (c := c) (n := (i : Int)) (by omega) (by omega)
  have hget' := qCR (c := c) (n := (i : Int)) (by omega) (by omega)
  have hk : (nd c i).k = Bo c i := by simp [nd, Bo]
  simp only [Int.toNat_natCast] at hget hget'
  have hle := X3 [k] (c.nodes.l.take i) 0
  rw [List.length_take] at hle
  generalize nd c i = x at *
  generalize Qs [k] (c.nodes.l.take i) 0 = out at *
  have w1 : IntKind.i64.wrap ((i : Int) + 1) = (i : Int) + 1 := by rw [A4] <;> omega
  have vt : (Av out).take out.length = Av out := Ag
  have vs : Av out ++ [[tI i]] = Av (out ++ [(i : Int)]) := Bf
  by_cases h1 : x.k = k
  ·have hkk : [k].contains (Bo c i) = true := by rw [← hk, h1]; simp
   rw [hkk, if_pos rfl] at ih
   simp [tC, A5, A8, Ad, B1] at ih
   simp [tC, A5, A8, Ad, B1, A9, h2, Bd, hget, hget', Dn, h1, A0, A6, vt, vs, w1]
   refine ⟨by omega, ?_⟩
   rw [hK]
   simpa using ih
  ·have hkk : [k].contains (Bo c i) = false := by rw [← hk]; simp; exact h1
   rw [hkk, if_neg (by simp), List.append_nil] at ih
   simp [tC, A5, A8, Ad, B1] at ih
   simp [tC, A5, A8, Ad, B1, A9, h2, Bd, hget, hget', Dn, h1, w1]
   rw [hK]
   simpa using ih
theorem qEz (c : B5) (hc : COk c) (k : Int) (hn : c.nodes.l.length ≤ 1000000) : Ac Tryz.prog Γ 52 [.agg (tC c), tK k] (.sl (Av (Qs [k] c.nodes.l 0)) none none) := by
 refine Ar qCQ rfl ?_
 have g := fun Q h0 => qIc (Γ := Γ) (Q := Q) c hc k hn h0 c.nodes.l.length 0 (by omega)
 have ht : (Av (Qs [k] c.nodes.l 0)).take (Qs [k] c.nodes.l 0).length = Av (Qs [k] c.nodes.l 0) := Ag
 have hz : Qs [k] (c.nodes.l.take 0) 0 = [] := rfl
 rw [hz] at g
 simp only [List.length_nil, D4] at g
 generalize Qs [k] c.nodes.l 0 = R at *
 simp [tC, A5, A8, Ad, B1] at g
 simp [q8Z, tC, A5, A8, Ad, B1]
 refine g _ ?_
 simp [q8a, Ah, ht]
structure I9 where
 dff : Sl Int
 words : Sl (Sl (Sl Int))
 read : Sl (Sl Int)
def Ko (s : Sl (Sl (Sl Int))) : T := .sl (Ab tW s.l) s.cap s.nl
def B9 (s : I9) : List T := [tV s.dff, Ko s.words, tW s.read]
def I9.rd (s : I9) : List (List Int) := s.read.l.map (·.l)
def I9.ws (s : I9) : List (List (List Int)) := s.words.l.map fun w => w.l.map (·.l)
def Sl.zz : Sl (Sl Int) := ⟨[], none, none⟩
def Bj (nets : List Int) (l : List Int) : List Int := l.map fun k => nets.getD k.toNat 0
theorem qKn {Q : AX → St → Prop} (c : B5) (nets : Sl Int) (hn : nets.l.length ≤ 1000000) (l : Sl Int) (hl : l.l.length ≤ 1000000) (hin : ∀ k ∈ l.l, 0 ≤ k ∧ k < nets.l.length) (R : List Int)
  (h0 : R.length = l.l.length → Q (.exit 0) ⟨[(2, .t (.ip (N8 c nets) 0)), (5, .ls 10 0 l.l.length none), (11, .t (B1 l)), (12, .t (tI l.l.length)), (13, .t (tI l.l.length)), (14, .t (tB false))], [(10, .sl 61 1 (Aq R))]⟩) :
  ∀ (k i : Nat) (out : List Int), k + i = l.l.length → out.length = i → out ++ Bj nets.l (l.l.drop i) = R →
  run Tryz.prog Γ E5 Q ⟨[(2, .t (.ip (N8 c nets) 0)), (5, .ls 10 0 i none), (11, .t (B1 l)), (12, .t (tI l.l.length)), (13, .t (tI i))], [(10, .sl 61 1 (Aq out))]⟩
 | 0, i, out, h, ho, hR => by
  refine I0 fun K hK => ?_
  have h2 : i = l.l.length := by omega
  subst h2
  rw [List.drop_length] at hR
  simp only [Bj, List.map_nil, List.append_nil] at hR
  subst hR
  have := h0 ho
  simp [B1] at this
  simp [B1]
  simpa using this
 | k + 1, i, out, h, ho, hR => by
  refine I0 fun K hK => ?_
  have h2 : i < l.l.length := by omega
  rw [List.drop_eq_getElem_cons h2] at hR
  simp only [Bj, List.map_cons] at hR
  have e1 := gE (f := tI) 0 h2
  have e1' := gE' (f := tI) 0 h2
  obtain ⟨q0, q1⟩ := hin _ (List.getElem_mem h2)
  rw [Cj h2] at e1 e1'
  generalize l.l[i] = q at *
  have h3 : q.toNat < nets.l.length := by omega
  have e2 := gE (f := tK) 0 h3
  have e2' := gE' (f := tK) 0 h3
  have ih := qKn c nets hn l hl hin R h0 k (i + 1) (out ++ [nets.l.getD q.toNat 0]) (by omega) (by simp [ho]) (by rw [← hR]; simp [Bj])
  generalize nets.l.getD q.toNat 0 = v at *
  have vs := Ph (l := out) (v := v)
  have vt : (Aq out).take i = Aq out := by rw [← ho]; exact Ci
  have w1 := B0 (i := i) (by omega)
  simp [N8, A5, A8, Ad, B1, tV] at ih
  simp [N8, A5, A8, Ad, B1, tV, A0, A6, h2, e1, e1', q0, q1, h3, e2, e2', vt, vs, ho, w1]
  refine ⟨by omega, ?_⟩
  rw [hK]
  simpa using ih
theorem q28 (c : B5) (nets : Sl Int) (hn : nets.l.length ≤ 1000000) (l : Sl Int) (hl : l.l.length ≤ 1000000) (hin : ∀ k ∈ l.l, 0 ≤ k ∧ k < nets.l.length) :
  A3 Tryz.prog Γ 41 [.agg (N8 c nets), B1 l] (tV ⟨Bj nets.l l.l, none, none⟩) := by
 refine A7 Xc rfl ?_
 have g := fun Q h0 => qKn (Γ := Γ) (Q := Q) c nets hn l hl hin (Bj nets.l l.l) h0 l.l.length 0 [] (by omega) rfl (by simp)
 generalize Bj nets.l l.l = R at *
 simp [N8, A5, A8, Ad, B1, tV, D4] at g
 simp [L0, N8, A5, A8, Ad, B1, tV, A0]
 refine ⟨by omega, g _ fun hR => ?_⟩
 have vt : (Aq R).take l.l.length = Aq R := by rw [← hR]; exact Ci
 simp [L1, Ah, vt]
theorem qKo {Q : AX → St → Prop} (c : B5) (s : I9) (inn : Sl Int) (ns : List Int) (cap : Option Nat) (n : Nat) (hn : n ≤ 1000000) (hns : ns.length ≤ n) (hin : ∀ x ∈ ns, 0 ≤ x ∧ x < n) (hp : inn.l.length = ns.length) (R : List Int)
  (h0 : Q (.exit 0) ⟨[(2, .t (tV inn)), (3, .lp 3 0 0), (4, .t (.ip (B9 s) 0)), (14, .t (.sl (Av ns) (some ns.length) none)), (15, .t (tI ns.length)), (16, .t (tI ns.length)), (17, .t (tB false))], [(3, .bx (Z5 c 1000000 n cap)), (1000000, .sl 61 1 (Aq R))]⟩) :
  ∀ (k i : Nat) (l : List Int), k + i = ns.length → l.length = n → Hz (ns.drop i) (inn.l.drop i) l = R →
  run Tryz.prog Γ Ef Q ⟨[(2, .t (tV inn)), (3, .lp 3 0 0), (4, .t (.ip (B9 s) 0)), (14, .t (.sl (Av ns) (some ns.length) none)), (15, .t (tI ns.length)), (16, .t (tI i))], [(3, .bx (Z5 c 1000000 n cap)), (1000000, .sl 61 1 (Aq l))]⟩
 | 0, i, l, h, hl, hR => by
  refine J9 fun K hK => ?_
  have h2 : i = ns.length := by omega
  subst h2
  rw [List.drop_length] at hR
  simp only [Hz] at hR
  subst hR
  simp
  exact h0
 | k + 1, i, l, h, hl, hR => by
  refine J9 fun K hK => ?_
  have h2 : i < ns.length := by omega
  have h3 : i < inn.l.length := by omega
  rw [qAA h2 h3] at hR
  have ih := qKo c s inn ns cap n hn hns hin hp R h0 k (i + 1) _ (by omega) (by simp [hl]) hR
  have e1 := gE (f := tI) 0 h2
  have e1' := gE' (f := tI) 0 h2
  have e2 := gE (f := tK) 0 h3
  have e2' := gE' (f := tK) 0 h3
  obtain ⟨hx0, hx1⟩ := hin (ns.getD i 0) (by rw [Cj h2]; exact List.getElem_mem h2)
  have hs : ∀ (j : Nat) (v : Int), (Aq l).set j [tK v] = Aq (l.set j v) := fun j v => J2
  generalize ns.getD i 0 = x at *
  generalize inn.l.getD i 0 = v at *
  have hx2 : x.toNat < n := by omega
  have w1 := B0 (i := i) (by omega)
  simp [Z5, tV] at ih
  simp [h2, h3, A0, A6, e1, e1', e2, e2', hx0, hx1, hx2, hl, Z5, tV, hs, hp, w1]
  rw [hK]
  simpa using ih
theorem qKp {Q : AX → St → Prop} (c : B5) (s : I9) (ns : List Int) (cap : Option Nat) (n : Nat) (hn : n ≤ 1000000) (hns : ns.length ≤ n) (hin : ∀ x ∈ ns, 0 ≤ x ∧ x < n) (hp : s.dff.l.length = ns.length) (R : List Int)
  (h0 : Q (.exit 2) ⟨[(3, .lp 3 0 0), (4, .t (.ip (B9 s) 0)), (32, .t (.sl (Av ns) (some ns.length) none)), (33, .t (tI ns.length)), (34, .t (tI ns.length)), (35, .t (tB false))], [(3, .bx (Z5 c 1000000 n cap)), (1000000, .sl 61 1 (Aq R))]⟩) :
  ∀ (k i : Nat) (l : List Int), k + i = ns.length → l.length = n → Hz (ns.drop i) (s.dff.l.drop i) l = R →
  run Tryz.prog Γ Eg Q ⟨[(3, .lp 3 0 0), (4, .t (.ip (B9 s) 0)), (32, .t (.sl (Av ns) (some ns.length) none)), (33, .t (tI ns.length)), (34, .t (tI i))], [(3, .bx (Z5 c 1000000 n cap)), (1000000, .sl 61 1 (Aq l))]⟩
 | 0, i, l, h, hl, hR => by
  refine Ja fun K hK => ?_
  have h2 : i = ns.length := by omega
  subst h2
  rw [List.drop_length] at hR
  simp only [Hz] at hR
  subst hR
  simp
  exact h0
 | k + 1, i, l, h, hl, hR => by
  refine Ja fun K hK => ?_
  have h2 : i < ns.length := by omega
  have h3 : i < s.dff.l.length := by omega
  rw [qAA h2 h3] at hR
  have ih := qKp c s ns cap n hn hns hin hp R h0 k (i + 1) _ (by omega) (by simp [hl]) hR
  have e1 := gE (f := tI) 0 h2
  have e1' := gE' (f := tI) 0 h2
  have e2 := gE (f := tK) 0 h3
  have e2' := gE' (f := tK) 0 h3
  obtain ⟨hx0, hx1⟩ := hin (ns.getD i 0) (by rw [Cj h2]; exact List.getElem_mem h2)
  have hs : ∀ (j : Nat) (v : Int), (Aq l).set j [tK v] = Aq (l.set j v) := fun j v => J2
  generalize ns.getD i 0 = x at *
  generalize s.dff.l.getD i 0 = v at *
  have hx2 : x.toNat < n := by omega
  have w1 := B0 (i := i) (by omega)
  simp [Z5, tV, B9] at ih
  simp [h2, h3, A0, A6, e1, e1', e2, e2', hx0, hx1, hx2, hl, Z5, tV, B9, hs, hp, w1]
  rw [hK]
  simpa using ih
theorem qKq {Q : AX → St → Prop} (c : B5) (s : I9) (ns : List Int) (cap : Option Nat) (hn : c.nodes.l.length ≤ 1000000) (hns : ns.length ≤ c.nodes.l.length) (hin : ∀ x ∈ ns, 0 ≤ x ∧ x < c.nodes.l.length)
  (hm : ∀ x ∈ ns, 0 ≤ (nd c x).mem ∧ (nd c x).mem < s.read.l.length ∧ 0 ≤ (nd c x).bit ∧ (nd c x).bit < (s.read.l.getD (nd c x).mem.toNat Sl.z).l.length) (R : List Int)
  (h0 : Q (.exit 4) ⟨[(3, .lp 3 0 0), (4, .t (.ip (B9 s) 0)), (52, .t (.sl (Av ns) (some ns.length) none)), (53, .t (tI ns.length)), (54, .t (tI ns.length)), (55, .t (tB false))], [(3, .bx (Z5 c 1000000 c.nodes.l.length cap)), (1000000, .sl 61 1 (Aq R))]⟩) :
  ∀ (k i : Nat) (l : List Int), k + i = ns.length → l.length = c.nodes.l.length → Hz (ns.drop i) ((ns.drop i).map fun n => (s.read.l.getD (nd c n).mem.toNat Sl.z).l.getD (nd c n).bit.toNat 0) l = R →
  run Tryz.prog Γ Eh Q ⟨[(3, .lp 3 0 0), (4, .t (.ip (B9 s) 0)), (52, .t (.sl (Av ns) (some ns.length) none)), (53, .t (tI ns.length)), (54, .t (tI i))], [(3, .bx (Z5 c 1000000 c.nodes.l.length cap)), (1000000, .sl 61 1 (Aq l))]⟩
 | 0, i, l, h, hl, hR => by
  refine Jb fun K hK => ?_
  have h2 : i = ns.length := by omega
  subst h2
  rw [List.drop_length] at hR
  simp only [Hz] at hR
  subst hR
  simp
  exact h0
 | k + 1, i, l, h, hl, hR => by
  refine Jb fun K hK => ?_
  have h2 : i < ns.length := by omega
  rw [List.drop_eq_getElem_cons h2, List.map_cons] at hR
  simp only [Hz] at hR
  have e1 := gE (f := tI) 0 h2
  have e1' := gE' (f := tI) 0 h2
  have hxm := List.getElem_mem h2
  rw [Cj h2] at e1 e1'
  generalize ns[i] = x at *
  obtain ⟨hx0, hx1⟩ := hin x hxm
  obtain ⟨m0, m1, b0, b1⟩ := hm x hxm
  have ih := qKq c s ns cap hn hns hin hm R h0 k (i + 1) _ (by omega) (by rw [List.length_set]; exact hl) hR
  have hget := qAE hx0 hx1
  have hget' := qCR hx0 hx1
  generalize nd c x = y at *
  have hm2 : y.mem.toNat < s.read.l.length := by omega
  have e2 := gE (f := tV) Sl.z hm2
  have e2' := gE' (f := tV) Sl.z hm2
  generalize s.read.l.getD y.mem.toNat Sl.z = row at *
  have hb2 : y.bit.toNat < row.l.length := by omega
  have e3 := gE (f := tK) 0 hb2
  have e3' := gE' (f := tK) 0 hb2
  generalize row.l.getD y.bit.toNat 0 = v at *
  have hs : ∀ (j : Nat) (v : Int), (Aq l).set j [tK v] = Aq (l.set j v) := fun j v => J2
  have hx2 : x.toNat < c.nodes.l.length := by omega
  have w1 := B0 (i := i) (by omega)
  simp only [tV] at e2 e2'
  simp [Z5, B9, tW] at ih
  simp [h2, A0, A6, A9, Bd, e1, e1', e2, e2', e3, e3', hx0, hx1, hx2, hl, Z5, B9, tW, A5, Dn, hget, hget', m0, m1, hm2, b0, b1, hb2, hs, w1]
  rw [hK]
  simpa [A5] using ih
theorem qK4 (c : B5) (hc : COk c) (s : I9) (inn : Sl Int) (cap : Option Nat) (l : List Int) (hl : l.length = c.nodes.l.length) (hn : c.nodes.l.length ≤ 1000000) (h1 : inn.l.length = (Bz c).length) (h2 : s.dff.l.length = (Aj c).length)
  (hm : ∀ x ∈ mems c, 0 ≤ (nd c x).mem ∧ (nd c x).mem < s.read.l.length ∧ 0 ≤ (nd c x).bit ∧ (nd c x).bit < (s.read.l.getD (nd c x).mem.toNat Sl.z).l.length) (hz : l = List.replicate c.nodes.l.length 0) :
  Eu Tryz.prog Γ 37 [(1000000, .sl 61 1 (Aq l))] [.ag (Z5 c 1000000 c.nodes.l.length cap), .t (.agg (B9 s)), .t (tV inn)] (.t (.tup [])) [(1000000, .sl 61 1 (Aq (q1H c inn.l s.dff.l s.rd)))] := by
 refine Gu Z7 rfl ?_
 have hmv : qCO c s.rd = (mems c).map fun n => (s.read.l.getD (nd c n).mem.toNat Sl.z).l.getD (nd c n).bit.toNat 0 := by
  unfold qCO
  refine List.map_congr_left fun x hx => ?_
  obtain ⟨m0, m1, _, _⟩ := hm x hx
  have : (nd c x).mem.toNat < s.read.l.length := by omega
  simp [I9.rd, List.getD_eq_getElem?_getD, this]
 have hL : q1H c inn.l s.dff.l s.rd = Hz (mems c) ((mems c).map fun n => (s.read.l.getD (nd c n).mem.toNat Sl.z).l.getD (nd c n).bit.toNat 0) (Hz (Aj c) s.dff.l (Hz (Bz c) inn.l l)) := by
  unfold q1H qFr
  rw [hmv, hz]
 have g1 := fun Q h0 => qKo (Γ := Γ) (Q := Q) c s inn (Bz c) cap c.nodes.l.length hn (Oi c) (fun x hx => ⟨(q1w x hx).1, (q1w x hx).2.1⟩) h1 _ h0 (Bz c).length 0 l (by omega) hl rfl
 have g2 := fun Q h0 => qKp (Γ := Γ) (Q := Q) c s (Aj c) cap c.nodes.l.length hn (Di c) (fun x hx => ⟨(q1w x hx).1, (q1w x hx).2.1⟩) h2 _ h0 (Aj c).length 0 (Hz (Bz c) inn.l l) (by omega) (by rw [T0]; exact hl) rfl
 have g3 := fun Q h0 => qKq (Γ := Γ) (Q := Q) c s (mems c) cap hn (X3 _ _ _) (fun x hx => ⟨(q1w x hx).1, (q1w x hx).2.1⟩) hm (q1H c inn.l s.dff.l s.rd) h0 (mems c).length 0 (Hz (Aj c) s.dff.l (Hz (Bz c) inn.l l)) (by omega) (by rw [T0, T0]; exact hl) (by rw [hL, List.drop_zero])
 simp only [List.drop_zero] at g1 g2
 have e3 := qCF (Γ := Γ) c hc 15
 have hmm : Qs [15] c.nodes.l 0 = mems c := rfl
 rw [hmm] at e3
 generalize q1H c inn.l s.dff.l s.rd = RR at *
 generalize Hz (Aj c) s.dff.l (Hz (Bz c) inn.l l) = R2 at *
 generalize Hz (Bz c) inn.l l = R1 at *
 simp [Z5, B9, tV, tW, Ko, A5, A8, Ad, B1] at g1 g2 g3
 simp [Nw, Z5, B9, tV, tW, Ko, A5, A8, Ad, B1]
 refine Aa (Ur c hc) rfl ?_
 simp [A0]
 refine g1 _ ?_
 simp
 refine Aa (Fo c hc) rfl ?_
 simp [A0]
 refine g2 _ ?_
 simp
 refine A1 e3 rfl ?_
 simp [A0]
 refine g3 _ ?_
 simp [Nx]
structure I4 (c : B5) (s : I9) : Prop where
 d : s.dff.l.length = (Aj c).length
 w : s.words.l.length = c.mems.l.length
 r : s.read.l.length = c.mems.l.length
 wl : ∀ i, i < c.mems.l.length → (s.words.l.getD i Sl.zz).l.length = 2 ^ (c.mems.l.getD i Mm.d).addr.l.length
 wr : ∀ i, i < c.mems.l.length → ∀ w ∈ (s.words.l.getD i Sl.zz).l, w.l.length = (c.mems.l.getD i Mm.d).data.l.length
 rl : ∀ i, i < c.mems.l.length → (s.read.l.getD i Sl.z).l.length = (c.mems.l.getD i Mm.d).data.l.length
 vd : ∀ v ∈ s.dff.l, 0 ≤ v ∧ v ≤ 2
 vw : ∀ w ∈ s.words.l, ∀ r ∈ w.l, ∀ v ∈ r.l, 0 ≤ v ∧ v ≤ 2
 vr : ∀ r ∈ s.read.l, ∀ v ∈ r.l, 0 ≤ v ∧ v ≤ 2
theorem qH8 {c : B5} (h : Dx c = 0) : ∀ m ∈ c.mems.l, (1 ≤ m.addr.l.length ∧ m.addr.l.length ≤ 8) ∧ (1 ≤ m.data.l.length ∧ m.data.l.length ≤ 32) ∧ (∀ n ∈ m.addr.l, 0 ≤ n ∧ n < c.nodes.l.length) ∧ (∀ n ∈ m.data.l, 0 ≤ n ∧ n < c.nodes.l.length) ∧ 0 ≤ m.write ∧ m.write < c.nodes.l.length := by
 unfold Dx at h
 split at h
 ·cases h
 split at h
 ·cases h
 split at h
 ·rename_i h2; exact absurd h h2
 split at h
 ·rename_i h2; exact absurd h h2
 split at h
 ·rename_i h2; exact absurd h h2
 rename_i h2
 intro m hm
 have h3 := q0c (by simpa using h2) m hm
 unfold Oc at h3
 split at h3
 ·cases h3
 rename_i h4
 split at h3
 ·cases h3
 rename_i h5
 simp only [not_or, Bool.not_eq_true] at h4 h5
 obtain ⟨a1, a2⟩ := h4
 obtain ⟨a3, a4, a5⟩ := h5
 simp [Vi] at a1 a2
 simp [Q6] at a5
 refine ⟨⟨by have := List.length_pos_iff.2 a1.1; omega, by omega⟩, ⟨by have := List.length_pos_iff.2 a2.1; omega, by omega⟩, q48 a3, q48 a4, a5.1, a5.2⟩
theorem qDh {hp : List (Nat × B7)} {f : FuncId} {K : T → Prop} {cs : List T} {t res : T} (h : Ac Tryz.prog Γ f (t :: cs) res ∨ A3 Tryz.prog Γ f (t :: cs) res) (hk : K res) : q4b Tryz.prog Γ hp f (.t t :: cs.map .t) K ⟨⟩ := by
 rcases h with h | h
 ·exact Aa h (by simp only [List.map_cons, List.map_map, Function.comp_def, Af, toT]; rw [P6]; rfl) hk
 ·exact Y5 h hk
theorem qFz {Q : AX → St → Prop} (l : List (Sl Int)) (c : Option Nat) (nl : Option Bool) (f : FuncId) (cs : List T) (hp : ∀ x ∈ l, Ac Tryz.prog Γ f (tV x :: cs) (tB false) ∨ A3 Tryz.prog Γ f (tV x :: cs) (tB false)) (hl : l.length ≤ 1000000)
  (h0 : Q (.exit 0) ⟨[(0, .t (.sl (Ab tV l) c nl)), (1, .t (.fn f cs)), (7, .t (tI l.length)), (8, .t (tI l.length)), (9, .t (tB false))], []⟩) : ∀ (k i : Nat), k + i = l.length →
  run Tryz.prog Γ D7 Q ⟨[(0, .t (.sl (Ab tV l) c nl)), (1, .t (.fn f cs)), (7, .t (tI l.length)), (8, .t (tI i))], []⟩
 | 0, i, h => by
  refine G8 fun K hK => ?_
  have h2 : i = l.length := by omega
  subst h2
  simp
  simpa using h0
 | k + 1, i, h => by
  refine G8 fun K hK => ?_
  have h2 : i < l.length := by omega
  have ih := qFz l c nl f cs hp hl h0 k (i + 1) (by omega)
  have e1 := gE (f := tV) Sl.z h2
  have e1' := gE' (f := tV) Sl.z h2
  rw [show l.getD i Sl.z = l[i] by simp [List.getD_eq_getElem?_getD, h2]] at e1 e1'
  have hq := hp _ (List.getElem_mem h2)
  generalize l[i] = x at *
  have w1 := B0 (i := i) (by omega)
  simp [A0, A6, h2, e1, e1']
  refine qDh hq ?_
  simp [w1]
  rw [hK]
  simpa using ih
theorem q4C (l : List (Sl Int)) (c : Option Nat) (nl : Option Bool) (f : FuncId) (cs : List T) (hp : ∀ x ∈ l, Ac Tryz.prog Γ f (tV x :: cs) (tB false) ∨ A3 Tryz.prog Γ f (tV x :: cs) (tB false)) (hl : l.length ≤ 1000000) : A3 Tryz.prog Γ 82 [.sl (Ab tV l) c nl, .fn f cs] (tB false) := by
 have hi : A3 Tryz.prog Γ 124 [.sl (Ab tV l) c nl, .fn f cs] (tI (-1)) := by
  refine A7 Qx rfl ?_
  have g := fun Q h0 => qFz (Γ := Γ) (Q := Q) l c nl f cs hp hl h0 l.length 0 (by omega)
  simp at g
  simp [I2, A0]
  refine g _ ?_
  simp [I3]
 refine A7 On rfl ?_
 simp [Gk]
 refine A1 hi rfl ?_
 simp [Gm]
theorem qAR (l : Sl Int) (m : Mm) : A3 Tryz.prog Γ 125 [tV l, .ip (tMm m) 0] (tB (decide (¬ (l.l.length : Int) = m.data.l.length))) := by
 refine A7 q4S rfl ?_
 simp [Yj, tV, tMm, B1, A0, Yk]
theorem qM4 {n : Nat} (h : n ≤ 8) : IntKind.i64.wrap (2 ^ min n IntKind.i64.bits) = ((2 ^ n : Nat) : Int) := by
 have e : min n IntKind.i64.bits = n := by
  have : IntKind.i64.bits = 64 := rfl
  rw [this]
  exact Nat.min_eq_left (by omega)
 rw [e]
 have h2 : 2 ^ n ≤ 2 ^ 8 := Nat.pow_le_pow_right (by omega) h
 have h3 : (2 : Int) ^ n = ((2 ^ n : Nat) : Int) := by simp
 rw [h3]
 generalize 2 ^ n = q at *
 exact A4 (by omega) (by omega)
theorem qDi {Q : AX → St → Prop} (c : B5) (hcm : c.mems.l.length ≤ 16) (hma : ∀ m ∈ c.mems.l, m.addr.l.length ≤ 8) (s : I9) (H : I4 c s)
  (h0 : Q (.exit 0) ⟨[(3, .t (.ip (B9 s) 0)), (34, .t (Ad c.mems)), (35, .t (tI c.mems.l.length)), (36, .t (tI c.mems.l.length)), (37, .t (tB false))], []⟩) : ∀ (k i : Nat), k + i = c.mems.l.length →
  run Tryz.prog Γ Ll Q ⟨[(3, .t (.ip (B9 s) 0)), (34, .t (Ad c.mems)), (35, .t (tI c.mems.l.length)), (36, .t (tI i))], []⟩
 | 0, i, h => by
  refine Ux fun K hK => ?_
  have h2 : i = c.mems.l.length := by omega
  subst h2
  simp [B9, Ad] at h0
  simp [B9, Ad]
  simpa using h0
 | k + 1, i, h => by
  refine Ux fun K hK => ?_
  have h2 : i < c.mems.l.length := by omega
  have ih := qDi c hcm hma s H h0 k (i + 1) (by omega)
  have e1 : (An tMm c.mems.l)[i]?.getD [] = tMm (c.mems.l.getD i Mm.d) := by simp [An, h2]
  have e1' : ∀ h, (An tMm c.mems.l)[i]'h = tMm (c.mems.l.getD i Mm.d) := fun h => by simp [An, h2]
  have ma : (c.mems.l.getD i Mm.d).addr.l.length ≤ 8 := by
   rw [show c.mems.l.getD i Mm.d = c.mems.l[i] by simp [List.getD_eq_getElem?_getD, h2]]
   exact hma _ (List.getElem_mem h2)
  have h3 : i < s.words.l.length := by rw [H.w]; exact h2
  have h4 : i < s.read.l.length := by rw [H.r]; exact h2
  have e2 := gE (f := tW) Sl.zz h3
  have e2' := gE' (f := tW) Sl.zz h3
  have e3 := gE (f := tV) Sl.z h4
  have e3' := gE' (f := tV) Sl.z h4
  have wl := H.wl i h2
  have wr := H.wr i h2
  have rl := H.rl i h2
  generalize s.words.l.getD i Sl.zz = W at *
  generalize s.read.l.getD i Sl.z = rd at *
  generalize c.mems.l.getD i Mm.d = m at *
  have sh := qM4 ma
  have hwl : (W.l.length : Int) = 2 ^ m.addr.l.length := by rw [wl]; simp
  have hWl : W.l.length ≤ 256 := by rw [wl]; exact Nat.pow_le_pow_right (by omega) ma
  have f1 := qAR (Γ := Γ) rd m
  have hrl : ¬ (¬ (rd.l.length : Int) = m.data.l.length) := by omega
  rw [decide_eq_false hrl] at f1
  have f2 := q4C (Γ := Γ) W.l W.cap W.nl 125 [.ip (tMm m) 0] (fun x hx => by
   have := qAR (Γ := Γ) x m
   rw [decide_eq_false (by have := wr x hx; omega)] at this
   exact .inr this) (by omega)
  have w1 := B0 (i := i) (by omega)
  have h3' : (i : Int) < s.words.l.length := by omega
  have h4' : (i : Int) < s.read.l.length := by omega
  simp only [tV] at e3 e3' f1
  simp only [tW] at e2 e2'
  simp only [tMm, B1] at e1 e1' f1 f2
  simp [B9, Ad, tW, Ko] at ih
  simp [B9, Ad, Q5, tW, Ko, A9, A0, A6, h2, e1, e1', e2, e2', e3, e3', h3, h4, sh, hwl]
  refine A1 f1 rfl ?_
  simp [h2, e1, e1', e2, e2', e3, e3', h3, h4, A0, A6]
  refine A1 f2 rfl ?_
  simp [w1]
  rw [hK]
  simpa using ih
theorem qF0 (c : B5) (hc : COk c) (hcm : c.mems.l.length ≤ 16) (hma : ∀ m ∈ c.mems.l, m.addr.l.length ≤ 8) (s : I9) (H : I4 c s) : Ac Tryz.prog Γ 88 [.agg (tC c), .agg (B9 s)] (tB true) := by
 refine Ar q6z rfl ?_
 have g := fun Q h0 => qDi (Γ := Γ) (Q := Q) c hcm hma s H h0 c.mems.l.length 0 (by omega)
 have es := Fo (Γ := Γ) c hc
 have h1 := H.d
 have h2 := H.w
 have h3 := H.r
 simp [B9, tV, tW, Ko, Ad] at g
 simp [tC, A5, A8, Ad, B1] at es
 simp [q1F, tC, A5, A8, Ad, B1, B9, tV, tW, Ko]
 refine Aa es rfl ?_
 simp [A0, A9, h1, h2, h3]
 refine g _ ?_
 simp [q1G]
def Qj (s : I9) : List (Sl Int) := s.dff :: s.read.l ++ s.words.l.flatMap (·.l)
theorem qDj {Q : AX → St → Prop} (words : Sl (Sl (Sl Int))) (hl : words.l.length ≤ 1000) (hw : ∀ w ∈ words.l, w.l.length ≤ 1000) (hw1 : ∀ w ∈ words.l, w.l ≠ []) (R : List (Sl Int))
  (h0 : Q (.exit 0) ⟨[(3, .ls 11 0 R.length none), (13, .t (Ko words)), (14, .t (tI words.l.length)), (15, .t (tI words.l.length)), (16, .t (tB false))], [(11, .sl 41 1 (Ab tV R))]⟩) :
  ∀ (k i : Nat) (out : List (Sl Int)), k + i = words.l.length → out.length ≤ 2000 + 1000 * i → out ++ (words.l.drop i).flatMap (·.l) = R →
  run Tryz.prog Γ Jw Q ⟨[(3, .ls 11 0 out.length none), (13, .t (Ko words)), (14, .t (tI words.l.length)), (15, .t (tI i))], [(11, .sl 41 1 (Ab tV out))]⟩
 | 0, i, out, h, ho, hR => by
  refine Rn fun K hK => ?_
  have h2 : i = words.l.length := by omega
  subst h2
  rw [List.drop_length] at hR
  simp only [List.flatMap_nil, List.append_nil] at hR
  subst hR
  simp
  simpa using h0
 | k + 1, i, out, h, ho, hR => by
  refine Rn fun K hK => ?_
  have h2 : i < words.l.length := by omega
  rw [List.drop_eq_getElem_cons h2, List.flatMap_cons] at hR
  have e1 := gE (f := tW) Sl.zz h2
  have e1' := gE' (f := tW) Sl.zz h2
  rw [show words.l.getD i Sl.zz = words.l[i] by simp [List.getD_eq_getElem?_getD, h2]] at e1 e1'
  have hwl := hw _ (List.getElem_mem h2)
  have hwn := hw1 _ (List.getElem_mem h2)
  generalize words.l[i] = w at *
  have ih := qDj words hl hw hw1 R h0 k (i + 1) (out ++ w.l) (by omega) (by simp; omega) (by rw [← hR]; simp)
  have w1 := B0 (i := i) (by omega)
  have vt : (Ab tV out).take out.length = Ab tV out := Ag
  have va : Ab tV out ++ Ab tV w.l = Ab tV (out ++ w.l) := q6T
  simp only [tW] at e1 e1'
  simp [Ko] at ih
  simp [Ko, A0, A6, h2, e1, e1', vt, va, w1]
  refine ⟨by omega, ?_⟩
  rw [hK]
  simpa using ih
theorem qF1 (s : I9) (hl : s.words.l.length ≤ 1000) (hr : s.read.l.length = s.words.l.length) (hw : ∀ w ∈ s.words.l, w.l.length ≤ 1000) (hw1 : ∀ w ∈ s.words.l, w.l ≠ []) : Ac Tryz.prog Γ 89 [.agg (B9 s)] (.sl (Ab tV (Qj s)) none none) := by
 have hwid : Ce 1 [[T.sl (Aq s.dff.l) s.dff.cap s.dff.nl]] := by intro e he; simp at he; subst he; rfl
 by_cases h0 : s.words.l = []
 ·have h1 : s.read.l = [] := List.eq_nil_of_length_eq_zero (by rw [hr, h0]; rfl)
  refine Ar q4R rfl ?_
  simp [Yh, B9, tV, tW, Ko, h0, h1, D4]
  refine q22 fun K hK => ?_
  simp [Yi, Qj, h0, h1, Ab, tV]
 ·refine Ar q5s rfl ?_
  have g := fun Q h0 => qDj (Γ := Γ) (Q := Q) s.words hl hw hw1 (Qj s) h0 s.words.l.length 0 (s.dff :: s.read.l) (by omega) (by simp; omega) (by simp [Qj])
  have vt : (Ab tV (Qj s)).take (Qj s).length = Ab tV (Qj s) := Ag
  have hrn : ¬ s.read.l = [] := fun e => by rw [e] at hr; exact h0 (List.eq_nil_of_length_eq_zero hr.symm)
  have hen : ¬ Ab tV s.read.l = [] := fun e => hrn (by have := congrArg List.length e; rw [A0] at this; exact List.eq_nil_of_length_eq_zero this)
  have hcons : Ab tV (s.dff :: s.read.l) = [tV s.dff] :: Ab tV s.read.l := rfl
  rw [hcons] at g
  generalize Qj s = R at *
  simp [tV, tW, Ko] at g
  simp [q00, B9, tV, tW, Ko, A0, A6, hen, hwid]
  rw [Nat.add_comm 1]
  refine ⟨by omega, g _ ?_⟩
  simp [q01, Ah, vt]
theorem qBl (v m : Int) : A3 Tryz.prog Γ 86 [tK v, .ip [tK m] 0] (tB (decide (v > m))) := by
 refine A7 q23 rfl ?_
 simp [Ro, Rq]
theorem qDk (m : Int) : Ac Tryz.prog Γ 85 [tK m] (.fn 86 [.ip [tK m] 0]) := by
 refine Ar q3c rfl ?_
 simp [Wc, We, Ah, Ni, q0k, Af]
theorem qId (l : Sl Int) (hl : l.l.length ≤ 1000000) (hv : ∀ v ∈ l.l, v ≤ 2) : A3 Tryz.prog Γ 87 [tV l, .ip [.fn 85 []] 0] (tB false) := by
 refine A7 q3d rfl ?_
 have e := Dy (Γ := Γ) l.l l.cap l.nl 86 [.ip [tK 2] 0] (fun v => decide (v > 2)) (fun x _ => qBl x 2) (by omega)
 have ha : l.l.any (fun v => decide (v > 2)) = false := by
  rw [List.any_eq_false]
  intro v h
  have := hv v h
  simp; omega
 rw [ha] at e
 simp [Wg, tV]
 refine Aa (qDk 2) rfl ?_
 simp
 refine A1 e rfl ?_
 simp [Wh]
structure MOk (c : B5) : Prop where
 ok : COk c
 lev : Gq c = 0
 n : c.nodes.l.length ≤ 1000000
theorem MOk.cm {c : B5} (h : MOk c) : c.mems.l.length ≤ 16 := (Ia (P9 h.lev).1).2.2.2
theorem MOk.mf {c : B5} (h : MOk c) : ∀ m ∈ c.mems.l, (1 ≤ m.addr.l.length ∧ m.addr.l.length ≤ 8) ∧ (1 ≤ m.data.l.length ∧ m.data.l.length ≤ 32) ∧ (∀ n ∈ m.addr.l, 0 ≤ n ∧ n < c.nodes.l.length) ∧ (∀ n ∈ m.data.l, 0 ≤ n ∧ n < c.nodes.l.length) ∧ 0 ≤ m.write ∧ m.write < c.nodes.l.length := qH8 (P9 h.lev).1
theorem Tj {α : Type} {l : List α} {d : α} {i : Nat} (h : i < l.length) : l.getD i d ∈ l := by
 rw [show l.getD i d = l[i] by simp [List.getD_eq_getElem?_getD, h]]
 exact List.getElem_mem h
theorem I4.words {c : B5} {s : I9} (h : MOk c) (H : I4 c s) : ∀ w ∈ s.words.l, w.l.length ≤ 256 ∧ w.l ≠ [] ∧ ∀ r ∈ w.l, r.l.length ≤ 32 := by
 intro w hw
 obtain ⟨i, hi, rfl⟩ := List.getElem_of_mem hw
 have hi' : i < c.mems.l.length := by rw [← H.w]; exact hi
 have e : s.words.l.getD i Sl.zz = s.words.l[i] := by simp [List.getD_eq_getElem?_getD, hi]
 have h1 := H.wl i hi'
 have h2 := H.wr i hi'
 have h3 := h.mf _ (Tj (d := Mm.d) hi')
 rw [e] at h1 h2
 have h4 : 2 ^ (c.mems.l.getD i Mm.d).addr.l.length ≤ 2 ^ 8 := Nat.pow_le_pow_right (by omega) h3.1.2
 have h5 : 0 < 2 ^ (c.mems.l.getD i Mm.d).addr.l.length := Nat.pow_pos (by omega)
 exact ⟨by omega, fun e => by have := congrArg List.length e; rw [h1, List.length_nil] at this; omega, fun r hr => by rw [h2 r hr]; exact h3.2.1.2⟩
theorem I4.reads {c : B5} {s : I9} (h : MOk c) (H : I4 c s) : ∀ r ∈ s.read.l, r.l.length ≤ 32 := by
 intro r hr
 obtain ⟨i, hi, rfl⟩ := List.getElem_of_mem hr
 have hi' : i < c.mems.l.length := by rw [← H.r]; exact hi
 have e : s.read.l.getD i Sl.z = s.read.l[i] := by simp [List.getD_eq_getElem?_getD, hi]
 have h1 := H.rl i hi'
 have h3 := h.mf _ (Tj (d := Mm.d) hi')
 rw [e] at h1
 rw [h1]; exact h3.2.1.2
theorem q8b (hΓ : GOk Γ) (c : B5) (h : MOk c) (s : I9) (H : I4 c s) (inn : Sl Int) (hi : inn.l.length = (Bz c).length) (hv : ∀ v ∈ inn.l, v ≤ 3) : Ac Tryz.prog Γ 36 [.agg (tC c), .agg (B9 s), tV inn] (tI 0) := by
 refine Ar q5t rfl ?_
 have e1 := q5g hΓ c h.ok
 have e2 := Ur (Γ := Γ) c h.ok
 have e3 := qF0 (Γ := Γ) c h.ok h.cm (fun m hm => (h.mf m hm).1.2) s H
 have hcm := h.cm
 have hsw := H.w
 have hsr := H.r
 have hsd := H.d
 have hsl := Di c
 have hil := Oi c
 have hn := h.n
 have hW := H.words h
 have hR := H.reads h
 have e4 := qF1 (Γ := Γ) s (by omega) (by omega) (fun w hw => by have := (hW w hw).1; omega) (fun w hw => (hW w hw).2.1)
 have hlen : (Qj s).length ≤ 1000000 := by
  have : (s.words.l.flatMap (·.l)).length ≤ 256 * s.words.l.length := by
   have key : ∀ l : List (Sl (Sl Int)), (∀ w ∈ l, w.l.length ≤ 256) → (l.flatMap (·.l)).length ≤ 256 * l.length := by
    intro l
    induction l with
    | nil => intro _; simp
    | cons w l ih =>
     intro hl
     have h1 := hl w List.mem_cons_self
     have h2 := ih fun x hx => hl x (List.mem_cons_of_mem _ hx)
     simp only [List.flatMap_cons, List.length_append, List.length_cons]
     omega
   exact key _ fun w hw => (hW w hw).1
  simp only [Qj, List.cons_append, List.length_cons, List.length_append]
  omega
 have hall : ∀ r ∈ Qj s, r.l.length ≤ 1000000 ∧ ∀ v ∈ r.l, v ≤ 2 := by
  intro r hr
  simp only [Qj, List.cons_append, List.mem_cons, List.mem_append, List.mem_flatMap] at hr
  rcases hr with rfl | hr | ⟨w, hw, hr⟩
  ·exact ⟨by omega, fun v hv => (H.vd v hv).2⟩
  ·exact ⟨by have := hR r hr; omega, fun v hv => (H.vr r hr v hv).2⟩
  ·exact ⟨by have := (hW w hw).2.2 r hr; omega, fun v hv => (H.vw w hw r hr v hv).2⟩
 have e5 := q4C (Γ := Γ) (Qj s) none none 87 [.ip [.fn 85 []] 0] (fun x hx => .inr (qId x (hall x hx).1 (hall x hx).2)) hlen
 have e6 := Dy (Γ := Γ) inn.l inn.cap inn.nl 86 [.ip [tK 3] 0] (fun v => decide (v > 3)) (fun x _ => qBl x 3) (by omega)
 have ha : inn.l.any (fun v => decide (v > 3)) = false := by
  rw [List.any_eq_false]
  intro v h
  have := hv v h
  simp; omega
 rw [ha] at e6
 rw [h.lev] at e1
 generalize Qj s = L at *
 simp [tC, A5, A8, Ad, B1] at e1 e2 e3
 simp [B9, tV, tW, Ko] at e3 e4
 simp [q02, tC, A5, A8, Ad, B1, B9, tV, tW, Ko]
 refine A1 e1 rfl ?_
 simp
 refine Aa e2 rfl ?_
 simp [A0, hi]
 refine Aa e3 rfl ?_
 simp
 refine Aa (qDk 3) rfl ?_
 simp
 refine A1 e6 rfl ?_
 simp
 refine Aa e4 rfl ?_
 simp
 refine A1 e5 rfl ?_
 simp [q03]
end Go.Lg
