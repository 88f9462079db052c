/- The reference of the gates: its small functions, walked. Conditions: none. -/
import Derived.Test.YtgnomdkcimglbaaGreatDoorPkE
import Derived.Test.YtgnomdkcimglbaaGreatDoorPkD
import Derived.Test.YtgnomdkcimglbaaGreatDoorPkC
import Derived.Test.YtgnomdkcimglbaaGreatDoorProg
import Derived.KernelRfl
set_option linter.unusedSimpArgs false
set_option linter.unusedVariables false
set_option maxRecDepth 100000
namespace Go.Lg
open Go Go.Proofs
variable {Γ : Tables}
theorem G2 (b : Bool) : A8 Tryz.prog Γ 209 [tB b] (tI (I9 b)) := by
  refine Ac q6m rfl ?_
  cases b <;> simp [q3N, q3O, I9]
theorem q3a (v : Int) (b : Bool) : Au Tryz.prog Γ 197 [tK v, tB b] (.sl (Ah (H4 v b)) (some (H4 v b).length) (some false)) := by
  refine D7 q3P rfl ?_
  unfold H4
  by_cases h0 : v = 0
  · simp [Ew, Ey, h0, Av, Dz]
  by_cases h1 : v = 1
  · simp [Ew, Ey, h0, h1, Av, Dz]
  cases b
  · simp [Ew, Ey, h0, h1, Av, Dz]
  by_cases h3 : v = 3
  · simp [Ew, Ey, h0, h1, h3, Av, Dz]
  · simp [Ew, Ey, h0, h1, h3, Av, Dz]
theorem qBg {l : List Int} {v : Int} {i : Nat} (h : i < l.length) : B5 (l.take (i + 1)) v = B5 (l.take i) v + if l.getD i 0 = v then 1 else 0 := by
  rw [← List.take_append_getElem h, q3V, Be h]
  congr 1
  unfold B5
  simp [List.countP_cons]
theorem q9B {Q : AX → St → Prop} (l : Sl Int) (v : Int) (hl : l.l.length ≤ 1000000)
    (h0 : Q (.exit 0) ⟨[(0, .t (Aw l)), (1, .t (tI v)), (5, .t (tI (B5 l.l v))), (6, .t (tI l.l.length)), (10, .t (tB false))], []⟩) :
    ∀ (k i : Nat), k + i = l.l.length → run Tryz.prog Γ O9 Q ⟨[(0, .t (Aw l)), (1, .t (tI v)), (5, .t (tI (B5 (l.l.take i) v))), (6, .t (tI i))], []⟩
  | 0, i, h => by
    refine V5 fun K hK => ?_
    have h2 : i = l.l.length := by omega
    subst h2
    rw [List.take_length]
    simp [Aw, A5]
    simpa [Aw] using h0
  | k + 1, i, h => by
    refine V5 fun K hK => ?_
    have h2 : i < l.l.length := by omega
    have ih := q9B l v hl h0 k (i + 1) (by omega)
    rw [qBg h2] at ih
    have hc : B5 (l.l.take i) v ≤ i := Nat.le_trans List.countP_le_length (by rw [List.length_take]; exact Nat.min_le_left _ _)
    have e1 := gE (f := tI) 0 h2
    have e1' := gE' (f := tI) 0 h2
    generalize l.l.getD i 0 = x at *
    generalize B5 (l.l.take i) v = n at *
    have w1 : IntKind.i64.wrap ((i : Int) + 1) = (i : Int) + 1 := by rw [A6] <;> omega
    have w2 : IntKind.i64.wrap ((n : Int) + 1) = (n : Int) + 1 := by rw [A6] <;> omega
    simp [Aw] at ih
    by_cases hx : x = v
    · simp [hx] at ih
      simp [Aw, A5, A9, h2, e1, e1', hx, w1, w2]
      rw [hK]
      simpa using ih
    · simp [hx] at ih
      simp [Aw, A5, A9, h2, e1, e1', hx, w1, w2]
      rw [hK]
      simpa using ih
theorem q9C (l : Sl Int) (v : Int) (hl : l.l.length ≤ 1000000) : A8 Tryz.prog Γ 208 [Aw l, tI v] (tI (B5 l.l v)) := by
  refine Ac q55 rfl ?_
  have g := fun Q h0 => q9B (Γ := Γ) (Q := Q) l v hl h0 l.l.length 0 (by omega)
  simp [Aw, B5] at g
  simp [q0y, Aw]
  refine g _ ?_
  simp [q0z, B5]
set_option maxHeartbeats 2000000 in
theorem q21 (k : Int) (hk : 1 ≤ k ∧ k ≤ 13) (l : Sl Int) (hl : l.l.length ≤ 1000000) (h1 : k = 3 ∨ k = 4 → 1 ≤ l.l.length) (h2 : k = 12 → 2 ≤ l.l.length) (h3 : k = 11 → 3 ≤ l.l.length) : A8 Tryz.prog Γ 198 [tK k, Aw l] (tI (I5 k l.l)) := by
  refine Ac q2c rfl ?_
  have c1 := q9C (Γ := Γ) l 1 hl
  have c0 := q9C (Γ := Γ) l 0 hl
  have n1 : B5 l.l 1 ≤ l.l.length := List.countP_le_length
  have n0 : B5 l.l 0 ≤ l.l.length := List.countP_le_length
  have hkc : k = 1 ∨ k = 2 ∨ k = 3 ∨ k = 4 ∨ k = 5 ∨ k = 6 ∨ k = 7 ∨ k = 8 ∨ k = 9 ∨ k = 10 ∨ k = 11 ∨ k = 12 ∨ k = 13 := by omega
  rcases hkc with rfl | rfl | rfl | rfl | rfl | rfl | rfl | rfl | rfl | rfl | rfl | rfl | rfl
  · simp [Aw] at c1 c0
    simp [B8, Aw]
    refine A4 c1 rfl ?_
    simp
    refine A4 c0 rfl ?_
    simp
    refine A4 (G2 _) rfl ?_
    simp [Am, I5]
  · simp [Aw] at c1 c0
    simp [B8, Aw]
    refine A4 c1 rfl ?_
    simp
    refine A4 c0 rfl ?_
    simp
    refine A4 (G2 _) rfl ?_
    simp [Am, I5]
  · simp [Aw] at c1 c0
    simp [B8, Aw]
    refine A4 c1 rfl ?_
    simp
    refine A4 c0 rfl ?_
    have h9 : 0 < l.l.length := h1 (by omega)
    have e1 := gE (f := tI) 0 h9
    have e1' := gE' (f := tI) 0 h9
    have hgx : l.l[0]?.getD 0 = l.l.getD 0 0 := (List.getD_eq_getElem?_getD ..).symm
    generalize hx : l.l.getD 0 0 = x at *
    have hx' := hgx
    simp [A5, A9, h9, e1, e1']
    refine A4 (G2 _) rfl ?_
    by_cases hh : x = 1 <;> simp [Am, I5, hx, hx', hh]
  · simp [Aw] at c1 c0
    simp [B8, Aw]
    refine A4 c1 rfl ?_
    simp
    refine A4 c0 rfl ?_
    have h9 : 0 < l.l.length := h1 (by omega)
    have e1 := gE (f := tI) 0 h9
    have e1' := gE' (f := tI) 0 h9
    have hgx : l.l[0]?.getD 0 = l.l.getD 0 0 := (List.getD_eq_getElem?_getD ..).symm
    generalize hx : l.l.getD 0 0 = x at *
    have hx' := hgx
    simp [A5, A9, h9, e1, e1']
    refine A4 (G2 _) rfl ?_
    by_cases hh : x = 1 <;> simp [Am, I5, hx, hx', hh]
  · simp [Aw] at c1 c0
    simp [B8, Aw]
    refine A4 c1 rfl ?_
    simp
    refine A4 c0 rfl ?_
    generalize hx : B5 l.l 0 = x at *
    simp
    refine A4 (G2 _) rfl ?_
    by_cases hh : x = 0 <;> simp [Am, I5, hx, hh]
  · simp [Aw] at c1 c0
    simp [B8, Aw]
    refine A4 c1 rfl ?_
    simp
    refine A4 c0 rfl ?_
    generalize hx : B5 l.l 0 = x at *
    simp
    refine A4 (G2 _) rfl ?_
    by_cases hh : x = 0 <;> simp [Am, I5, hx, hh]
  · simp [Aw] at c1 c0
    simp [B8, Aw]
    refine A4 c1 rfl ?_
    simp
    refine A4 c0 rfl ?_
    generalize hx : B5 l.l 1 = x at *
    simp
    refine A4 (G2 _) rfl ?_
    by_cases hh : 0 < x <;> simp [Am, I5, hx, hh]
  · simp [Aw] at c1 c0
    simp [B8, Aw]
    refine A4 c1 rfl ?_
    simp
    refine A4 c0 rfl ?_
    generalize hx : B5 l.l 1 = x at *
    simp
    refine A4 (G2 _) rfl ?_
    by_cases hh : 0 < x <;> simp [Am, I5, hx, hh]
  · simp [Aw] at c1 c0
    simp [B8, Aw]
    refine A4 c1 rfl ?_
    simp
    refine A4 c0 rfl ?_
    generalize hx : B5 l.l 1 = x at *
    have hm : (x : Int).tmod 2 = ((x % 2 : Nat) : Int) := by rw [Int.natCast_emod]; exact Int.tmod_eq_emod_of_nonneg (by omega)
    simp [hm, -Int.natCast_emod]
    refine A4 (G2 _) rfl ?_
    rcases Nat.mod_two_eq_zero_or_one x with hh | hh <;> simp [Am, I5, hx, hh]
  · simp [Aw] at c1 c0
    simp [B8, Aw]
    refine A4 c1 rfl ?_
    simp
    refine A4 c0 rfl ?_
    generalize hx : B5 l.l 1 = x at *
    have hm : (x : Int).tmod 2 = ((x % 2 : Nat) : Int) := by rw [Int.natCast_emod]; exact Int.tmod_eq_emod_of_nonneg (by omega)
    simp [hm, -Int.natCast_emod]
    refine A4 (G2 _) rfl ?_
    rcases Nat.mod_two_eq_zero_or_one x with hh | hh <;> simp [Am, I5, hx, hh]
  · simp [Aw] at c1 c0
    simp [B8, Aw]
    refine A4 c1 rfl ?_
    simp
    refine A4 c0 rfl ?_
    have h9 := h3 rfl
    have e1 := gE (f := tI) 0 (show 0 < l.l.length by omega)
    have e1' := gE' (f := tI) 0 (show 0 < l.l.length by omega)
    have e2 := gE (f := tI) 0 (show 1 < l.l.length by omega)
    have e2' := gE' (f := tI) 0 (show 1 < l.l.length by omega)
    have e3 := gE (f := tI) 0 (show 2 < l.l.length by omega)
    have e3' := gE' (f := tI) 0 (show 2 < l.l.length by omega)
    have q0 : 0 < l.l.length := by omega
    have q1 : 1 < l.l.length := by omega
    have q2 : 2 < l.l.length := by omega
    have q1' : (1 : Int) < l.l.length := by omega
    have q2' : (2 : Int) < l.l.length := by omega
    have hgx : l.l[0]?.getD 0 = l.l.getD 0 0 := (List.getD_eq_getElem?_getD ..).symm
    generalize hx : l.l.getD 0 0 = x at *
    have hx' := hgx
    have hgy : l.l[1]?.getD 0 = l.l.getD 1 0 := (List.getD_eq_getElem?_getD ..).symm
    generalize hy : l.l.getD 1 0 = y at *
    have hy' := hgy
    have hgz : l.l[2]?.getD 0 = l.l.getD 2 0 := (List.getD_eq_getElem?_getD ..).symm
    generalize hz : l.l.getD 2 0 = z at *
    have hz' := hgz
    by_cases hh : x = 0
    · simp [Am, A5, A9, q0, q1, q2, q1', q2', e1, e1', e2, e2', e3, e3', hh]
      simp [I5, hx, hy, hz, hx', hy', hz', hh]
    · simp [Am, A5, A9, q0, q1, q2, q1', q2', e1, e1', e2, e2', e3, e3', hh]
      simp [I5, hx, hy, hz, hx', hy', hz', hh]
  · simp [Aw] at c1 c0
    simp [B8, Aw]
    refine A4 c1 rfl ?_
    simp
    refine A4 c0 rfl ?_
    have h9 := h2 rfl
    have e1 := gE (f := tI) 0 (show 0 < l.l.length by omega)
    have e1' := gE' (f := tI) 0 (show 0 < l.l.length by omega)
    have e2 := gE (f := tI) 0 (show 1 < l.l.length by omega)
    have e2' := gE' (f := tI) 0 (show 1 < l.l.length by omega)
    have q0 : 0 < l.l.length := by omega
    have q1 : 1 < l.l.length := by omega
    have q1' : (1 : Int) < l.l.length := by omega
    have hgx : l.l[0]?.getD 0 = l.l.getD 0 0 := (List.getD_eq_getElem?_getD ..).symm
    generalize hx : l.l.getD 0 0 = x at *
    have hx' := hgx
    have hgy : l.l[1]?.getD 0 = l.l.getD 1 0 := (List.getD_eq_getElem?_getD ..).symm
    generalize hy : l.l.getD 1 0 = y at *
    have hy' := hgy
    by_cases hh : x = 0
    · simp [Am, A5, A9, q0, q1, q1', e1, e1', e2, e2', hh]
      simp [I5, hx, hy, hx', hy', hh]
    · simp [Am, A5, A9, q0, q1, q1', e1, e1', e2, e2', hh]
      simp [I5, hx, hy, hx', hy', hh]
  · simp [Aw] at c1 c0
    simp [B8, Aw]
    refine A4 c1 rfl ?_
    simp
    refine A4 c0 rfl ?_
    generalize hx : B5 l.l 1 = x at *
    generalize hy : B5 l.l 0 = y at *
    have w : IntKind.i64.wrap ((x : Int) + y) = (x : Int) + y := by rw [A6] <;> omega
    have hx2 : x = 0 ∨ 0 < x := by omega
    have hy2 : y = 0 ∨ 0 < y := by omega
    rcases hx2 with rfl | hx2
    · rcases hy2 with rfl | hy2
      · have w0 : IntKind.i64.wrap 0 = 0 := by decide
        simp [Am, w0]
        simp [I5, hx, hy]
      · have ha' : ¬ (y : Int) = 0 := by omega
        have hyn : ¬ y = 0 := by omega
        have w0 : IntKind.i64.wrap (y : Int) = y := by rw [A6] <;> omega
        simp [w0, ha', hyn]
        refine A4 (G2 _) rfl ?_
        simp [Am, I5, hx, hy, hyn]
    · have hxn : ¬ x = 0 := by omega
      rcases hy2 with rfl | hy2
      · have w0 : IntKind.i64.wrap (x : Int) = x := by rw [A6] <;> omega
        have ha' : ¬ (x : Int) = 0 := by omega
        simp [w0, ha', hx2, hxn]
        refine A4 (G2 _) rfl ?_
        simp [Am, I5, hx, hy, hx2, hxn]
      · have ha' : ¬ (x : Int) + y = 0 := by omega
        have ha : ¬ x + y = 0 := by omega
        simp [Am, w, ha', hx2, hy2, hxn]
        simp [I5, hx, hy, hx2, hy2, ha, hxn]
theorem q7x (k : Int) (hk : 0 ≤ k ∧ k ≤ 15) (n : Nat) : A8 Tryz.prog Γ 157 [tK k, tI n] (tB (Ia k n)) := by
  refine Ac q3Q rfl ?_
  have hkc : k = 0 ∨ k = 1 ∨ k = 2 ∨ k = 3 ∨ k = 4 ∨ k = 5 ∨ k = 6 ∨ k = 7 ∨ k = 8 ∨ k = 9 ∨ k = 10 ∨ k = 11 ∨ k = 12 ∨ k = 13 ∨ k = 14 ∨ k = 15 := by omega
  by_cases h0 : n = 0
  · subst h0
    rcases hkc with rfl | rfl | rfl | rfl | rfl | rfl | rfl | rfl | rfl | rfl | rfl | rfl | rfl | rfl | rfl | rfl <;> simp [Dw, Dx, Ia]
  by_cases h16 : n ≤ 16
  · have h16' : (n : Int) ≤ 16 := by omega
    by_cases h1 : n = 1
    · subst h1
      rcases hkc with rfl | rfl | rfl | rfl | rfl | rfl | rfl | rfl | rfl | rfl | rfl | rfl | rfl | rfl | rfl | rfl <;> simp [Dw, Dx, Ia]
    have h2 : 2 ≤ n := by omega
    have h2' : (2 : Int) ≤ n := by omega
    have h1' : (1 : Int) ≤ n := by omega
    have h1n : 1 ≤ n := by omega
    have g0 : ¬ (n : Int) = 0 := by omega
    have g1 : ¬ (n : Int) = 1 := by omega
    by_cases h3 : n = 3
    · subst h3
      rcases hkc with rfl | rfl | rfl | rfl | rfl | rfl | rfl | rfl | rfl | rfl | rfl | rfl | rfl | rfl | rfl | rfl <;> simp [Dw, Dx, Ia]
    have g3 : ¬ (n : Int) = 3 := by omega
    by_cases h4 : n = 2
    · subst h4
      rcases hkc with rfl | rfl | rfl | rfl | rfl | rfl | rfl | rfl | rfl | rfl | rfl | rfl | rfl | rfl | rfl | rfl <;> simp [Dw, Dx, Ia]
    have g2 : ¬ (n : Int) = 2 := by omega
    rcases hkc with rfl | rfl | rfl | rfl | rfl | rfl | rfl | rfl | rfl | rfl | rfl | rfl | rfl | rfl | rfl | rfl <;> simp [Dw, Dx, Ia, h0, h1, h2, h3, h4, h1', h1n, h2', h16, h16', g0, g1, g2, g3]
  · have h16' : ¬ (n : Int) ≤ 16 := by omega
    have h2' : (2 : Int) ≤ n := by omega
    have h1' : (1 : Int) ≤ n := by omega
    have g0 : ¬ (n : Int) = 0 := by omega
    have g1 : ¬ (n : Int) = 1 := by omega
    have g2 : ¬ (n : Int) = 2 := by omega
    have g3 : ¬ (n : Int) = 3 := by omega
    have f1 : ¬ n = 1 := by omega
    have f2 : ¬ n = 2 := by omega
    have f3 : ¬ n = 3 := by omega
    rcases hkc with rfl | rfl | rfl | rfl | rfl | rfl | rfl | rfl | rfl | rfl | rfl | rfl | rfl | rfl | rfl | rfl <;> simp [Dw, Dx, Ia, h0, h16, h16', h1', h2', g0, g1, g2, g3, f1, f2, f3]
theorem Z5 (k : Int) : A8 Tryz.prog Γ 124 [tK k] (tB (C3 k)) := by
  refine Ac q6L rfl ?_
  unfold C3
  by_cases h1 : 1 ≤ k
  · by_cases h2 : k ≤ 13 <;> simp [X1, X2, h1, h2]
  · simp [X1, X2, h1]
theorem q3b {v : Int} {b : Bool} : (H4 v b).length ≤ 3 := by unfold H4; split; simp; split; simp; split; simp; split <;> simp
theorem q16 {F : Int → List Int} {m : Nat} (hF : ∀ y, (F y).length ≤ m) : ∀ l : List Int, (l.flatMap F).length ≤ m * l.length
  | [] => by simp
  | x :: l => by
    have := q16 hF l
    have := hF x
    rw [List.flatMap_cons, List.length_append, List.length_cons, Nat.mul_add, Nat.mul_one]
    omega
theorem q6P {k : Int} {ins : List Int} : ∀ (n : Nat) (l : List Int), (Rr k ins n l).length ≤ 3 ^ n
  | 0, l => by simp [Rr]
  | n + 1, l => by
    simp only [Rr]
    have := q16 (F := fun y => Rr k ins n (l ++ [y])) (fun y => q6P n (l ++ [y])) (H4 (ins.getD l.length 0) (decide (k = 13)))
    have h3 := q3b (v := ins.getD l.length 0) (b := decide (k = 13))
    refine Nat.le_trans this ?_
    rw [Nat.pow_succ]
    exact Nat.mul_le_mul_left _ h3
theorem q9D {Q : AX → St → Prop} (k : Int) (ins l : Sl Int) (F : Int → List Int) (hF : ∀ y, (F y).length ≤ 1000) (hcall : ∀ y, A8 Tryz.prog Γ 180 [tK k, tV ins, Aw ⟨l.l ++ [y], none, none⟩] (.sl (Ah (F y)) none none)) (hl : l.l.length ≤ 1000) (cs : List Int) (hcs : cs.length ≤ 3) (cc : Option Nat) (cn : Option Bool)
    (h0 : Q (.exit 0) ⟨[(0, .t (tK k)), (1, .t (tV ins)), (2, .t (Aw l)), (7, .ls 45 0 (cs.flatMap F).length none), (8, .t (.sl (Ah cs) cc cn)), (9, .t (tI cs.length)), (30, .t (tB false))], [(45, .sl 3 1 (Ah (cs.flatMap F)))]⟩) :
    ∀ (f i : Nat), f + i = cs.length → run Tryz.prog Γ Jn Q ⟨[(0, .t (tK k)), (1, .t (tV ins)), (2, .t (Aw l)), (7, .ls 45 0 ((cs.take i).flatMap F).length none), (8, .t (.sl (Ah cs) cc cn)), (9, .t (tI i))], [(45, .sl 3 1 (Ah ((cs.take i).flatMap F)))]⟩
  | 0, i, h => by
    refine Qx fun K hK => ?_
    have h2 : i = cs.length := by omega
    subst h2
    rw [List.take_length]
    simp [tV, Aw, A5, -List.length_flatMap] at h0
    simp [tV, Aw, A5, -List.length_flatMap]
    simpa [-List.length_flatMap] using h0
  | f + 1, i, h => by
    refine Qx fun K hK => ?_
    have h2 : i < cs.length := by omega
    have ih := q9D k ins l F hF hcall hl cs hcs cc cn h0 f (i + 1) (by omega)
    rw [← List.take_append_getElem h2, List.flatMap_append, List.flatMap_cons, List.flatMap_nil, List.append_nil] at ih
    have hol := q16 hF (cs.take i)
    rw [List.length_take] at hol
    have e1 := gE (f := tI) 0 h2
    have e1' := gE' (f := tI) 0 h2
    rw [Be h2] at e1 e1'
    generalize cs[i] = x at *
    generalize (cs.take i).flatMap F = out at *
    have hx := hcall x
    have hxl := hF x
    generalize F x = fx at *
    have w1 : IntKind.i64.wrap ((i : Int) + 1) = (i : Int) + 1 := by rw [A6] <;> omega
    have vt : (Ah out).take out.length = Ah out := Cf
    have va : Ah out ++ Ah fx = Ah (out ++ fx) := by simp [Av]
    have lt : (Ah l.l).take l.l.length = Ah l.l := Cf
    have ls : Ah l.l ++ [[tI x]] = Ah (l.l ++ [x]) := E8
    have lt2 : (Ah (l.l ++ [x])).take (l.l.length + 1) = Ah (l.l ++ [x]) := List.take_of_length_le (by rw [A5]; simp)
    have hol3 : out.length ≤ 3000 := by omega
    simp [tV, Aw] at ih hx
    simp [tV, Aw, A5, A9, h2, e1, e1', lt, ls, w1, -q7d, -q3x]
    refine ⟨by omega, ?_⟩
    rw [q3x, q7d]
    generalize hKK : (fun (q : AV) (st1 : St) => asK _ _ _) = KK
    simp [lt, ls, A5]
    refine ⟨by omega, ?_⟩
    rw [← hKK]
    simp [-q7d, -q3x]
    refine A4 hx (by simp [Ai, lt2]) ?_
    simp [A5, A9, vt, va, w1]
    refine ⟨by omega, ?_⟩
    rw [hK]
    simpa using ih
theorem q3c (k : Int) (hk : 1 ≤ k ∧ k ≤ 4 ∨ k = 11 ∨ k = 12) (ins : Sl Int) (hi : Ia k ins.l.length = true) (hi3 : ins.l.length ≤ 3) : ∀ (n : Nat) (l : Sl Int), n + l.l.length = ins.l.length → A8 Tryz.prog Γ 180 [tK k, tV ins, Aw l] (.sl (Ah (Rr k ins.l n l.l)) none none)
  | 0, l, h => by
    have hl : l.l.length = ins.l.length := by omega
    have hf := q21 (Γ := Γ) k (by omega) l (by omega) (fun hh => by rcases hh with rfl | rfl <;> simp [Ia] at hi <;> omega) (fun hh => by subst hh; simp [Ia] at hi; omega) (fun hh => by subst hh; simp [Ia] at hi; omega)
    refine Ac Wi rfl ?_
    simp only [Rr]
    generalize I5 k l.l = r at *
    have hl' : (l.l.length : Int) = ins.l.length := by omega
    simp [Aw] at hf
    simp [Py, tV, Aw, A5, hl, hl']
    refine A4 hf rfl ?_
    have hf1 : Ah [r] = [[tI r]] := rfl
    have hfl : Nj (.sl 3 1 (Ah [r])) = True := qBG
    rw [hf1] at hfl
    simp [Pz, Av, Ai, hfl, Dz]
  | n + 1, l, h => by
    have hlt : l.l.length < ins.l.length := by omega
    have hne : ¬ (l.l.length : Int) = ins.l.length := by omega
    have hne' : ¬ l.l.length = ins.l.length := by omega
    have e1 := gE (f := tK) 0 hlt
    have e1' := gE' (f := tK) 0 hlt
    have hF : ∀ y, (Rr k ins.l n (l.l ++ [y])).length ≤ 1000 := fun y => by
      refine Nat.le_trans (q6P n _) ?_
      have : n ≤ 2 := by omega
      have : n = 0 ∨ n = 1 ∨ n = 2 := by omega
      rcases this with rfl | rfl | rfl <;> decide
    have hcall := fun y => q3c k hk ins hi hi3 n ⟨l.l ++ [y], none, none⟩ (by simp; omega)
    have hd : decide (k = 13) = false := by simp; omega
    refine Ac Wi rfl ?_
    simp only [Rr]
    generalize ins.l.getD l.l.length 0 = v at *
    have hc := q3a (Γ := Γ) v (decide (k = 13))
    have hcl := q3b (v := v) (b := decide (k = 13))
    generalize H4 v (decide (k = 13)) = cs at *
    have g := fun Q cc cn h0 => q9D (Γ := Γ) (Q := Q) k ins l (fun y => Rr k ins.l n (l.l ++ [y])) hF hcall (by omega) cs hcl cc cn h0 cs.length 0 (by omega)
    have ht : (Ah (cs.flatMap fun y => Rr k ins.l n (l.l ++ [y]))).take (cs.flatMap fun y => Rr k ins.l n (l.l ++ [y])).length = Ah (cs.flatMap fun y => Rr k ins.l n (l.l ++ [y])) := Cf
    simp only [List.take_zero, List.flatMap_nil, List.length_nil, Nl] at g
    clear hcall hF
    generalize (cs.flatMap fun y => Rr k ins.l n (l.l ++ [y])) = R at *
    rw [hd] at hc
    simp [tV, Aw] at g
    simp [Py, tV, Aw, A5, A9, hne, hne', hlt, e1, e1', hd]
    refine Ao hc rfl ?_
    simp
    refine g _ _ _ ?_
    simp [Pz, Ai, ht]
def tT3 (t : T3) : List T := [tI t.a, tI t.b, tI t.d]
theorem Iy {L : List T3} : Dz 3 (B1 tT3 L) := q0C fun _ => rfl
def Sm (B : Nat) (t : T3) : Prop := (0 ≤ t.a ∧ t.a ≤ B) ∧ (0 ≤ t.b ∧ t.b ≤ B) ∧ (0 ≤ t.d ∧ t.d ≤ B)
theorem qA9 {n : Int} (h0 : 0 ≤ n) (h1 : n ≤ 1000000) : (Lit.int .i64 n).wf = true := by
  have a : IntKind.i64.min = -9223372036854775808 := by decide
  have b : IntKind.i64.max = 9223372036854775807 := by decide
  simp only [Lit.wf, a, b, Bool.and_eq_true, decide_eq_true_eq]
  omega
theorem qEN {B : Nat} (hB : B ≤ 1000) {t : T3} (h : Sm B t) : Zp [some .i64, some .i64, some .i64] [.int .i64 t.a, .int .i64 t.b, .int .i64 t.d] := by
  obtain ⟨⟨a0, a1⟩, ⟨b0, b1⟩, ⟨d0, d1⟩⟩ := h
  exact ⟨⟨rfl, qA9 a0 (by omega)⟩, ⟨rfl, qA9 b0 (by omega)⟩, ⟨rfl, qA9 d0 (by omega)⟩, trivial⟩
theorem qH7 {t x : T3} : Zq [.int .i64 t.a, .int .i64 t.b, .int .i64 t.d] [.int .i64 x.a, .int .i64 x.b, .int .i64 x.d] = decide (t = x) := by
  obtain ⟨a, b, d⟩ := t
  obtain ⟨a', b', d'⟩ := x
  simp [Zq, qD8, T3.mk.injEq, Bool.and_assoc]
def cdE (k : Int) (ins : Sl Int) (S : List T3) (sc : Option Nat) (sn : Option Bool) (i : Nat) : List (Nat × AV) := [(0, .t (tK k)), (1, .t (tV ins)), (5, .t (.sl (B1 tT3 S) sc sn)), (6, .t (tI i))]
theorem qEO {Q : AX → St → Prop} (k : Int) (ins : Sl Int) (S : List T3) (sc : Option Nat) (sn : Option Bool) (i a b : Nat) (cs : List Int) (cc : Option Nat) (cn : Option Bool) (L : List T3) (hL : L.length ≤ 200000000) (B : Nat) (hB : B ≤ 1000) (hLs : ∀ t ∈ L, Sm B t) (x : T3) (hx : Sm B x)
    (h0 : Q (.exit 6) ⟨cdE k ins S sc sn i ++ [(7, .ls 78 0 L.length none), (8, .t (.sl (Ah cs) cc cn)), (9, .t (tI a)), (10, .t (tI b)), (11, .lp 11 0 0), (12, .t (tB (decide (x ∈ L)))), (13, .t (tI L.length)), (61, .t (tB false))], [(11, .bx [.t (tI x.a), .t (tI x.b), .t (tI x.d)]), (78, .sl 248 3 (B1 tT3 L))]⟩) :
    ∀ (f n : Nat), f + n = L.length → run Tryz.prog Γ Jo Q ⟨cdE k ins S sc sn i ++ [(7, .ls 78 0 L.length none), (8, .t (.sl (Ah cs) cc cn)), (9, .t (tI a)), (10, .t (tI b)), (11, .lp 11 0 0), (12, .t (tB (decide (x ∈ L.take n)))), (13, .t (tI n))], [(11, .bx [.t (tI x.a), .t (tI x.b), .t (tI x.d)]), (78, .sl 248 3 (B1 tT3 L))]⟩
  | 0, n, h => by
    refine Qy fun K hK => ?_
    have h2 : n = L.length := by omega
    subst h2
    rw [List.take_length]
    simp [cdE, tV, Ab] at h0
    simp [cdE, tV, Ab]
    simpa using h0
  | f + 1, n, h => by
    refine Qy fun K hK => ?_
    have h2 : n < L.length := by omega
    have ih := qEO k ins S sc sn i a b cs cc cn L hL B hB hLs x hx h0 f (n + 1) (by omega)
    have w1 : IntKind.i64.wrap ((n : Int) + 1) = (n : Int) + 1 := by rw [A6] <;> omega
    have hmem : x ∈ L.take (n + 1) ↔ x ∈ L.take n ∨ L[n] = x := by
      rw [← List.take_append_getElem h2, List.mem_append, List.mem_singleton]
      exact or_congr_right ⟨fun h => h.symm, fun h => h.symm⟩
    have hs1 := qEN hB (hLs _ (List.getElem_mem h2))
    have hs2 := qEN hB hx
    have he := qH7 (t := L[n]) (x := x)
    have e1 : (B1 tT3 L)[n]?.getD [] = tT3 L[n] := by simp [B1, h2]
    have e1' : ∀ h, (B1 tT3 L)[n]'h = tT3 L[n] := fun h => by simp [B1]
    generalize L[n] = t at *
    simp [cdE, tV] at ih
    by_cases hm : x ∈ L.take n
    · have hm2 := hmem.2 (.inl hm)
      simp [hm2] at ih
      simp [cdE, tV, Ab, Iy, h2, hm, w1]
      rw [hK]
      simpa using ih
    · have hm2 : decide (x ∈ L.take (n + 1)) = decide (t = x) := by
        rw [decide_eq_decide, hmem]
        exact ⟨fun h => h.resolve_left hm, .inr⟩
      rw [hm2] at ih
      simp [cdE, tV, Ab, Iy, h2, hm, e1, e1', tT3, q83, qDA, qD9, Ar, he, w1]
      refine ⟨⟨hs1, hs2⟩, ?_⟩
      rw [hK]
      simpa using ih
theorem q9E {L : List T3} {t : T3} : (q3U L t).length ≤ L.length + 1 := by unfold q3U; split <;> simp
theorem qDx {B : Nat} {L : List T3} {t : T3} (h : ∀ x ∈ L, Sm B x) (ht : Sm B t) : ∀ x ∈ q3U L t, Sm B x := fun x hx => by
  rcases q95.1 hx with hx | rfl
  · exact h x hx
  · exact ht
theorem q7y {B : Nat} {t : T3} {y : Int} (h : Sm B t) (hy : y = 0 ∨ y = 1 ∨ y = 2) : Sm (B + 1) (q3T t y) := by
  obtain ⟨⟨a0, a1⟩, ⟨b0, b1⟩, ⟨d0, d1⟩⟩ := h
  rcases hy with rfl | rfl | rfl
  · exact ⟨⟨by show 0 ≤ t.a + 1; omega, by show t.a + 1 ≤ _; omega⟩, ⟨b0, by show t.b ≤ _; omega⟩, ⟨d0, by show t.d ≤ _; omega⟩⟩
  · exact ⟨⟨a0, by show t.a ≤ _; omega⟩, ⟨by show 0 ≤ t.b + 1; omega, by show t.b + 1 ≤ _; omega⟩, ⟨d0, by show t.d ≤ _; omega⟩⟩
  · exact ⟨⟨a0, by show t.a ≤ _; omega⟩, ⟨b0, by show t.b ≤ _; omega⟩, ⟨by show 0 ≤ t.d + 1; omega, by show t.d + 1 ≤ _; omega⟩⟩
theorem Sm.mono {B C : Nat} (hBC : B ≤ C) {t : T3} (h : Sm B t) : Sm C t := by
  obtain ⟨⟨a0, a1⟩, ⟨b0, b1⟩, ⟨d0, d1⟩⟩ := h
  exact ⟨⟨a0, by omega⟩, ⟨b0, by omega⟩, ⟨d0, by omega⟩⟩
theorem qCv {B : Nat} {t : T3} (ht : Sm B t) : ∀ {cs : List Int} {L : List T3}, (∀ y ∈ cs, y = 0 ∨ y = 1 ∨ y = 2) → (∀ x ∈ L, Sm (B + 1) x) → ∀ x ∈ Sj t cs L, Sm (B + 1) x := fun {cs L} hc hL x hx => by
  rcases q4H.1 hx with h | ⟨v, hv, rfl⟩
  · exact hL x h
  · exact q7y ht (hc v hv)
theorem q4M {t : T3} : ∀ {cs : List Int} {L : List T3}, (Sj t cs L).length ≤ L.length + cs.length
  | [], L => Nat.le_refl _
  | v :: l, L => by
    simp only [Sj]
    have := q4M (t := t) (cs := l) (L := q3U L (q3T t v))
    have := q9E (L := L) (t := q3T t v)
    rw [List.length_cons]
    omega
theorem q4N {cs : List Int} : ∀ {S L : List T3}, (Sr cs S L).length ≤ L.length + S.length * cs.length
  | [], L => by simp [Sr]
  | t :: S, L => by
    simp only [Sr]
    have := q4N (cs := cs) (S := S) (L := Sj t cs L)
    have := q4M (t := t) (cs := cs) (L := L)
    rw [List.length_cons, Nat.add_mul, Nat.one_mul]
    omega
set_option maxHeartbeats 1000000 in
theorem qEP {Q : AX → St → Prop} (k : Int) (ins : Sl Int) (S : List T3) (sc : Option Nat) (sn : Option Bool) (i a : Nat) (ha : a < S.length) (hS : S.length ≤ 100000000) (t : T3) (ht : S.getD a ⟨0, 0, 0⟩ = t) (B : Nat) (hB : B + 1 ≤ 1000) (hSm : Sm B t) (cs : List Int) (hcs : cs.length ≤ 3) (h012 : ∀ y ∈ cs, y = 0 ∨ y = 1 ∨ y = 2) (cc : Option Nat) (cn : Option Bool) (R : List T3)
    (h0 : Q (.exit 4) ⟨cdE k ins S sc sn i ++ [(7, .ls 78 0 R.length none), (8, .t (.sl (Ah cs) cc cn)), (9, .t (tI a)), (10, .t (tI cs.length)), (43, .t (tB false))], [(78, .sl 248 3 (B1 tT3 R))]⟩) :
    ∀ (f b : Nat) (L : List T3), f + b = cs.length → L.length + f ≤ 200000000 → (∀ x ∈ L, Sm (B + 1) x) → Sj t (cs.drop b) L = R →
    run Tryz.prog Γ Jp Q ⟨cdE k ins S sc sn i ++ [(7, .ls 78 0 L.length none), (8, .t (.sl (Ah cs) cc cn)), (9, .t (tI a)), (10, .t (tI b))], [(78, .sl 248 3 (B1 tT3 L))]⟩
  | 0, b, L, h, hl, hs, hR => by
    refine Qz fun K hK => ?_
    have h2 : b = cs.length := by omega
    subst h2
    rw [List.drop_of_length_le (Nat.le_refl _)] at hR
    have hR : L = R := hR
    subst hR
    simp [cdE, tV, A5] at h0
    simp [cdE, tV, A5]
    simpa using h0
  | f + 1, b, L, h, hl, hs, hR => by
    refine Qz fun K hK => ?_
    have h2 : b < cs.length := by omega
    rw [List.drop_eq_getElem_cons h2] at hR
    simp only [Sj] at hR
    have hy := h012 _ (List.getElem_mem h2)
    have hxs := q7y hSm hy
    have hpl := q9E (L := L) (t := q3T t cs[b])
    have ih := qEP k ins S sc sn i a ha hS t ht B hB hSm cs hcs h012 cc cn R h0 f (b + 1) (q3U L (q3T t cs[b])) (by omega) (by omega) (qDx hs hxs) hR
    have e1 := gE (f := tI) 0 h2
    have e1' := gE' (f := tI) 0 h2
    rw [Be h2] at e1 e1'
    generalize cs[b] = y at *
    have hLb : L.length ≤ 200000000 := by omega
    have hLz : L.length + 0 = L.length := rfl
    have g := fun Q h0 => qEO (Γ := Γ) (Q := Q) k ins S sc sn i a b cs cc cn L hLb (B + 1) hB hs (q3T t y) hxs h0 L.length 0 hLz
    have e2 : (B1 tT3 S)[a]?.getD [] = tT3 t := by rw [← ht]; simp [B1, ha, List.getD_eq_getElem?_getD]
    have e2' : ∀ h, (B1 tT3 S)[a]'h = tT3 t := fun h => by rw [← ht]; simp [B1, ha, List.getD_eq_getElem?_getD]
    have w1 : IntKind.i64.wrap ((b : Int) + 1) = (b : Int) + 1 := by rw [A6] <;> omega
    have vt : (B1 tT3 L).take L.length = B1 tT3 L := q6Z
    have vs : ∀ x, B1 tT3 L ++ [tT3 x] = B1 tT3 (L ++ [x]) := fun x => Xd
    obtain ⟨⟨a0, a1⟩, ⟨b0, b1⟩, ⟨d0, d1⟩⟩ := hSm
    have wa : IntKind.i64.wrap (t.a + 1) = t.a + 1 := by rw [A6] <;> omega
    have wb : IntKind.i64.wrap (t.b + 1) = t.b + 1 := by rw [A6] <;> omega
    have wd : IntKind.i64.wrap (t.d + 1) = t.d + 1 := by rw [A6] <;> omega
    rcases hy with rfl | rfl | rfl
    · have hx : q3T t 0 = ⟨t.a + 1, t.b, t.d⟩ := rfl
      rw [hx] at ih g
      have vx := vs ⟨t.a + 1, t.b, t.d⟩
      simp only [tT3] at vx e2 e2'
      simp [cdE, tV] at g ih
      simp [cdE, tV, A5, A9, Ab, Iy, h2, ha, e1, e1', e2, e2', wa, wb, wd]
      refine g _ ?_
      by_cases hm : (⟨t.a + 1, t.b, t.d⟩ : T3) ∈ L
      · simp [q3U, hm] at ih
        simp [hm, w1]
        rw [hK]
        simpa using ih
      · simp [q3U, hm] at ih
        simp [hm, Ab, Iy, vt, vx, w1]
        refine ⟨by omega, ?_⟩
        rw [hK]
        simpa using ih
    · have hx : q3T t 1 = ⟨t.a, t.b + 1, t.d⟩ := rfl
      rw [hx] at ih g
      have vx := vs ⟨t.a, t.b + 1, t.d⟩
      simp only [tT3] at vx e2 e2'
      simp [cdE, tV] at g ih
      simp [cdE, tV, A5, A9, Ab, Iy, h2, ha, e1, e1', e2, e2', wa, wb, wd]
      refine g _ ?_
      by_cases hm : (⟨t.a, t.b + 1, t.d⟩ : T3) ∈ L
      · simp [q3U, hm] at ih
        simp [hm, w1]
        rw [hK]
        simpa using ih
      · simp [q3U, hm] at ih
        simp [hm, Ab, Iy, vt, vx, w1]
        refine ⟨by omega, ?_⟩
        rw [hK]
        simpa using ih
    · have hx : q3T t 2 = ⟨t.a, t.b, t.d + 1⟩ := rfl
      rw [hx] at ih g
      have vx := vs ⟨t.a, t.b, t.d + 1⟩
      simp only [tT3] at vx e2 e2'
      simp [cdE, tV] at g ih
      simp [cdE, tV, A5, A9, Ab, Iy, h2, ha, e1, e1', e2, e2', wa, wb, wd]
      refine g _ ?_
      by_cases hm : (⟨t.a, t.b, t.d + 1⟩ : T3) ∈ L
      · simp [q3U, hm] at ih
        simp [hm, w1]
        rw [hK]
        simpa using ih
      · simp [q3U, hm] at ih
        simp [hm, Ab, Iy, vt, vx, w1]
        refine ⟨by omega, ?_⟩
        rw [hK]
        simpa using ih
theorem qEQ {Q : AX → St → Prop} (k : Int) (ins : Sl Int) (S : List T3) (sc : Option Nat) (sn : Option Bool) (i : Nat) (hS : S.length ≤ 50000000) (B : Nat) (hB : B + 1 ≤ 1000) (hSm : ∀ t ∈ S, Sm B t) (cs : List Int) (hcs : cs.length ≤ 3) (h012 : ∀ y ∈ cs, y = 0 ∨ y = 1 ∨ y = 2) (cc : Option Nat) (cn : Option Bool) (R : List T3)
    (h0 : Q (.exit 2) ⟨cdE k ins S sc sn i ++ [(7, .ls 78 0 R.length none), (8, .t (.sl (Ah cs) cc cn)), (9, .t (tI S.length)), (37, .t (tB false))], [(78, .sl 248 3 (B1 tT3 R))]⟩) :
    ∀ (f a : Nat) (L : List T3), f + a = S.length → L.length + 3 * f ≤ 200000000 → (∀ x ∈ L, Sm (B + 1) x) → Sr cs (S.drop a) L = R →
    run Tryz.prog Γ Jq Q ⟨cdE k ins S sc sn i ++ [(7, .ls 78 0 L.length none), (8, .t (.sl (Ah cs) cc cn)), (9, .t (tI a))], [(78, .sl 248 3 (B1 tT3 L))]⟩
  | 0, a, L, h, hl, hs, hR => by
    refine R2 fun K hK => ?_
    have h2 : a = S.length := by omega
    subst h2
    rw [List.drop_of_length_le (Nat.le_refl _)] at hR
    have hR : L = R := hR
    subst hR
    simp [cdE, tV, Ab] at h0
    simp [cdE, tV, Ab]
    simpa using h0
  | f + 1, a, L, h, hl, hs, hR => by
    refine R2 fun K hK => ?_
    have h2 : a < S.length := by omega
    rw [List.drop_eq_getElem_cons h2] at hR
    simp only [Sr] at hR
    have hSa := hSm _ (List.getElem_mem h2)
    have hsl := q4M (t := S[a]) (cs := cs) (L := L)
    have ih := qEQ k ins S sc sn i hS B hB hSm cs hcs h012 cc cn R h0 f (a + 1) (Sj S[a] cs L) (by omega) (by omega) (qCv hSa h012 hs) hR
    have hSb : S.length ≤ 100000000 := by omega
    have hSg : S.getD a ⟨0, 0, 0⟩ = S[a] := by simp [List.getD_eq_getElem?_getD, h2]
    have hcz : cs.length + 0 = cs.length := rfl
    have hlb : L.length + cs.length ≤ 200000000 := by omega
    have hsd : Sj S[a] (cs.drop 0) L = Sj S[a] cs L := by rw [List.drop_zero]
    generalize S[a] = t at *
    have g := fun Q h0 => qEP (Γ := Γ) (Q := Q) k ins S sc sn i a h2 hSb t hSg B hB hSa cs hcs h012 cc cn (Sj t cs L) h0 cs.length 0 L hcz hlb hs hsd
    have w1 : IntKind.i64.wrap ((a : Int) + 1) = (a : Int) + 1 := by rw [A6] <;> omega
    generalize Sj t cs L = L2 at *
    simp [cdE, tV] at g ih
    simp [cdE, tV, Ab, h2]
    refine g _ ?_
    simp [w1]
    rw [hK]
    simpa using ih
theorem q9F {B : Nat} {cs : List Int} {S L : List T3} (hS : ∀ t ∈ S, Sm B t) (hc : ∀ y ∈ cs, y = 0 ∨ y = 1 ∨ y = 2) (hL : ∀ x ∈ L, Sm (B + 1) x) : ∀ x ∈ Sr cs S L, Sm (B + 1) x := fun x hx => by
  rcases q1K.1 hx with h | ⟨t, ht, v, hv, rfl⟩
  · exact hL x h
  · exact q7y (hS t ht) (hc v hv)
theorem qER {Q : AX → St → Prop} (k : Int) (ins : Sl Int) (hi : ins.l.length ≤ 16) (R : List T3)
    (h0 : ∀ sc sn, Q (.exit 0) ⟨cdE k ins R sc sn ins.l.length ++ [(24, .t (tB false))], []⟩) :
    ∀ (f i : Nat) (S : List T3) (sc : Option Nat) (sn : Option Bool), f + i = ins.l.length → S.length ≤ 3 ^ i → (∀ t ∈ S, Sm i t) → V8 (decide (k = 13)) (ins.l.drop i) S = R →
    run Tryz.prog Γ Jr Q ⟨cdE k ins S sc sn i, []⟩
  | 0, i, S, sc, sn, h, hl, hs, hR => by
    refine R7 fun K hK => ?_
    have h2 : i = ins.l.length := by omega
    subst h2
    rw [List.drop_of_length_le (Nat.le_refl _)] at hR
    have hR : S = R := hR
    subst hR
    have h0 := h0 sc sn
    simp [cdE, tV, A5] at h0
    simp [cdE, tV, A5]
    simpa using h0
  | f + 1, i, S, sc, sn, h, hl, hs, hR => by
    refine R7 fun K hK => ?_
    have h2 : i < ins.l.length := by omega
    rw [List.drop_eq_getElem_cons h2] at hR
    simp only [V8] at hR
    have h3 : 3 ^ i ≤ 3 ^ 15 := Nat.pow_le_pow_right (by omega) (by omega)
    have h15 : 3 ^ 15 = 14348907 := by decide
    have hcl := q3b (v := ins.l[i]) (b := decide (k = 13))
    have h012 : ∀ y ∈ H4 ins.l[i] (decide (k = 13)), y = 0 ∨ y = 1 ∨ y = 2 := fun y hy => q7t hy
    have hc := q3a (Γ := Γ) ins.l[i] (decide (k = 13))
    have e1 := gE (f := tK) 0 h2
    have e1' := gE' (f := tK) 0 h2
    rw [Be h2] at e1 e1'
    generalize H4 ins.l[i] (decide (k = 13)) = cs at *
    generalize ins.l[i] = v at *
    have hsl := q4N (cs := cs) (S := S) (L := [])
    have hmul : S.length * cs.length ≤ 3 ^ i * 3 := Nat.mul_le_mul hl hcl
    have hss := q9F (L := []) hs h012 (fun x hx => by cases hx)
    have ih := fun sc sn => qER k ins hi R h0 f (i + 1) (Sr cs S []) sc sn (by omega) (by rw [Nat.pow_succ]; simp only [List.length_nil] at hsl; omega) hss hR
    have g := fun Q cc cn h0 => qEQ (Γ := Γ) (Q := Q) k ins S sc sn i (by omega) i (by omega) hs cs hcl h012 cc cn (Sr cs S []) h0 S.length 0 [] (by omega) (by simp only [List.length_nil]; omega) (fun x hx => by cases hx) (by rw [List.drop_zero])
    have hz : B1 tT3 ([] : List T3) = [] := rfl
    have w1 : IntKind.i64.wrap ((i : Int) + 1) = (i : Int) + 1 := by rw [A6] <;> omega
    generalize Sr cs S [] = L2 at *
    simp only [List.length_nil, hz] at g
    simp [cdE, tV] at g ih
    by_cases h13 : k = 13
    · subst h13
      simp at hc
      simp [cdE, tV, A5, A9, h2, e1, e1']
      refine Ao hc rfl ?_
      simp
      refine g _ _ _ ?_
      simp [St.freeze, Bj.closed, Ej, frz1, frz0, Ni, del, Ai, w1]
      rw [hK]
      simpa using ih _ _
    · simp [h13] at hc
      simp [cdE, tV, A5, A9, h2, e1, e1', h13]
      refine Ao hc rfl ?_
      simp
      refine g _ _ _ ?_
      simp [St.freeze, Bj.closed, Ej, frz1, frz0, Ni, del, Ai, w1]
      rw [hK]
      simpa using ih _ _
def ceE (k : Int) (S : List T3) (sc : Option Nat) (sn : Option Bool) (out : List Int) (s : Nat) : List (Nat × AV) := [(0, .t (tK k)), (5, .t (.sl (B1 tT3 S) sc sn)), (14, .ls 109 0 out.length none), (15, .t (tI s))]
theorem qAu {Q : AX → St → Prop} (k : Int) (S : List T3) (sc : Option Nat) (sn : Option Bool) (out : List Int) (s : Nat) (hs : s < S.length) (hS : S.length ≤ 100000000) (t : T3) (ht : S.getD s ⟨0, 0, 0⟩ = t) (v c : Int) (hv : (v = 0 ∧ c = t.a) ∨ (v = 1 ∧ c = t.b) ∨ (v = 2 ∧ c = t.d)) (hc : 0 ≤ c ∧ c ≤ 1000) (l0 : List Int) (hl0 : l0.length ≤ 10000)
    (h0 : Q (.exit 12) ⟨ceE k S sc sn out s ++ [(16, .ls 103 0 (l0 ++ List.replicate c.toNat v).length none), (17, .t (tI v)), (18, .t (tI c.toNat)), (97, .t (tB false))], [(103, .sl 3 1 (Ah (l0 ++ List.replicate c.toNat v))), (109, .sl 3 1 (Ah out))]⟩) :
    ∀ (f n : Nat), f + n = c.toNat → run Tryz.prog Γ Js Q ⟨ceE k S sc sn out s ++ [(16, .ls 103 0 (l0 ++ List.replicate n v).length none), (17, .t (tI v)), (18, .t (tI n))], [(103, .sl 3 1 (Ah (l0 ++ List.replicate n v))), (109, .sl 3 1 (Ah out))]⟩
  | 0, n, h => by
    refine R9 fun K hK => ?_
    have h2 : n = c.toNat := by omega
    subst h2
    have e2 : (B1 tT3 S)[s]?.getD [] = tT3 t := by rw [← ht]; simp [B1, hs, List.getD_eq_getElem?_getD]
    have e2' : ∀ h, (B1 tT3 S)[s]'h = tT3 t := fun h => by rw [← ht]; simp [B1, hs, List.getD_eq_getElem?_getD]
    simp only [tT3] at e2 e2'
    have hcc : ((c.toNat : Nat) : Int) = c := by omega
    have hcm : max c 0 = c := by omega
    simp [ceE] at h0
    rcases hv with ⟨rfl, rfl⟩ | ⟨rfl, rfl⟩ | ⟨rfl, rfl⟩
    · simp [ceE, Ab, Iy, hs, e2, e2', hcm]
      simpa [hcm] using h0
    · simp [ceE, Ab, Iy, hs, e2, e2', hcm]
      simpa [hcm] using h0
    · simp [ceE, Ab, Iy, hs, e2, e2', hcm]
      simpa [hcm] using h0
  | f + 1, n, h => by
    refine R9 fun K hK => ?_
    have h2 : (n : Int) < c := by omega
    have ih := qAu k S sc sn out s hs hS t ht v c hv hc l0 hl0 h0 f (n + 1) (by omega)
    rw [List.replicate_succ', ← List.append_assoc] at ih
    have e2 : (B1 tT3 S)[s]?.getD [] = tT3 t := by rw [← ht]; simp [B1, hs, List.getD_eq_getElem?_getD]
    have e2' : ∀ h, (B1 tT3 S)[s]'h = tT3 t := fun h => by rw [← ht]; simp [B1, hs, List.getD_eq_getElem?_getD]
    simp only [tT3] at e2 e2'
    have hll : (l0 ++ List.replicate n v).length ≤ 20000 := by simp; omega
    generalize l0 ++ List.replicate n v = l at *
    have w1 : IntKind.i64.wrap ((n : Int) + 1) = (n : Int) + 1 := by rw [A6] <;> omega
    have vt : (Ah l).take l.length = Ah l := Cf
    have vs : Ah l ++ [[tI v]] = Ah (l ++ [v]) := E8
    simp [ceE] at ih
    rcases hv with ⟨rfl, rfl⟩ | ⟨rfl, rfl⟩ | ⟨rfl, rfl⟩
    · simp [ceE, Ab, Iy, hs, e2, e2', h2, A5, A9, vt, vs, w1]
      refine ⟨by omega, ?_⟩
      rw [hK]
      simpa using ih
    · simp [ceE, Ab, Iy, hs, e2, e2', h2, A5, A9, vt, vs, w1]
      refine ⟨by omega, ?_⟩
      rw [hK]
      simpa using ih
    · simp [ceE, Ab, Iy, hs, e2, e2', h2, A5, A9, vt, vs, w1]
      refine ⟨by omega, ?_⟩
      rw [hK]
      simpa using ih
theorem qFc {Q : AX → St → Prop} (k : Int) (S : List T3) (sc : Option Nat) (sn : Option Bool) (out : List Int) (s : Nat) (hs : s < S.length) (hS : S.length ≤ 100000000) (t : T3) (ht : S.getD s ⟨0, 0, 0⟩ = t) (hSm : Sm 1000 t)
    (h0 : Q (.exit 10) ⟨ceE k S sc sn out s ++ [(16, .ls 103 0 (To t).length none), (17, .t (tI 3)), (87, .t (tB false))], [(103, .sl 3 1 (Ah (To t))), (109, .sl 3 1 (Ah out))]⟩) :
    run Tryz.prog Γ Iu Q ⟨ceE k S sc sn out s ++ [(16, .ls 103 0 0 none), (17, .t (tI 0))], [(103, .sl 3 1 []), (109, .sl 3 1 (Ah out))]⟩ := by
  obtain ⟨ha, hb, hd⟩ := hSm
  have g0 := fun Q h0 => qAu (Γ := Γ) (Q := Q) k S sc sn out s hs hS t ht 0 t.a (.inl ⟨rfl, rfl⟩) (by omega) [] (by simp) h0 t.a.toNat 0 (by omega)
  have g1 := fun Q h0 => qAu (Γ := Γ) (Q := Q) k S sc sn out s hs hS t ht 1 t.b (.inr (.inl ⟨rfl, rfl⟩)) (by omega) (List.replicate t.a.toNat 0) (by simp; omega) h0 t.b.toNat 0 (by omega)
  have g2 := fun Q h0 => qAu (Γ := Γ) (Q := Q) k S sc sn out s hs hS t ht 2 t.d (.inr (.inr ⟨rfl, rfl⟩)) (by omega) (List.replicate t.a.toNat 0 ++ List.replicate t.b.toNat 1) (by simp; omega) h0 t.d.toNat 0 (by omega)
  simp only [List.append_assoc] at g2
  rw [show List.replicate t.a.toNat (0 : Int) ++ (List.replicate t.b.toNat 1 ++ List.replicate t.d.toNat 2) = To t from rfl] at g2
  simp only [List.replicate_zero, List.nil_append, List.append_nil, List.length_nil, Nl] at g0 g1 g2
  generalize To t = A3 at *
  generalize List.replicate t.a.toNat (0 : Int) ++ List.replicate t.b.toNat 1 = A2 at *
  generalize List.replicate t.a.toNat (0 : Int) = A1 at *
  simp [ceE] at g0 g1 g2 h0
  have wl1 : IntKind.i64.wrap 1 = 1 := by decide
  have wl2 : IntKind.i64.wrap 2 = 2 := by decide
  have wl3 : IntKind.i64.wrap 3 = 3 := by decide
  simp only [ceE, List.cons_append, List.nil_append]
  refine Fg fun K hK => ?_
  simp [wl1, wl2, wl3]
  refine g0 _ ?_
  simp [wl1, wl2, wl3]
  rw [hK]
  refine Fg fun K hK => ?_
  simp [wl1, wl2, wl3]
  refine g1 _ ?_
  simp [wl1, wl2, wl3]
  rw [hK]
  refine Fg fun K hK => ?_
  simp [wl1, wl2, wl3]
  refine g2 _ ?_
  simp [wl1, wl2, wl3]
  rw [hK]
  refine Fg fun K hK => ?_
  simp [wl1, wl2, wl3]
  simpa using h0
theorem qCw {B : Nat} {t : T3} (h : Sm B t) : (To t).length ≤ 3 * B := by
  obtain ⟨ha, hb, hd⟩ := h
  simp [To]
  omega
theorem qCx {Q : AX → St → Prop} (k : Int) (hk : 5 ≤ k ∧ k ≤ 10 ∨ k = 13) (S : List T3) (sc : Option Nat) (sn : Option Bool) (hS : S.length ≤ 100000000) (hSm : ∀ t ∈ S, Sm 1000 t)
    (h0 : Q (.exit 8) ⟨ceE k S sc sn (S.map fun t => I5 k (To t)) S.length ++ [(83, .t (tB false))], [(109, .sl 3 1 (Ah (S.map fun t => I5 k (To t))))]⟩) :
    ∀ (f s : Nat), f + s = S.length → run Tryz.prog Γ Iw Q ⟨ceE k S sc sn ((S.take s).map fun t => I5 k (To t)) s, [(109, .sl 3 1 (Ah ((S.take s).map fun t => I5 k (To t))))]⟩
  | 0, s, h => by
    refine P3 fun K hK => ?_
    have h2 : s = S.length := by omega
    subst h2
    rw [List.take_length]
    simp [ceE, Ab] at h0
    simp [ceE, Ab]
    simpa using h0
  | f + 1, s, h => by
    refine P3 fun K hK => ?_
    have h2 : s < S.length := by omega
    have ih := qCx k hk S sc sn hS hSm h0 f (s + 1) (by omega)
    rw [← List.take_append_getElem h2, List.map_append, List.map_cons, List.map_nil] at ih
    have hol : ((S.take s).map fun t => I5 k (To t)).length = s := by simp; omega
    generalize ((S.take s).map fun t => I5 k (To t)) = out at *
    have hSs := hSm _ (List.getElem_mem h2)
    have hll := qCw hSs
    have hSg : S.getD s ⟨0, 0, 0⟩ = S[s] := by simp [List.getD_eq_getElem?_getD, h2]
    generalize S[s] = t at *
    have g := fun Q h0 => qFc (Γ := Γ) (Q := Q) k S sc sn out s h2 hS t hSg hSs h0
    have hf := q21 (Γ := Γ) k (by omega) ⟨To t, none, none⟩ (by show (To t).length ≤ _; omega) (fun h => by omega) (fun h => by omega) (fun h => by omega)
    simp only at hf
    generalize I5 k (To t) = r at *
    generalize To t = l at *
    have w1 : IntKind.i64.wrap ((s : Int) + 1) = (s : Int) + 1 := by rw [A6] <;> omega
    have lt : (Ah l).take l.length = Ah l := Cf
    have vt : (Ah out).take s = Ah out := by rw [← hol]; exact Cf
    have vs : Ah out ++ [[tI r]] = Ah (out ++ [r]) := E8
    simp [Aw] at hf
    simp [ceE] at g ih
    simp [ceE, Ab, h2, hol]
    rw [hol] at g
    refine g _ ?_
    simp
    refine A4 hf (by simp [Ai, lt]) ?_
    simp [A5, A9, vt, vs, hol, w1]
    refine ⟨by omega, ?_⟩
    rw [hK]
    simpa [hol] using ih
theorem q9G {b : Bool} : ∀ {l : List Int} {S : List T3} {B : Nat}, (∀ t ∈ S, Sm B t) → ∀ t ∈ V8 b l S, Sm (B + l.length) t
  | [], S, B, h => by simpa only [V8, List.length_nil, Nat.add_zero] using h
  | v :: l, S, B, h => by
    simp only [V8]
    have := q9G (b := b) (l := l) (S := Sr (H4 v b) S []) (B := B + 1) (q9F h (fun y hy => q7t hy) (fun x hx => by cases hx))
    intro t ht
    have := this t ht
    rwa [List.length_cons, Nat.add_comm l.length, ← Nat.add_assoc]
theorem q4O {b : Bool} : ∀ {l : List Int} {S : List T3}, (V8 b l S).length ≤ S.length * 3 ^ l.length
  | [], S => by simp [V8]
  | v :: l, S => by
    simp only [V8]
    have h1 := q4O (b := b) (l := l) (S := Sr (H4 v b) S [])
    have h2 := q4N (cs := H4 v b) (S := S) (L := [])
    have h3 := q3b (v := v) (b := b)
    have h4 : S.length * (H4 v b).length ≤ S.length * 3 := Nat.mul_le_mul_left _ h3
    simp only [List.length_nil, Nat.zero_add] at h2
    refine Nat.le_trans h1 ?_
    rw [List.length_cons, Nat.pow_succ, Nat.mul_comm (3 ^ l.length) 3, ← Nat.mul_assoc]
    exact Nat.mul_le_mul_right _ (Nat.le_trans h2 h4)
theorem q7z (k : Int) (hk : 5 ≤ k ∧ k ≤ 10 ∨ k = 13) (ins : Sl Int) (hi : ins.l.length ≤ 16) : Au Tryz.prog Γ 179 [tK k, tV ins] (.sl (Ah (Jh k ins.l)) none none) := by
  refine D7 q3R rfl ?_
  have hz : Sm 0 ⟨0, 0, 0⟩ := ⟨⟨Int.le_refl _, Int.le_refl _⟩, ⟨Int.le_refl _, Int.le_refl _⟩, ⟨Int.le_refl _, Int.le_refl _⟩⟩
  have hz' : ∀ t ∈ [(⟨0, 0, 0⟩ : T3)], Sm 0 t := fun t ht => by simp at ht; subst ht; exact hz
  have hsm := q9G (b := decide (k = 13)) (l := ins.l) hz'
  have hsl := q4O (b := decide (k = 13)) (l := ins.l) (S := [⟨0, 0, 0⟩])
  have h3 : 3 ^ ins.l.length ≤ 3 ^ 16 := Nat.pow_le_pow_right (by omega) hi
  have h16 : 3 ^ 16 = 43046721 := by decide
  simp only [List.length_cons, List.length_nil, Nat.zero_add, Nat.one_mul] at hsl
  have g7 := fun Q sc sn h0 => qER (Γ := Γ) (Q := Q) k ins hi (V8 (decide (k = 13)) ins.l [⟨0, 0, 0⟩]) h0 ins.l.length 0 [⟨0, 0, 0⟩] sc sn (by omega) (by simp) hz' (by rw [List.drop_zero])
  unfold Jh
  generalize V8 (decide (k = 13)) ins.l [⟨0, 0, 0⟩] = S at *
  have g13 := fun Q sc sn h0 => qCx (Γ := Γ) (Q := Q) k hk S sc sn (by omega) (fun t ht => (hsm t ht).mono (by omega)) h0 S.length 0 (by omega)
  simp only [List.take_zero, List.map_nil, Nl] at g13
  have hRl : (S.map fun t => I5 k (To t)).length = S.length := by simp
  have ht : (Ah (S.map fun t => I5 k (To t))).take S.length = Ah (S.map fun t => I5 k (To t)) := List.take_of_length_le (by rw [A5, hRl]; exact Nat.le_refl _)
  generalize (S.map fun t => I5 k (To t)) = R at *
  simp [cdE, ceE, tV, B1, tT3] at g7
  simp [ceE] at g13
  simp [Y3, tV]
  refine g7 _ _ _ (fun sc sn => ?_)
  simp
  refine g13 _ _ _ ?_
  simp [Y4, Ai, hRl, ht]
theorem qES {Q : AX → St → Prop} (L : List Int) (lc : Option Nat) (ln : Option Bool) (hL : L.length ≤ 100000000) (hne : 0 < L.length)
    (h0 : (∀ x ∈ L, x = L.getD 0 0) → Q (.exit 0) ⟨[(5, .t (.sl (Ah L) lc ln)), (6, .t (tI L.length)), (27, .t (tB false))], []⟩) (h1 : (¬ ∀ x ∈ L, x = L.getD 0 0) → Q .ret ⟨[(4, .t (tK 2))], []⟩) :
    ∀ (f i : Nat), f + i = L.length → (∀ j, j < i → L.getD j 0 = L.getD 0 0) → run Tryz.prog Γ Jc Q ⟨[(5, .t (.sl (Ah L) lc ln)), (6, .t (tI i))], []⟩
  | 0, i, h, hj => by
    refine V6 fun K hK => ?_
    have h2 : i = L.length := by omega
    subst h2
    have := h0 fun x hx => by
      obtain ⟨j, hjl, rfl⟩ := List.getElem_of_mem hx
      rw [← Be hjl]
      exact hj j hjl
    simp [A5]
    simpa using this
  | f + 1, i, h, hj => by
    refine V6 fun K hK => ?_
    have h2 : i < L.length := by omega
    have e1 := gE (f := tI) 0 h2
    have e1' := gE' (f := tI) 0 h2
    have e0 := gE (f := tI) 0 hne
    have e0' := gE' (f := tI) 0 hne
    have w1 : IntKind.i64.wrap ((i : Int) + 1) = (i : Int) + 1 := by rw [A6] <;> omega
    by_cases hx : L.getD i 0 = L.getD 0 0
    · have ih := qES L lc ln hL hne h0 h1 f (i + 1) (by omega) (fun j hj' => by
        rcases Nat.lt_succ_iff_lt_or_eq.1 hj' with h | rfl
        · exact hj j h
        · exact hx)
      rw [hx] at e1 e1'
      generalize L.getD 0 0 = x0 at *
      simp at ih
      simp [A5, A9, h2, hne, e1, e1', e0, e0', w1]
      rw [hK]
      simpa using ih
    · have h9 := h1 fun hall => hx (hall _ (by rw [Be h2]; exact List.getElem_mem h2))
      clear h1 h0
      generalize L.getD i 0 = x at *
      generalize L.getD 0 0 = x0 at *
      simp [A5, A9, h2, hne, e1, e1', e0, e0', hx, w1]
      simpa using h9
theorem q6Q {b : Bool} : 0 ≤ I9 b ∧ I9 b ≤ 3 := by cases b <;> simp [I9]
theorem qFd {k : Int} {z o : Nat} : 0 ≤ X3 k z o ∧ X3 k z o ≤ 3 := by
  unfold X3
  split
  · exact q6Q
  split
  · exact q6Q
  split
  · exact q6Q
  split
  · omega
  split
  · omega
  · exact q6Q
theorem qFe {k : Int} (hk : 5 ≤ k ∧ k ≤ 10 ∨ k = 13) {l : List Int} : ∀ x ∈ Jh k l, 0 ≤ x ∧ x ≤ 3 := fun x hx => by
  obtain ⟨ys, _, rfl⟩ := (E6 hk).1 hx
  exact qFd
theorem qAv {l : List Int} {i : Nat} (h : ∀ y ∈ l, 0 ≤ y ∧ y ≤ 3) : 0 ≤ l.getD i 0 ∧ l.getD i 0 ≤ 3 := by
  rw [List.getD_eq_getElem?_getD]
  cases e : l[i]? with
  | none => simp
  | some x => exact h x (List.mem_of_getElem? e)
theorem qFf {k : Int} {l : List Int} (h : ∀ y ∈ l, 0 ≤ y ∧ y ≤ 3) : 0 ≤ I5 k l ∧ I5 k l ≤ 3 := by
  unfold I5
  repeat' split
  all_goals first | exact q6Q | exact qAv h | omega
theorem qCy {k : Int} {ins : List Int} : ∀ {n : Nat} {l : List Int}, (∀ y ∈ l, 0 ≤ y ∧ y ≤ 3) → ∀ x ∈ Rr k ins n l, 0 ≤ x ∧ x ≤ 3
  | 0, l, h, x, hx => by
    simp [Rr] at hx
    subst hx
    exact qFf h
  | n + 1, l, h, x, hx => by
    simp only [Rr, List.mem_flatMap] at hx
    obtain ⟨y, hy, hx⟩ := hx
    refine qCy (fun z hz => ?_) x hx
    rcases List.mem_append.1 hz with hz | hz
    · exact h z hz
    · simp at hz
      subst hz
      rcases q7t hy with rfl | rfl | rfl <;> omega
theorem qDy {v : Int} {b : Bool} : H4 v b ≠ [] := by unfold H4; split; simp; split; simp; split; simp; split <;> simp
theorem qAw {k : Int} {ins : List Int} : ∀ {n : Nat} {l : List Int}, Rr k ins n l ≠ []
  | 0, l => by simp [Rr]
  | n + 1, l => by
    simp only [Rr]
    intro h
    rw [List.flatMap_eq_nil_iff] at h
    obtain ⟨y, hy⟩ := List.exists_mem_of_ne_nil _ (qDy (v := ins.getD l.length 0) (b := decide (k = 13)))
    exact qAw (h y hy)
theorem q9H (k : Int) (hk : 1 ≤ k ∧ k ≤ 13) (ins : Sl Int) (hi : Ia k ins.l.length = true) (hi16 : ins.l.length ≤ 16) : A8 Tryz.prog Γ 158 [tK k, tV ins] (tK (q2d (if 5 ≤ k ∧ k ≤ 10 ∨ k = 13 then Jh k ins.l else Rr k ins.l ins.l.length []))) := by
  refine Ac q56 rfl ?_
  have key : ∀ (L : List Int), L.length ≤ 100000000 → 0 < L.length → (∀ x ∈ L, 0 ≤ x ∧ x ≤ 3) → ∀ (Q : AX → St → Prop), (∀ v, v = q2d L → Q .ret ⟨[(4, .t (tK v))], []⟩) → ∀ lc ln, run Tryz.prog Γ Jc (J1 0 (An (run Tryz.prog Γ (.seq (.reg [od 38 (.bsl true 68 1 [(ku 0), (ku 1), (ku 3), (ku 2)]), om 39 5, od 40 (.iadr 1 (tm 39) (ki 0)), od 41 (ld 1 40), od 42 (ia 1 38 41), od 43 (ld 1 42), om 4 43] [kp [4] []]) .ret) Q) Q)) ⟨[(5, .t (.sl (Ah L) lc ln)), (6, .t (tI 0))], []⟩ := by
    intro L hL hne h3 Q hQ lc ln
    have e0 := gE (f := tI) 0 hne
    have e0' := gE' (f := tI) 0 hne
    have hx := qAv (i := 0) h3
    have g := fun Q h0 h1 => qES (Γ := Γ) (Q := Q) L lc ln hL hne h0 h1 L.length 0 (by omega) (fun j hj => absurd hj (Nat.not_lt_zero _))
    refine g _ (fun hall => ?_) (fun hall => ?_)
    · have hc : q2d L = [0, 1, 3, 2].getD (L.getD 0 0).toNat 0 := Oc (List.ne_nil_of_length_pos hne) hall
      rw [hc] at hQ
      clear hc hall
      generalize L.getD 0 0 = x at *
      have hx4 : x = 0 ∨ x = 1 ∨ x = 2 ∨ x = 3 := by omega
      rcases hx4 with rfl | rfl | rfl | rfl
      · simp [A5, A9, hne, e0, e0', Dz]
        exact ⟨A9, hQ _ rfl⟩
      · simp [A5, A9, hne, e0, e0', Dz]
        exact ⟨A9, hQ _ rfl⟩
      · simp [A5, A9, hne, e0, e0', Dz]
        exact ⟨A9, hQ _ rfl⟩
      · simp [A5, A9, hne, e0, e0', Dz]
        exact ⟨A9, hQ _ rfl⟩
    · have : q2d L = 2 := by
        unfold q2d
        rw [if_neg]
        intro h
        rw [List.all_eq_true] at h
        exact hall fun x hx => by simpa using h x hx
      simp
      exact hQ 2 this.symm
  by_cases hc : 5 ≤ k ∧ k ≤ 10 ∨ k = 13
  · rw [if_pos hc]
    have h1 := q7z (Γ := Γ) k hc ins hi16
    have hl : (Jh k ins.l).length ≤ 100000000 := by
      unfold Jh
      rw [List.length_map]
      have hsl := q4O (b := decide (k = 13)) (l := ins.l) (S := [⟨0, 0, 0⟩])
      have h3 : 3 ^ ins.l.length ≤ 3 ^ 16 := Nat.pow_le_pow_right (by omega) hi16
      have h16 : 3 ^ 16 = 43046721 := by decide
      simp only [List.length_cons, List.length_nil, Nat.zero_add, Nat.one_mul] at hsl
      omega
    have key := key _ hl (List.length_pos_iff.2 (Tq hc)) (qFe hc)
    generalize Jh k ins.l = L at *
    simp [tV] at h1
    rcases hc with hc | rfl
    · have a1 := hc.1
      have a2 := hc.2
      simp [Jd, tV, a1, a2]
      refine Ao h1 rfl ?_
      simp
      refine key _ (fun v hv => ?_) _ _
      simp [Je, hv]
    · simp [Jd, tV]
      refine Ao h1 rfl ?_
      simp
      refine key _ (fun v hv => ?_) _ _
      simp [Je, hv]
  · rw [if_neg hc]
    have hk' : 1 ≤ k ∧ k ≤ 4 ∨ k = 11 ∨ k = 12 := by omega
    have hi3 : ins.l.length ≤ 3 := by
      have hkc : k = 1 ∨ k = 2 ∨ k = 3 ∨ k = 4 ∨ k = 11 ∨ k = 12 := by omega
      have key : ∀ n, Ia k n = true → n ≤ 3 := by
        intro n hn
        rcases hkc with rfl | rfl | rfl | rfl | rfl | rfl <;> simp [Ia] at hn <;> omega
      exact key _ hi
    have h1 := q3c (Γ := Γ) k hk' ins hi hi3 ins.l.length ⟨[], some 0, some true⟩ (by simp)
    have hl : (Rr k ins.l ins.l.length []).length ≤ 100000000 := by
      refine Nat.le_trans (q6P _ _) ?_
      have h3 : 3 ^ ins.l.length ≤ 3 ^ 3 := Nat.pow_le_pow_right (by omega) hi3
      have : 3 ^ 3 = 27 := by decide
      omega
    have key := key _ hl (List.length_pos_iff.2 qAw) (qCy (fun y hy => by cases hy))
    simp only at h1
    generalize Rr k ins.l ins.l.length [] = L at *
    simp [tV, Aw, Nl] at h1
    have a1 : ¬ (5 ≤ k ∧ k ≤ 10) := fun h => hc (.inl h)
    have a2 : ¬ k = 13 := fun h => hc (.inr h)
    by_cases a3 : 5 ≤ k
    · have a4 : ¬ k ≤ 10 := fun h => a1 ⟨a3, h⟩
      simp [Jd, tV, a2, a3, a4]
      refine A4 h1 rfl ?_
      simp
      refine key _ (fun v hv => ?_) _ _
      simp [Je, hv]
    · simp [Jd, tV, a2, a3]
      refine A4 h1 rfl ?_
      simp
      refine key _ (fun v hv => ?_) _ _
      simp [Je, hv]
theorem q80 (k : Int) (hk : 0 ≤ k ∧ k ≤ 15) (ins : Sl Int) (hi : ins.l.length ≤ 1000000) : A8 Tryz.prog Γ 125 [tK k, tV ins] (tK (qDs k ins.l)) := by
  refine Ac q6K rfl ?_
  have ha := q7x (Γ := Γ) k hk ins.l.length
  unfold qDs
  cases hb : Ia k ins.l.length with
  | false =>
    rw [hb] at ha
    simp [Wy, tV, A5]
    refine A4 ha rfl ?_
    simp [Wz]
  | true =>
    rw [hb] at ha
    have hkc : 1 ≤ k ∧ k ≤ 13 := by
      have h : k = 0 ∨ k = 14 ∨ k = 15 ∨ (1 ≤ k ∧ k ≤ 13) := by omega
      rcases h with rfl | rfl | rfl | h
      · simp [Ia] at hb
      · simp [Ia] at hb
      · simp [Ia] at hb
      · exact h
    have h16 : ins.l.length ≤ 16 := by
      have key : ∀ n, Ia k n = true → n ≤ 16 := by
        intro n hn
        unfold Ia at hn
        repeat' split at hn
        all_goals simp at hn; omega
      exact key _ hb
    have hap := q9H (Γ := Γ) k hkc ins hb h16
    generalize q2d (if 5 ≤ k ∧ k ≤ 10 ∨ k = 13 then Jh k ins.l else Rr k ins.l ins.l.length []) = r at *
    simp [tV] at hap
    simp [Wy, tV, A5]
    refine A4 ha rfl ?_
    simp
    refine A4 hap rfl ?_
    simp [Wz]
theorem q5L {c : Bf} {n : Int} (h0 : 0 ≤ n) (h : n < c.nodes.l.length) : ∀ h' : n.toNat < (B1 D4 c.nodes.l).length, (B1 D4 c.nodes.l)[n.toNat]'h' = D4 (nd c n) := fun h' => by
  have := q2Y h0 h
  rw [List.getElem?_eq_getElem h'] at this
  simpa using this
theorem qCz {Q : AX → St → Prop} (c : Bf) (hc : COk c) (k : Int) (hn : c.nodes.l.length ≤ 1000000)
    (h0 : Q (.exit 0) ⟨[(1, .t (tK k)), (2, .t (.ip (tC c) 0)), (5, .ls 25 0 (Mc [k] c.nodes.l 0).length none), (6, .t (tI c.nodes.l.length)), (11, .t (tB false))], [(25, .sl 3 1 (Ah (Mc [k] c.nodes.l 0)))]⟩) :
    ∀ (f i : Nat), f + i = c.nodes.l.length → run Tryz.prog Γ We Q ⟨[(1, .t (tK k)), (2, .t (.ip (tC c) 0)), (5, .ls 25 0 (Mc [k] (c.nodes.l.take i) 0).length none), (6, .t (tI i))], [(25, .sl 3 1 (Ah (Mc [k] (c.nodes.l.take i) 0)))]⟩
  | 0, i, h => by
    refine Zf fun K hK => ?_
    have h2 : i = c.nodes.l.length := by omega
    subst h2
    rw [List.take_length]
    simp [tC, Aa, Ad, Ae, Aw] at h0
    simp [tC, Aa, Ad, Ae, Aw, Ab]
    simpa using h0
  | f + 1, i, h => by
    refine Zf fun K hK => ?_
    have h2 : i < c.nodes.l.length := by omega
    have ih := qCz c hc k hn h0 f (i + 1) (by omega)
    rw [q94 h2] at ih
    have hget := q2Y (c := c) (n := (i : Int)) (by omega) (by omega)
    have hget' := q5L (c := c) (n := (i : Int)) (by omega) (by omega)
    have hk : (nd c i).k = As c i := by simp [nd, As]
    simp only [Int.toNat_natCast] at hget hget'
    have hle := Vo [k] (c.nodes.l.take i) 0
    rw [List.length_take] at hle
    generalize nd c i = x at *
    generalize Mc [k] (c.nodes.l.take i) 0 = out at *
    have w1 : IntKind.i64.wrap ((i : Int) + 1) = (i : Int) + 1 := by rw [A6] <;> omega
    have vt : (Ah out).take out.length = Ah out := Cf
    have vs : Ah out ++ [[tI i]] = Ah (out ++ [(i : Int)]) := E8
    by_cases h1 : x.k = k
    · have hkk : [k].contains (As c i) = true := by rw [← hk, h1]; simp
      rw [hkk, if_pos rfl] at ih
      simp [tC, Aa, Ad, Ae, Aw] at ih
      simp [tC, Aa, Ad, Ae, Aw, Ab, h2, Bg, hget, hget', D4, h1, A5, A9, vt, vs, w1]
      refine ⟨by omega, ?_⟩
      rw [hK]
      simpa using ih
    · have hkk : [k].contains (As c i) = false := by rw [← hk]; simp; exact h1
      rw [hkk, if_neg (by simp), List.append_nil] at ih
      simp [tC, Aa, Ad, Ae, Aw] at ih
      simp [tC, Aa, Ad, Ae, Aw, Ab, h2, Bg, hget, hget', D4, h1, w1]
      rw [hK]
      simpa using ih
theorem q2f (c : Bf) (hc : COk c) (k : Int) (hn : c.nodes.l.length ≤ 1000000) : Au Tryz.prog Γ 59 [.agg (tC c), tK k] (.sl (Ah (Mc [k] c.nodes.l 0)) none none) := by
  refine D7 q7s rfl ?_
  have g := fun Q h0 => qCz (Γ := Γ) (Q := Q) c hc k hn h0 c.nodes.l.length 0 (by omega)
  have ht : (Ah (Mc [k] c.nodes.l 0)).take (Mc [k] c.nodes.l 0).length = Ah (Mc [k] c.nodes.l 0) := Cf
  have hz : Mc [k] (c.nodes.l.take 0) 0 = [] := rfl
  rw [hz] at g
  simp only [List.length_nil, Nl] at g
  generalize Mc [k] c.nodes.l 0 = R at *
  simp [tC, Aa, Ad, Ae, Aw] at g
  simp [q4o, tC, Aa, Ad, Ae, Aw]
  refine g _ ?_
  simp [q4p, Ai, ht]
def rlE (c : Bf) (n r : Nat) (b : Bool) : List (Nat × AV) := [(1, .t (.ip (tC c) 0)), (4, .ls 13 0 n none), (5, .t (tI r)), (6, .t (tB b))]
def Bnd (φ : Nat → Nat) (n : Nat) (out : List Int) : Prop := ∀ q, q < n → 0 ≤ out.getD q 0 ∧ out.getD q 0 ≤ φ q
theorem qET {Q : AX → St → Prop} (c : Bf) (φ : Nat → Nat) (n : Nat) (hn : n ≤ 1000000) (hφ : ∀ q, q < n → φ q < n) (r i : Nat) (hi : i < n) (x : Nd) (hcb : C3 x.k = true) (hxl : x.inn.l.length ≤ 1000000) (hin : ∀ p ∈ x.inn.l, 0 ≤ p ∧ p.toNat < n ∧ φ p.toNat < φ i) (R : List Int × Bool)
    (h0 : Q (.exit 4) ⟨rlE c n r R.2 ++ [(7, .t (tI i)), (8, .lp 8 0 0), (9, .t (tI x.inn.l.length)), (42, .t (tB false))], [(8, .bx ((D4 x).map .t)), (13, .sl 3 1 (Ah R.1))]⟩) :
    ∀ (f j : Nat) (out : List Int) (b : Bool), f + j = x.inn.l.length → out.length = n → Bnd φ n out → Fe i (x.inn.l.drop j) out b = R →
    run Tryz.prog Γ L8 Q ⟨rlE c n r b ++ [(7, .t (tI i)), (8, .lp 8 0 0), (9, .t (tI j))], [(8, .bx ((D4 x).map .t)), (13, .sl 3 1 (Ah out))]⟩
  | 0, j, out, b, h, ho, hb, hR => by
    refine Gn fun K hK => ?_
    have h2 : j = x.inn.l.length := by omega
    subst h2
    rw [List.drop_of_length_le (Nat.le_refl _)] at hR
    have hR : (out, b) = R := hR
    subst hR
    simp [rlE, D4, Aw] at h0
    simp [rlE, D4, Aw, A5]
    simpa using h0
  | f + 1, j, out, b, h, ho, hb, hR => by
    refine Gn fun K hK => ?_
    have h2 : j < x.inn.l.length := by omega
    rw [List.drop_eq_getElem_cons h2] at hR
    simp only [Fe] at hR
    obtain ⟨p0, p1, p2⟩ := hin _ (List.getElem_mem h2)
    have e1 := gE (f := tI) 0 h2
    have e1' := gE' (f := tI) 0 h2
    rw [Be h2] at e1 e1'
    have ih := fun o' b' hl hb' hR' => qET c φ n hn hφ r i hi x hcb hxl hin R h0 f (j + 1) o' b' (by omega) hl hb' hR'
    generalize x.inn.l[j] = p at *
    have hi' : i < out.length := by omega
    have hq' : p.toNat < out.length := by omega
    have e2 := gE (f := tI) 0 hi'
    have e2' := gE' (f := tI) 0 hi'
    have e3 := gE (f := tI) 0 hq'
    have e3' := gE' (f := tI) 0 hq'
    have b1 := hb i hi
    have b2 := hb p.toNat p1
    have f1 := hφ i hi
    have hp1 : p < n := by omega
    have hcmb := Z5 (Γ := Γ) x.k
    rw [hcb] at hcmb
    have w1 : IntKind.i64.wrap ((j : Int) + 1) = (j : Int) + 1 := by rw [A6] <;> omega
    have w2 : IntKind.i64.wrap (out.getD p.toNat 0 + 1) = out.getD p.toNat 0 + 1 := by rw [A6] <;> omega
    have hs : (Ah out).set i [tI (out.getD p.toNat 0 + 1)] = Ah (out.set i (out.getD p.toNat 0 + 1)) := Gu
    by_cases hlt : out.getD i 0 < out.getD p.toNat 0 + 1
    · rw [if_pos hlt] at hR
      have ih := ih _ _ (by rw [List.length_set]; exact ho) (fun q hq => by
        rw [E2 hi']
        split
        · rename_i e; subst e; omega
        · exact hb q hq) hR
      generalize out.getD i 0 = u at *
      generalize out.getD p.toNat 0 = v at *
      simp [rlE, D4, Aw] at ih
      simp [rlE, D4, Aw, A5, A9, h2]
      refine A4 hcmb rfl ?_
      simp [h2, hi, ho, p0, p1, hp1, e1, e1', e2, e2', e3, e3', w1, w2, hlt, hs, A5, A9]
      rw [hK]
      simpa using ih
    · rw [if_neg hlt] at hR
      have ih := ih _ _ ho hb hR
      generalize out.getD i 0 = u at *
      generalize out.getD p.toNat 0 = v at *
      simp [rlE, D4, Aw] at ih
      simp [rlE, D4, Aw, A5, A9, h2]
      refine A4 hcmb rfl ?_
      simp [h2, hi, ho, p0, p1, hp1, e1, e1', e2, e2', e3, e3', w1, w2, hlt, A5, A9]
      rw [hK]
      simpa using ih
theorem qEU {Q : AX → St → Prop} (c : Bf) (H : ROk c) (φ : Nat → Nat) (hpl : Plc c φ) (hn : c.nodes.l.length ≤ 1000000) (r : Nat) (R : List Int × Bool)
    (h0 : Q (.exit 2) ⟨rlE c c.nodes.l.length r R.2 ++ [(7, .t (tI c.nodes.l.length)), (25, .t (tB false))], [(13, .sl 3 1 (Ah R.1))]⟩) :
    ∀ (f i : Nat) (out : List Int) (b : Bool), f + i = c.nodes.l.length → out.length = c.nodes.l.length → Bnd φ c.nodes.l.length out → Ix c f i (out, b) = R →
    run Tryz.prog Γ L9 Q ⟨rlE c c.nodes.l.length r b ++ [(7, .t (tI i))], [(13, .sl 3 1 (Ah out))]⟩
  | 0, i, out, b, h, ho, hb, hR => by
    refine S8 fun K hK => ?_
    have h2 : i = c.nodes.l.length := by omega
    subst h2
    have hR : (out, b) = R := hR
    subst hR
    simp [rlE, tC, Aa, Ad, Ae, Aw] at h0
    simp [rlE, tC, Aa, Ad, Ae, Aw, Ab]
    simpa using h0
  | f + 1, i, out, b, h, ho, hb, hR => by
    refine S8 fun K hK => ?_
    have h2 : i < c.nodes.l.length := by omega
    simp only [Ix] at hR
    obtain ⟨n1, n2, n3, n4, n5, n6⟩ := q7O hpl h2 (out := out) (b := b) ho
    have ih := qEU c H φ hpl hn r R h0 f (i + 1) (K7 c i (out, b)).1 (K7 c i (out, b)).2 (by omega) n1 (n6 hb) hR
    have hget := q2Y (c := c) (n := (i : Int)) (by omega) (by omega)
    have hget' := q5L (c := c) (n := (i : Int)) (by omega) (by omega)
    have hmem := qA4 (c := c) (n := (i : Int)) (by omega) (by omega)
    have hxi := H.inn _ hmem
    have hk : (nd c i).k = As c i := by simp [nd, As]
    have hin : Eh c i = (nd c i).inn.l := by simp [nd, Eh]
    simp only [Int.toNat_natCast] at hget hget'
    have hsw : K7 c i (out, b) = if C3 (nd c i).k then Fe i (nd c i).inn.l out b else (out, b) := by unfold K7; rw [hk, hin]
    have hdn := fun hc => hpl.dn i h2 hc
    rw [hin, ← hk] at hdn
    rw [hsw] at ih
    clear n1 n2 n3 n4 n5 n6 hR
    generalize nd c i = x at *
    have w1 : IntKind.i64.wrap ((i : Int) + 1) = (i : Int) + 1 := by rw [A6] <;> omega
    by_cases hc : C3 x.k = true
    · rw [if_pos hc] at ih
      have g := fun Q h0 => qET (Γ := Γ) (Q := Q) c φ c.nodes.l.length hn (fun q hq => hpl.lt q hq) r i h2 x hc (by omega) (fun p hp => ⟨(hxi.2 p hp).1, (hdn hc p hp).1, (hdn hc p hp).2⟩) (Fe i x.inn.l out b) h0 x.inn.l.length 0 out b (by omega) ho hb (by rw [List.drop_zero])
      generalize Fe i x.inn.l out b = R1 at *
      obtain ⟨o1, b1⟩ := R1
      simp [rlE, tC, Aa, Ad, Ae, Aw, D4] at ih g
      simp [rlE, tC, Aa, Ad, Ae, Aw, Ab, h2, Bg, hget, hget', D4]
      refine g _ ?_
      simp [w1]
      rw [hK]
      simpa using ih
    · rw [if_neg hc] at ih
      have hcmb := Z5 (Γ := Γ) x.k
      simp only [Bool.not_eq_true] at hc
      rw [hc] at hcmb
      simp [rlE, tC, Aa, Ad, Ae, Aw, D4] at ih
      by_cases he : 0 < x.inn.l.length
      · simp [rlE, tC, Aa, Ad, Ae, Aw, Ab, h2, Bg, hget, hget', D4]
        refine Gn fun K2 hK2 => ?_
        simp [A5, he]
        refine A4 hcmb rfl ?_
        simp [w1]
        rw [hK]
        simpa using ih
      · simp [rlE, tC, Aa, Ad, Ae, Aw, Ab, h2, Bg, hget, hget', D4]
        refine Gn fun K2 hK2 => ?_
        simp [A5, he]
        simp [w1]
        rw [hK]
        simpa using ih
theorem qEV {Q : AX → St → Prop} (c : Bf) (H : ROk c) (φ : Nat → Nat) (hpl : Plc c φ) (hn : c.nodes.l.length ≤ 1000000) (R : List Int)
    (h0 : Q .ret ⟨[(2, .ls 13 0 c.nodes.l.length none), (3, .t (tB true))], [(13, .sl 3 1 (Ah R))]⟩) :
    ∀ (f r : Nat) (out : List Int), f + r = c.nodes.l.length + 1 → r ≤ c.nodes.l.length → out.length = c.nodes.l.length → Bnd φ c.nodes.l.length out → (∀ j, j < c.nodes.l.length → φ j < r → q3Y c out j) → q7N c f out = R →
    run Tryz.prog Γ La Q ⟨[(1, .t (.ip (tC c) 0)), (4, .ls 13 0 c.nodes.l.length none), (5, .t (tI r))], [(13, .sl 3 1 (Ah out))]⟩
  | 0, r, out, h, hr, _, _, _, _ => by omega
  | f + 1, r, out, h, hr, ho, hb, hs, hR => by
    refine q1V fun K hK => ?_
    simp only [q7N] at hR
    obtain ⟨m1, m2, m3, m4, m5, m6⟩ := q2e hpl r out hs c.nodes.l.length 0 out false (by omega) ho (fun _ _ _ => rfl) (fun j hj => absurd hj (Nat.not_lt_zero _)) hb (fun _ j hj => absurd hj (Nat.not_lt_zero _))
    have g := fun Q h0 => qEU (Γ := Γ) (Q := Q) c H φ hpl hn r (q1z c out) h0 c.nodes.l.length 0 out false (by omega) ho hb rfl
    have ih := fun hr' => qEV c H φ hpl hn R h0 f (r + 1) (q1z c out).1 (by omega) hr' m1 m4 m3
    have hlast : r = c.nodes.l.length → (q1z c out).2 = false := fun e => by
      have := m6 fun j hj => hs j hj (by rw [e]; exact hpl.lt j hj)
      show (Ix c c.nodes.l.length 0 (out, false)).2 = false
      rw [this]
    clear m1 m2 m3 m4 m5 m6
    generalize q1z c out = S at *
    obtain ⟨o1, b1⟩ := S
    simp only at hR ih hlast
    have w1 : IntKind.i64.wrap ((r : Int) + 1) = (r : Int) + 1 := by rw [A6] <;> omega
    have hr' : (r : Int) ≤ c.nodes.l.length := by omega
    cases b1 with
    | false =>
      rw [if_neg (by simp)] at hR
      subst hR
      simp [rlE, tC, Aa, Ad, Ae, Aw] at g
      simp [tC, Aa, Ad, Ae, Aw, Ab, hr, hr']
      refine g _ ?_
      simp
      simpa using h0
    | true =>
      rw [if_pos rfl] at hR
      have hlt : r + 1 ≤ c.nodes.l.length := by
        rcases Nat.lt_or_eq_of_le hr with h | h
        · omega
        · exact absurd (hlast h) (by simp)
      have ih := ih hlt hR
      simp [rlE, tC, Aa, Ad, Ae, Aw] at g ih
      simp [tC, Aa, Ad, Ae, Aw, Ab, hr, hr']
      refine g _ ?_
      simp [w1]
      rw [hK]
      simpa using ih
theorem q6R (c : Bf) (hc : COk c) (h : D3 c = 0) (hn : c.nodes.l.length ≤ 1000000) : Au Tryz.prog Γ 156 [.agg (tC c)] (.tup [.sl (Ah (Rt c)) none none, tB true]) := by
  refine D7 q4F rfl ?_
  have hpl := qCn h
  have hrep : ∀ j, (List.replicate c.nodes.l.length (0 : Int)).getD j 0 = 0 := fun j => by rw [List.getD_eq_getElem?_getD, List.getElem?_replicate]; split <;> rfl
  have g := fun Q h0 => qEV (Γ := Γ) (Q := Q) c (q7p hc h) _ hpl hn (Rt c) h0 (c.nodes.l.length + 1) 0 (List.replicate c.nodes.l.length 0) (by omega) (Nat.zero_le _) (by simp) (fun q hq => by rw [hrep]; exact ⟨Int.le_refl _, by omega⟩) (fun j _ hj => absurd hj (Nat.not_lt_zero _)) rfl
  have hL := (q4L h).len
  have ht : (Ah (Rt c)).take c.nodes.l.length = Ah (Rt c) := by rw [← hL]; exact Cf
  have hz : Ah (List.replicate c.nodes.l.length (0 : Int)) = List.replicate c.nodes.l.length [tI 0] := by simp [Av]
  rw [hz] at g
  generalize Rt c = L at *
  simp [tC, Aa, Ad, Ae, Aw] at g
  simp [Zj, tC, Aa, Ad, Ae, Aw, Ab]
  refine ⟨by omega, g _ ?_⟩
  simp [Zk, Ai, ht]
theorem qEW {Q : AX → St → Prop} (c : Bf) (L : List Int) (lc : Option Nat) (hL : L.length = c.nodes.l.length) (hn : c.nodes.l.length ≤ 1000000) (v : Nat) (out0 : List Int) (ho0 : out0.length ≤ 1000000) (R : List Int)
    (h0 : Q (.exit 2) ⟨[(1, .t (.ip (tC c) 0)), (3, .t (.sl (Ah L) lc none)), (5, .ls 37 0 R.length none), (6, .t (tI v)), (7, .t (tI c.nodes.l.length)), (25, .t (tB false))], [(37, .sl 3 1 (Ah R))]⟩) :
    ∀ (f i : Nat) (out : List Int), f + i = c.nodes.l.length → out.length + f ≤ 3000000 → out ++ ((rng c.nodes.l.length).drop i).filter (fun j => decide (L.getD j.toNat 0 = (v : Int))) = R →
    run Tryz.prog Γ Oa Q ⟨[(1, .t (.ip (tC c) 0)), (3, .t (.sl (Ah L) lc none)), (5, .ls 37 0 out.length none), (6, .t (tI v)), (7, .t (tI i))], [(37, .sl 3 1 (Ah out))]⟩
  | 0, i, out, h, hl, hR => by
    refine V7 fun K hK => ?_
    have h2 : i = c.nodes.l.length := by omega
    subst h2
    rw [List.drop_of_length_le (by rw [Ik]; exact Nat.le_refl _), List.filter_nil, List.append_nil] at hR
    subst hR
    simp [tC, Aa, Ad, Ae, Aw] at h0
    simp [tC, Aa, Ad, Ae, Aw, Ab]
    simpa using h0
  | f + 1, i, out, h, hl, hR => by
    refine V7 fun K hK => ?_
    have h2 : i < c.nodes.l.length := by omega
    have h3 : i < L.length := by omega
    have hr : (rng c.nodes.l.length).drop i = (i : Int) :: (rng c.nodes.l.length).drop (i + 1) := by
      rw [List.drop_eq_getElem_cons (by rw [Ik]; exact h2)]
      congr 1
      simp [rng]
    rw [hr, List.filter_cons, Int.toNat_natCast] at hR
    have e1 := gE (f := tI) 0 h3
    have e1' := gE' (f := tI) 0 h3
    have ih := fun o' hl' hR' => qEW c L lc hL hn v out0 ho0 R h0 f (i + 1) o' (by omega) hl' hR'
    generalize L.getD i 0 = u at *
    have w1 : IntKind.i64.wrap ((i : Int) + 1) = (i : Int) + 1 := by rw [A6] <;> omega
    have vt : (Ah out).take out.length = Ah out := Cf
    have vs : Ah out ++ [[tI i]] = Ah (out ++ [(i : Int)]) := E8
    by_cases hu : u = v
    · rw [if_pos (by simpa using hu)] at hR
      have ih := ih (out ++ [(i : Int)]) (by simp; omega) (by rw [List.append_assoc]; exact hR)
      simp [tC, Aa, Ad, Ae, Aw] at ih
      simp [tC, Aa, Ad, Ae, Aw, Ab, h2, h3, A5, A9, e1, e1', hu, vt, vs, w1]
      refine ⟨by omega, ?_⟩
      rw [hK]
      simpa using ih
    · rw [if_neg (by simpa using hu)] at hR
      have ih := ih out (by omega) hR
      simp [tC, Aa, Ad, Ae, Aw] at ih
      simp [tC, Aa, Ad, Ae, Aw, Ab, h2, h3, A5, A9, e1, e1', hu, w1]
      rw [hK]
      simpa using ih
theorem qEX {Q : AX → St → Prop} (c : Bf) (L : List Int) (lc : Option Nat) (hL : qBb c L) (hn : c.nodes.l.length ≤ 1000000)
    (h0 : ∀ v, c.nodes.l.length ≤ (C6 L c.nodes.l.length v).length → Q (.exit 0) ⟨[(1, .t (.ip (tC c) 0)), (3, .t (.sl (Ah L) lc none)), (5, .ls 37 0 (C6 L c.nodes.l.length v).length none), (6, .t (tI v)), (18, .t (tB false))], [(37, .sl 3 1 (Ah (C6 L c.nodes.l.length v)))]⟩) :
    ∀ (f v : Nat), f + v = c.nodes.l.length →
    run Tryz.prog Γ Ob Q ⟨[(1, .t (.ip (tC c) 0)), (3, .t (.sl (Ah L) lc none)), (5, .ls 37 0 (C6 L c.nodes.l.length v).length none), (6, .t (tI v))], [(37, .sl 3 1 (Ah (C6 L c.nodes.l.length v)))]⟩
  | f, v, h => by
    refine q2b fun K hK => ?_
    have hle := q6O (L := L) (n := c.nodes.l.length) (v := v)
    by_cases hlt : (C6 L c.nodes.l.length v).length < c.nodes.l.length
    · have hvn := q99 hL hlt
      match f, h with
      | 0, h => omega
      | f + 1, h =>
        have ih := qEX c L lc hL hn h0 f (v + 1) (by omega)
        have g := fun Q h0 => qEW (Γ := Γ) (Q := Q) c L lc hL.len hn v [] (by simp) (C6 L c.nodes.l.length (v + 1)) h0 c.nodes.l.length 0 (C6 L c.nodes.l.length v) (by omega) (by omega) (by rw [List.drop_zero]; rfl)
        have w1 : IntKind.i64.wrap ((v : Int) + 1) = (v : Int) + 1 := by rw [A6] <;> omega
        generalize C6 L c.nodes.l.length (v + 1) = R at *
        generalize C6 L c.nodes.l.length v = out at *
        simp [tC, Aa, Ad, Ae, Aw] at g ih
        simp [tC, Aa, Ad, Ae, Aw, Ab, hlt]
        refine g _ ?_
        simp [w1]
        rw [hK]
        simpa using ih
    · have h0 := h0 v (by omega)
      generalize C6 L c.nodes.l.length v = out at *
      simp [tC, Aa, Ad, Ae, Aw] at h0
      simp [tC, Aa, Ad, Ae, Aw, Ab, hlt]
      simpa using h0
theorem q6n (c : Bf) (hc : COk c) (h : D3 c = 0) (hn : c.nodes.l.length ≤ 1000000) : ∃ o, (∃ v, o = C6 (Rt c) c.nodes.l.length v ∧ c.nodes.l.length ≤ o.length) ∧ Au Tryz.prog Γ 123 [.agg (tC c)] (.sl (Ah o) none none) := by
  have hL := q4L h
  have e1 := q6R (Γ := Γ) c hc h hn
  have : ∃ r, Au Tryz.prog Γ 123 [.agg (tC c)] r ∧ ∃ o, r = .sl (Ah o) none none ∧ ∃ v, o = C6 (Rt c) c.nodes.l.length v ∧ c.nodes.l.length ≤ o.length := by
    refine run_pure q57 rfl ?_
    have g := fun Q h0 => qEX (Γ := Γ) (Q := Q) c (Rt c) none hL hn h0 c.nodes.l.length 0 (by omega)
    simp only [C6, List.length_nil, Nl] at g
    simp [tC, Aa, Ad, Ae, Aw] at e1 g
    simp [q13, tC, Aa, Ad, Ae, Aw]
    refine Ao e1 rfl ?_
    simp
    refine g _ (fun v hv => ?_)
    have ht : (Ah (C6 (Rt c) c.nodes.l.length v)).take (C6 (Rt c) c.nodes.l.length v).length = Ah (C6 (Rt c) c.nodes.l.length v) := Cf
    simp [q14, Ai, ht]
    exact ⟨_, rfl, ⟨v, rfl⟩, hv⟩
  obtain ⟨r, h1, o, rfl, h2⟩ := this
  exact ⟨o, h2, h1⟩
theorem q4r (nets : Sl Int) (n : Int) (hl : nets.l.length ≤ 1000000000) : A8 Tryz.prog Γ 61 [tV nets, tI n] (tK (Gj nets.l n)) := by
  refine Ac q58 rfl ?_
  generalize hR : Gj nets.l n = R
  unfold Gj at hR
  by_cases h1 : n < 0
  · rw [if_pos (.inl h1)] at hR
    subst hR
    simp [Jf, tV, h1, Jg]
  by_cases h2 : (nets.l.length : Int) ≤ n
  · rw [if_pos (.inr h2)] at hR
    subst hR
    simp [Jf, tV, h1, h2, A5, Jg]
  rw [if_neg (by omega)] at hR
  have h3 : n.toNat < nets.l.length := by omega
  have e1 := gE (f := tK) 0 h3
  have e1' := gE' (f := tK) 0 h3
  generalize nets.l.getD n.toNat 0 = v at *
  have h4 : n < nets.l.length := by omega
  have h5 : 0 ≤ n := by omega
  by_cases h6 : 3 < v
  · have hr : R = 2 := by rw [← hR]; unfold C2; rw [if_pos h6]
    subst hr
    simp [Jf, tV, h1, h2, h3, h4, h5, h6, A5, A9, e1, e1', Jg]
  · have hr : R = v := by rw [← hR]; unfold C2; rw [if_neg h6]
    subst hr
    simp [Jf, tV, h1, h2, h3, h4, h5, h6, A5, A9, e1, e1', Jg]
def roE (c : Bf) (nets : Sl Int) : List (Nat × AV) := [(1, .t (tV nets)), (2, .t (.ip (tC c) 0)), (4, .lp 4 0 0), (5, .lp 5 0 0)]
def roH (o s : List Int) : List (Nat × Bj) := [(4, .bx [.t (.sl [] (some 0) (some true)), .t (.sl [] (some 0) (some true))]), (5, .bx [.ls 27 0 o.length none, .ls 67 0 s.length none]), (27, .sl 68 1 (Az o)), (67, .sl 68 1 (Az s))]
theorem qD0 {Q : AX → St → Prop} (c : Bf) (nets : Sl Int) (hl : nets.l.length ≤ 1000000000) (ho : c.outs.l.length ≤ 1000000000) (R : List Int)
    (h0 : Q (.exit 0) ⟨roE c nets ++ [(6, .t (tI c.outs.l.length)), (14, .t (tB false))], roH R []⟩) :
    ∀ (k i : Nat) (out : List Int), k + i = c.outs.l.length → out.length = i → out ++ (c.outs.l.drop i).map (Gj nets.l) = R →
    run Tryz.prog Γ Jt Q ⟨roE c nets ++ [(6, .t (tI i))], roH out []⟩
  | 0, i, out, h, hi, hR => by
    refine Rb fun K hK => ?_
    have h2 : i = c.outs.l.length := by omega
    rw [List.drop_of_length_le (by omega), List.map_nil, List.append_nil] at hR
    subst hR
    subst h2
    simp [roE, roH, tC, Aa, Ad, Ae, Aw, tV] at h0
    simp [roE, roH, tC, Aa, Ad, Ae, Aw, tV, A5]
    simpa using h0
  | k + 1, i, out, h, hi, hR => by
    refine Rb fun K hK => ?_
    have h2 : i < c.outs.l.length := by omega
    rw [List.drop_eq_getElem_cons h2, List.map_cons] at hR
    have e1 := gE (f := tI) 0 h2
    have e1' := gE' (f := tI) 0 h2
    rw [Be h2] at e1 e1'
    generalize c.outs.l[i] = n at *
    have ih := qD0 c nets hl ho R h0 k (i + 1) (out ++ [Gj nets.l n]) (by omega) (by simp [hi]) (by rw [← hR]; simp)
    have vs := N3 (l := out) (v := Gj nets.l n)
    have vt : (Az out).take i = Az out := by rw [← hi]; exact Dl
    have hv := q4r (Γ := Γ) nets n hl
    generalize Gj nets.l n = v at *
    have w1 : IntKind.i64.wrap ((i : Int) + 1) = (i : Int) + 1 := by rw [A6] <;> omega
    simp [tV] at hv
    simp [roE, roH, tC, Aa, Ad, Ae, Aw, tV] at ih
    simp [roE, roH, tC, Aa, Ad, Ae, Aw, tV, A5, A9, h2, e1, e1', hi]
    refine A4 hv rfl ?_
    simp [vt, vs, A5, A9, hi, w1]
    refine ⟨by omega, ?_⟩
    rw [hK]
    simpa [hi] using ih
theorem qD1 {Q : AX → St → Prop} (c : Bf) (hc : COk c) (nets : Sl Int) (hl : nets.l.length ≤ 1000000000) (ns : List Int) (hns : ns.length ≤ 1000000) (hin : ∀ n ∈ ns, 0 ≤ n ∧ n < c.nodes.l.length) (o R : List Int) (sc : Option Nat) (sn : Option Bool)
    (h0 : Q (.exit 2) ⟨roE c nets ++ [(7, .t (.sl (Ah ns) sc sn)), (8, .t (tI ns.length)), (34, .t (tB false))], roH o R⟩) :
    ∀ (k i : Nat) (out : List Int), k + i = ns.length → out.length = i → out ++ (ns.drop i).map (q0k c nets.l) = R →
    run Tryz.prog Γ Ju Q ⟨roE c nets ++ [(7, .t (.sl (Ah ns) sc sn)), (8, .t (tI i))], roH o out⟩
  | 0, i, out, h, hi, hR => by
    refine Re fun K hK => ?_
    have h2 : i = ns.length := by omega
    rw [List.drop_of_length_le (by omega), List.map_nil, List.append_nil] at hR
    subst hR
    subst h2
    simp [roE, roH, tC, Aa, Ad, Ae, Aw, tV] at h0
    simp [roE, roH, tC, Aa, Ad, Ae, Aw, tV, A5]
    simpa using h0
  | k + 1, i, out, h, hi, hR => by
    refine Re fun K hK => ?_
    have h2 : i < ns.length := by omega
    rw [List.drop_eq_getElem_cons h2, List.map_cons] at hR
    have e1 := gE (f := tI) 0 h2
    have e1' := gE' (f := tI) 0 h2
    have hn := hin ns[i] (List.getElem_mem h2)
    rw [Be h2] at e1 e1'
    generalize ns[i] = n at *
    have ih := qD1 c hc nets hl ns hns hin o R sc sn h0 k (i + 1) (out ++ [q0k c nets.l n]) (by omega) (by simp [hi]) (by rw [← hR]; simp)
    have vs := N3 (l := out) (v := q0k c nets.l n)
    have vt : (Az out).take i = Az out := by rw [← hi]; exact Dl
    have hget := q2Y hn.1 hn.2
    have hget' := q5L hn.1 hn.2
    have hnl : q0k c nets.l n = if (nd c n).inn.l.length = 1 then Rz (Gj nets.l ((nd c n).inn.l.getD 0 0)) else 2 := rfl
    have hnn : n.toNat < c.nodes.l.length := by omega
    generalize nd c n = x at *
    generalize q0k c nets.l n = v at *
    obtain ⟨h3, h4⟩ := hn
    have w1 : IntKind.i64.wrap ((i : Int) + 1) = (i : Int) + 1 := by rw [A6] <;> omega
    simp [roE, roH, tC, Aa, Ad, Ae, Aw, tV] at ih
    by_cases h1 : x.inn.l.length = 1
    · rw [if_pos h1] at hnl
      have h10 : 0 < x.inn.l.length := by omega
      have e0 := gE (f := tI) 0 h10
      have e0' := gE' (f := tI) 0 h10
      have hv := q4r (Γ := Γ) nets (x.inn.l.getD 0 0) hl
      have hv3 : Gj nets.l (x.inn.l.getD 0 0) ≤ 3 := by
        unfold Gj C2
        split
        · omega
        · split <;> omega
      generalize x.inn.l.getD 0 0 = m at *
      generalize Gj nets.l m = u at *
      have h1i : (x.inn.l.length : Int) = 1 := by omega
      simp [tV] at hv
      simp [roE, roH, tC, Aa, Ad, Ae, Aw, tV, A5, A9, Ab, Bg, h2, e1, e1', h3, h4, hnn, hget, hget', D4, h1, h1i, e0, e0', h10]
      refine A4 hv rfl ?_
      by_cases hu : u = 3
      · subst hu
        have hv2 : v = 2 := by rw [hnl]; rfl
        subst hv2
        simp [vt, vs, A5, A9, hi, w1]
        refine ⟨by omega, ?_⟩
        rw [hK]
        simpa [hi] using ih
      · have hv2 : v = u := by rw [hnl]; unfold Rz; split <;> omega
        subst hv2
        simp [hu, vt, vs, A5, A9, hi, w1]
        refine ⟨by omega, ?_⟩
        rw [hK]
        simpa [hi] using ih
    · rw [if_neg h1] at hnl
      subst hnl
      have h1i : ¬ (x.inn.l.length : Int) = 1 := by omega
      simp [roE, roH, tC, Aa, Ad, Ae, Aw, tV, A5, A9, Ab, Bg, h2, e1, e1', h3, h4, hnn, hget, hget', D4, h1, h1i, vt, vs, hi, w1]
      refine ⟨by omega, ?_⟩
      rw [hK]
      simpa [hi] using ih
theorem q59 (c : Bf) (hc : COk c) (nets : Sl Int) (hl : nets.l.length ≤ 1000000000) (ho : c.outs.l.length ≤ 1000000000) (hn : c.nodes.l.length ≤ 1000000) : Au Tryz.prog Γ 17 [.agg (tC c), tV nets] (.agg [.sl (Az (Ro c nets.l)) none none, .sl (Az (Fb c nets.l)) none none]) := by
  refine D7 q3S rfl ?_
  have e1 := q2f (Γ := Γ) c hc 14 hn
  have hsl := Jb c
  have hin : ∀ n ∈ Ce c, 0 ≤ n ∧ n < c.nodes.l.length := fun n hn => ⟨(Po n hn).1, (Po n hn).2.1⟩
  have g1 := fun Q h0 => qD0 (Γ := Γ) (Q := Q) c nets hl ho (Ro c nets.l) h0 c.outs.l.length 0 [] (by omega) rfl (by simp [Ro])
  have g3 := fun Q sc sn h0 => qD1 (Γ := Γ) (Q := Q) c hc nets hl (Ce c) (by omega) hin (Ro c nets.l) (Fb c nets.l) sc sn h0 (Ce c).length 0 [] (by omega) rfl (by simp [Fb])
  have t1 : (Az (Ro c nets.l)).take (Ro c nets.l).length = Az (Ro c nets.l) := Dl
  have t2 : (Az (Fb c nets.l)).take (Fb c nets.l).length = Az (Fb c nets.l) := Dl
  have hst : Ce c = Mc [14] c.nodes.l 0 := rfl
  rw [← hst] at e1
  generalize Ro c nets.l = O at *
  generalize Fb c nets.l = N at *
  generalize Ce c = ns at *
  simp [roE, roH, tC, Aa, Ad, Ae, Aw, tV, Nl] at g1 g3
  simp [tC, Aa, Ad, Ae, Aw] at e1
  simp [Y7, tC, Aa, Ad, Ae, Aw, tV]
  refine g1 _ ?_
  simp
  refine Ao e1 rfl ?_
  simp
  refine g3 _ _ _ ?_
  simp [Y8, Ai, t1, t2]
theorem qEY {Q : AX → St → Prop} (c : Bf) (n : Nat) (hn : n ≤ 1000000) (x : Nd) (hxl : x.inn.l.length ≤ 1000000) (hin : ∀ p ∈ x.inn.l, 0 ≤ p ∧ p < n) (nets : List Int) (hl : nets.length = n) (ord : T) (i : Nat) (R : List Int)
    (h0 : Q (.exit 2) ⟨[(2, .t (.ip (tC c) 0)), (5, .ls 12 0 n none), (6, .t ord), (7, .t (tI i)), (8, .lp 8 0 0), (9, .ls 46 0 x.inn.l.length none), (10, .t (tI x.inn.l.length)), (33, .t (tB false))], [(8, .bx ((D4 x).map .t)), (12, .sl 68 1 (Az nets)), (46, .sl 68 1 (Az R))]⟩) :
    ∀ (f j : Nat) (out : List Int), f + j = x.inn.l.length → out.length = j → out ++ (x.inn.l.drop j).map (fun k => nets.getD k.toNat 0) = R →
    run Tryz.prog Γ Lc Q ⟨[(2, .t (.ip (tC c) 0)), (5, .ls 12 0 n none), (6, .t ord), (7, .t (tI i)), (8, .lp 8 0 0), (9, .ls 46 0 j none), (10, .t (tI j))], [(8, .bx ((D4 x).map .t)), (12, .sl 68 1 (Az nets)), (46, .sl 68 1 (Az out))]⟩
  | 0, j, out, h, ho, hR => by
    refine S9 fun K hK => ?_
    have h2 : j = x.inn.l.length := by omega
    rw [List.drop_of_length_le (by omega), List.map_nil, List.append_nil] at hR
    subst hR
    subst h2
    simp [D4, Aw] at h0
    simp [D4, Aw, A5]
    simpa using h0
  | f + 1, j, out, h, ho, hR => by
    refine S9 fun K hK => ?_
    have h2 : j < x.inn.l.length := by omega
    rw [List.drop_eq_getElem_cons h2, List.map_cons] at hR
    have e1 := gE (f := tI) 0 h2
    have e1' := gE' (f := tI) 0 h2
    obtain ⟨p0, p1⟩ := hin _ (List.getElem_mem h2)
    rw [Be h2] at e1 e1'
    generalize x.inn.l[j] = p at *
    have hq : p.toNat < nets.length := by omega
    have hqn : p.toNat < n := by omega
    have e2 := gE (f := tK) 0 hq
    have e2' := gE' (f := tK) 0 hq
    have ih := qEY c n hn x hxl hin nets hl ord i R h0 f (j + 1) (out ++ [nets.getD p.toNat 0]) (by omega) (by simp [ho]) (by rw [← hR]; simp)
    generalize nets.getD p.toNat 0 = v at *
    have vs := N3 (l := out) (v := v)
    have vt : (Az out).take j = Az out := by rw [← ho]; exact Dl
    have w1 : IntKind.i64.wrap ((j : Int) + 1) = (j : Int) + 1 := by rw [A6] <;> omega
    simp [D4, Aw] at ih
    simp [D4, Aw, A5, A9, h2, e1, e1', p0, p1, hq, hqn, hl, e2, e2', vt, vs, ho, w1]
    refine ⟨by omega, ?_⟩
    rw [hK]
    simpa using ih
theorem qEZ {Q : AX → St → Prop} (c : Bf) (H : ROk c) (hk : ∀ i, i < c.nodes.l.length → 0 ≤ As c i ∧ As c i ≤ 15) (hn : c.nodes.l.length ≤ 1000000) (ord : List Int) (oc : Option Nat) (on' : Option Bool) (ho : ord.length ≤ 1000000) (hin : ∀ n ∈ ord, 0 ≤ n ∧ n < c.nodes.l.length) (R : List Int)
    (h0 : Q (.exit 0) ⟨[(2, .t (.ip (tC c) 0)), (5, .ls 12 0 c.nodes.l.length none), (6, .t (.sl (Ah ord) oc on')), (7, .t (tI ord.length)), (18, .t (tB false))], [(12, .sl 68 1 (Az R))]⟩) :
    ∀ (f i : Nat) (nets : List Int), f + i = ord.length → nets.length = c.nodes.l.length → (∀ v ∈ nets, V4 v) → q2Q c (ord.drop i) nets = R →
    run Tryz.prog Γ Ld Q ⟨[(2, .t (.ip (tC c) 0)), (5, .ls 12 0 c.nodes.l.length none), (6, .t (.sl (Ah ord) oc on')), (7, .t (tI i))], [(12, .sl 68 1 (Az nets))]⟩
  | 0, i, nets, h, hl, hv, hR => by
    refine Si fun K hK => ?_
    have h2 : i = ord.length := by omega
    subst h2
    rw [List.drop_length] at hR
    have hR' : nets = R := hR
    subst hR'
    simp [tC, Aa, Ad, Ae, Aw] at h0
    simp [tC, Aa, Ad, Ae, Aw, A5]
    simpa using h0
  | f + 1, i, nets, h, hl, hv, hR => by
    refine Si fun K hK => ?_
    have h2 : i < ord.length := by omega
    rw [List.drop_eq_getElem_cons h2] at hR
    have hR : q2Q c (ord.drop (i + 1)) (Nz c nets ord[i]) = R := hR
    have e1 := gE (f := tI) 0 h2
    have e1' := gE' (f := tI) 0 h2
    have hnn := hin _ (List.getElem_mem h2)
    rw [Be h2] at e1 e1'
    generalize ord[i] = n at *
    have ih := qEZ c H hk hn ord oc on' ho hin R h0 f (i + 1) (Nz c nets n) (by omega) (by rw [q1J]; exact hl) (qAl hv) hR
    have hget := q2Y hnn.1 hnn.2
    have hget' := q5L hnn.1 hnn.2
    have hmem := qA4 hnn.1 hnn.2
    have hxi := H.inn _ hmem
    have hn2 : n.toNat < c.nodes.l.length := by omega
    have hkk : 0 ≤ (nd c n).k ∧ (nd c n).k ≤ 15 := hk n.toNat hn2
    have hinv : F5 c nets n.toNat = (nd c n).inn.l.map fun k => nets.getD k.toNat 0 := rfl
    have hlR : (F5 c nets n.toNat).length = (nd c n).inn.l.length := by rw [hinv]; simp
    have hvR : ∀ v ∈ F5 c nets n.toNat, V4 v := fun v hv' => by
      rw [hinv] at hv'
      obtain ⟨q, hq, rfl⟩ := List.mem_map.1 hv'
      exact q62 hv _
    have hev := q80 (Γ := Γ) (nd c n).k hkk ⟨F5 c nets n.toNat, none, none⟩ (by show (F5 c nets n.toNat).length ≤ _; omega)
    have heq := qDt hkk hvR
    simp only [heq] at hev
    have hcb := Z5 (Γ := Γ) (nd c n).k
    have hst : Nz c nets n = if C3 (nd c n).k then nets.set n.toNat (Oz (nd c n).k (F5 c nets n.toNat)) else nets := rfl
    have g := fun Q h0 => qEY (Γ := Γ) (Q := Q) c c.nodes.l.length hn (nd c n) (by omega) hxi.2 nets hl (.sl (Ah ord) oc on') i (F5 c nets n.toNat) h0 (nd c n).inn.l.length 0 [] (by omega) rfl (by rw [hinv]; simp)
    rw [hst] at ih
    have vt : (Az (F5 c nets n.toNat)).take (nd c n).inn.l.length = Az (F5 c nets n.toNat) := by rw [← hlR]; exact Dl
    generalize F5 c nets n.toNat = RV at *
    generalize nd c n = x at *
    obtain ⟨hn0, hn1⟩ := hnn
    have hn3 : n.toNat < nets.length := by omega
    have w1 : IntKind.i64.wrap ((i : Int) + 1) = (i : Int) + 1 := by rw [A6] <;> omega
    simp [tV] at hev
    simp [tC, Aa, Ad, Ae, Aw, D4, Nl] at g
    simp [tC, Aa, Ad, Ae, Aw, Ab, Bg, A5, A9, h2, e1, e1', hn0, hn1, hn2, hget, hget', D4]
    refine g _ ?_
    simp
    refine A4 hcb rfl ?_
    by_cases hc : C3 x.k = true
    · rw [if_pos hc] at ih
      have hs : (Az nets).set n.toNat [tK (Oz x.k RV)] = Az (nets.set n.toNat (Oz x.k RV)) := Gu
      generalize Oz x.k RV = v at *
      simp [tC, Aa, Ad, Ae, Aw] at ih
      simp [hc, A5, A9, h2, e1, e1']
      refine A4 hev (by simp [Ai, vt]) ?_
      simp [hn0, hn1, hn2, hn3, A5, hl, hs, w1]
      rw [hK]
      simpa using ih
    · rw [if_neg hc] at ih
      simp only [Bool.not_eq_true] at hc
      simp [tC, Aa, Ad, Ae, Aw] at ih
      simp [hc, w1]
      rw [hK]
      simpa using ih
theorem q6S (c : Bf) (hc : COk c) (h : D3 c = 0) (hk : ∀ i, i < c.nodes.l.length → 0 ≤ As c i ∧ As c i ≤ 15) (hn : c.nodes.l.length ≤ 1000000) (hn1 : 1 ≤ c.nodes.l.length) (init : List Int) (hi : init.length = c.nodes.l.length) (hv : ∀ v ∈ init, V4 v) (f : List Int) (hf : qBV c init f) (ic : Option Nat) (inl : Option Bool) : A8 Tryz.prog Γ 60 [.agg (tC c), .sl (Az init) ic inl] (.sl (Az f) none none) := by
  refine Ac q4G rfl ?_
  obtain ⟨o, ⟨v, ho, hol⟩, e1⟩ := q6n (Γ := Γ) c hc h hn
  have hL := q4L h
  have hfo : q2Q c o init = f := by
    rw [ho]
    exact qA1 h (qA6 h hL (by rw [← ho]; exact hol) hi) hf
  have hoin : ∀ n ∈ o, 0 ≤ n ∧ n < c.nodes.l.length := fun n hn => by
    rw [ho] at hn
    exact Q7.1 (Hu.1 hn).1
  have hole : o.length ≤ c.nodes.l.length := by rw [ho]; exact q6O
  have g := fun Q oc on' h0 => qEZ (Γ := Γ) (Q := Q) c (q7p hc h) hk hn o oc on' (by omega) hoin f h0 o.length 0 init (by omega) hi hv (by rw [List.drop_zero]; exact hfo)
  have ht : (Az f).take c.nodes.l.length = Az f := by rw [← hf.1]; exact Dl
  have hne : ¬ init = [] := fun e => by rw [e] at hi; simp at hi; omega
  simp [tC, Aa, Ad, Ae, Aw] at e1 g
  simp [Zn, tC, Aa, Ad, Ae, Aw, A5, A9, hi, hne]
  refine ⟨by omega, ?_⟩
  refine Ao e1 rfl ?_
  simp
  refine g _ _ _ ?_
  simp [Zo, Ai, ht]
end Go.Lg
namespace Go.Lg
open Go
section
variable {P : Program} {Γ : Tables} {Q : AX → St → Prop} {s : St}
/- probecard/netlists.Same (function 20) -/
abbrev Y9 : IC := (.seq (.reg [od 2 (.box true (tm 0)), od 3 (.box true (tm 1)), od 4 (.mv kF)] [kp [2, 3] []]) (.seq (.reg [od 5 (.mv (.func 62))] [kp [2, 3, 5] []]) (.seq (.reg [od 6 (.mv (.func 64))] [kp [2, 3, 5, 6] []]) (.seq (.reg [od 7 (fa 0
 2), od 8 (ld 1 7), od 9 (fa 0 3), od 10 (ld 1 9), om 11 5, od 12 (.call 65 [(tm 8), (tm 10), (tm 11)]), om 13 12, oT 14 (fa 1 2) 13, oT 15 (ld 1 14) 13, oT 16 (fa 1 3) 13, oT 17 (ld 1 16) 13, oT 18 (.call 66 [(tm 15), (tm 17)]) 13,
 od 19 (.pick (tm 13) (tm 18) kF), om 20 19, oT 21 (fa 2 2) 20, oT 22 (ld 1 21) 20, oT 23 (fa 2 3) 20, oT 24 (ld 1 23) 20, oT 25 (.mv (tm 6)) 20, oT 26 (.call 67 [(tm 22), (tm 24), (tm 25)]) 20, od 27 (.pick (tm 20) (tm 26) kF), om
 28 27, oT 29 (fa 3 2) 28, oT 30 (ld 1 29) 28, oT 31 (fa 3 3) 28, oT 32 (ld 1 31) 28, oT 33 (.call 63 [(tm 30), (tm 32)]) 28, od 34 (.pick (tm 28) (tm 33) kF), om 4 34] [kp [4] []]) .ret))))
def Ya : List RV := [.tmp 4]
/- probecard/netlists.Same$1 (function 62) -/
abbrev Va : IC := (.seq (.reg [od 2 (.box true (tm 0)), od 3 (.box true (tm 1)), od 4 (.mv kF)] [kp [2, 3] []]) (.seq (.reg [od 5 (fa 0 2), od 6 (ld 1 5), od 7 (fa 0 3), od 8 (ld 1 7), od 9 (.bin .eql (tm 6) (tm 8)), om 10 9, oT 11 (fa 1 2) 10, oT
 12 (ld 1 11) 10, oT 13 (fa 1 3) 10, oT 14 (ld 1 13) 10, oT 15 (.call 63 [(tm 12), (tm 14)]) 10, od 16 (.pick (tm 10) (tm 15) kF), om 17 16, oT 18 (fa 2 2) 17, oT 19 (ld 1 18) 17, oT 20 (fa 2 3) 17, oT 21 (ld 1 20) 17, oT 22 (.bin
 .eql (tm 19) (tm 21)) 17, od 23 (.pick (tm 17) (tm 22) kF), om 24 23, oT 25 (fa 3 2) 24, oT 26 (ld 1 25) 24, oT 27 (fa 3 3) 24, oT 28 (ld 1 27) 24, oT 29 (.bin .eql (tm 26) (tm 28)) 24, od 30 (.pick (tm 24) (tm 29) kF), om 4 30]
 [kp [4] []]) .ret))
def Vb : List RV := [.tmp 4]
/- probecard/netlists.Same$2 (function 64) -/
abbrev Ss : IC := .gh (.seq (.reg [od 14 (.bin .lss (tm 13) (tm 12))] [kp [0, 1, 12, 13, 14] []]) (.seq (.cond (tm 14) .skip (.exit 0)) (.seq (.block 1 (.seq (.reg [om 15 13, om 5 15] [kp [0, 1, 5, 12, 13] []]) (.seq (.reg [om 16 0, om 17 5, od 18
 (ia 1 16 17), od 19 (ld 1 18), om 20 1, om 21 5, od 22 (ia 1 20 21), od 23 (ld 1 22), od 24 (.bin .neq (tm 19) (tm 23))] [kp [0, 1, 12, 13, 24] []]) (.cond (tm 24) (.seq (.reg [od 4 (.mv kF)] [kp [4] []]) .ret) .skip)))) (.reg [od
 25 (.bin .add (tm 13) (ki 1)), om 13 25] [kp [0, 1, 12, 13] []])))) [kp [0, 1, 12, 13] []]
def Gp : IC := .loop Ss
abbrev Su : IC := (.seq (.reg [od 4 (.mv kF)] [kp [0, 1] []]) (.seq (.seq (.reg [om 6 0, od 7 (le 0 6), om 8 1, od 9 (le 0 8), od 10 (.bin .neq (tm 7) (tm 9))] [kp [0, 1, 10] []]) (.cond (tm 10) (.seq (.reg [od 4 (.mv kF)] [kp [4] []]) .ret) .skip))
 (.seq (.seq (.reg [om 11 0, od 12 (le 0 11), od 13 (.mv (ki 0))] [kp [0, 1, 12, 13] []]) (.block 0 Gp)) (.seq (.reg [od 4 (.mv kT)] [kp [4] []]) .ret))))
theorem N5 (h : ∀ K : St → Prop, K = run P Γ Gp Q → run P Γ Ss (An K Q) s) : run P Γ Gp Q s := Af h
def Sv : List RV := [.tmp 4]
/- slices.Equal[[]string,string] (function 66) -/
abbrev Og : IC := .gh (.seq (.reg [od 14 (.bin .lss (tm 13) (tm 12))] [kp [0, 1, 12, 13, 14] []]) (.seq (.cond (tm 14) .skip (.exit 0)) (.seq (.block 1 (.seq (.reg [om 15 13, om 5 15] [kp [0, 1, 5, 12, 13] []]) (.seq (.reg [om 16 0, om 17 5, od 18
 (ia 1 16 17), od 19 (ld 1 18), om 20 1, om 21 5, od 22 (ia 1 20 21), od 23 (ld 1 22), od 24 (.bin .neq (tm 19) (tm 23))] [kp [0, 1, 12, 13, 24] []]) (.cond (tm 24) (.seq (.reg [od 4 (.mv kF)] [kp [4] []]) .ret) .skip)))) (.reg [od
 25 (.bin .add (tm 13) (ki 1)), om 13 25] [kp [0, 1, 12, 13] []])))) [kp [0, 1, 12, 13] []]
def En : IC := .loop Og
abbrev Oh : IC := (.seq (.reg [od 4 (.mv kF)] [kp [0, 1] []]) (.seq (.seq (.reg [om 6 0, od 7 (le 0 6), om 8 1, od 9 (le 0 8), od 10 (.bin .neq (tm 7) (tm 9))] [kp [0, 1, 10] []]) (.cond (tm 10) (.seq (.reg [od 4 (.mv kF)] [kp [4] []]) .ret) .skip))
 (.seq (.seq (.reg [om 11 0, od 12 (le 0 11), od 13 (.mv (ki 0))] [kp [0, 1, 12, 13] []]) (.block 0 En)) (.seq (.reg [od 4 (.mv kT)] [kp [4] []]) .ret))))
theorem Ji (h : ∀ K : St → Prop, K = run P Γ En Q → run P Γ Og (An K Q) s) : run P Γ En Q s := Af h
def Oi : List RV := [.tmp 4]
/- slices.EqualFunc[[]probecard/api.Node,[]probecard/api.Node,probecard/api.Node,probecard/api.Node] (function 65) -/
abbrev I6 : IC := .gh (.seq (.reg [od 18 (.bin .lss (tm 17) (tm 16))] [kp [1, 2, 15, 16, 17, 18] []]) (.seq (.cond (tm 18) .skip (.exit 0)) (.seq (.block 1 (.seq (.reg [om 19 17, od 20 (ia 4 15 17), od 21 (lG 4 20), od 8 (.alloc false [(.int .u8 0),
 (.slice none 0 0), (.int .i64 0), (.int .i64 0)]), om 7 19, on (.store 4 (tm 8) (tm 21))] [kp [1, 2, 7, 8, 15, 16, 17] [8]]) (.seq (.reg [om 22 1, om 23 7, od 24 (ia 4 22 23), od 25 (lG 4 24), od 9 (.alloc false [(.int .u8 0),
 (.slice none 0 0), (.int .i64 0), (.int .i64 0)]), on (.store 4 (tm 9) (tm 25))] [kp [1, 2, 8, 9, 15, 16, 17] [8, 9]]) (.seq (.reg [om 26 2, od 27 (lG 4 8), od 28 (lG 4 9), od 29 (.callv (tm 26) [(tm 27), (tm 28)]), od 30 (.un .not
 (tm 29))] [kp [1, 2, 15, 16, 17, 30] []]) (.cond (tm 30) (.seq (.reg [od 6 (.mv kF)] [kp [6] []]) .ret) .skip))))) (.reg [od 31 (.bin .add (tm 17) (ki 1)), om 17 31] [kp [1, 2, 15, 16, 17] []])))) [kp [1, 2, 15, 16, 17] []]
def Df : IC := .loop I6
abbrev I7 : IC := (.seq (.reg [od 6 (.mv kF)] [kp [0, 1, 2] []]) (.seq (.seq (.reg [om 10 0, od 11 (le 0 10), om 12 1, od 13 (le 0 12), od 14 (.bin .neq (tm 11) (tm 13))] [kp [0, 1, 2, 14] []]) (.cond (tm 14) (.seq (.reg [od 6 (.mv kF)] [kp [6] []])
 .ret) .skip)) (.seq (.seq (.reg [om 15 0, od 16 (le 0 15), od 17 (.mv (ki 0))] [kp [1, 2, 15, 16, 17] []]) (.block 0 Df)) (.seq (.reg [od 6 (.mv kT)] [kp [6] []]) .ret))))
theorem Ge (h : ∀ K : St → Prop, K = run P Γ Df Q → run P Γ I6 (An K Q) s) : run P Γ Df Q s := Af h
def I8 : List RV := [.tmp 6]
/- slices.EqualFunc[[]probecard/api.Memory,[]probecard/api.Memory,probecard/api.Memory,probecard/api.Memory] (function 67) -/
abbrev Gz : IC := .gh (.seq (.reg [od 18 (.bin .lss (tm 17) (tm 16))] [kp [1, 2, 15, 16, 17, 18] []]) (.seq (.cond (tm 18) .skip (.exit 0)) (.seq (.block 1 (.seq (.reg [om 19 17, od 20 (ia 3 15 17), od 21 (lG 3 20), od 8 (.alloc false [(.slice none
 0 0), (.slice none 0 0), (.int .i64 0)]), om 7 19, on (.store 3 (tm 8) (tm 21))] [kp [1, 2, 7, 8, 15, 16, 17] [8]]) (.seq (.reg [om 22 1, om 23 7, od 24 (ia 3 22 23), od 25 (lG 3 24), od 9 (.alloc false [(.slice none 0 0), (.slice
 none 0 0), (.int .i64 0)]), on (.store 3 (tm 9) (tm 25))] [kp [1, 2, 8, 9, 15, 16, 17] [8, 9]]) (.seq (.reg [om 26 2, od 27 (lG 3 8), od 28 (lG 3 9), od 29 (.callv (tm 26) [(tm 27), (tm 28)]), od 30 (.un .not (tm 29))] [kp [1, 2,
 15, 16, 17, 30] []]) (.cond (tm 30) (.seq (.reg [od 6 (.mv kF)] [kp [6] []]) .ret) .skip))))) (.reg [od 31 (.bin .add (tm 17) (ki 1)), om 17 31] [kp [1, 2, 15, 16, 17] []])))) [kp [1, 2, 15, 16, 17] []]
def Dy : IC := .loop Gz
abbrev H2 : IC := (.seq (.reg [od 6 (.mv kF)] [kp [0, 1, 2] []]) (.seq (.seq (.reg [om 10 0, od 11 (le 0 10), om 12 1, od 13 (le 0 12), od 14 (.bin .neq (tm 11) (tm 13))] [kp [0, 1, 2, 14] []]) (.cond (tm 14) (.seq (.reg [od 6 (.mv kF)] [kp [6] []])
 .ret) .skip)) (.seq (.seq (.reg [om 15 0, od 16 (le 0 15), od 17 (.mv (ki 0))] [kp [1, 2, 15, 16, 17] []]) (.block 0 Dy)) (.seq (.reg [od 6 (.mv kT)] [kp [6] []]) .ret))))
theorem Lp (h : ∀ K : St → Prop, K = run P Γ Dy Q → run P Γ Gz (An K Q) s) : run P Γ Dy Q s := Af h
def H3 : List RV := [.tmp 6]
end
end Go.Lg
namespace Go.Lg
open Go Go.Proofs
theorem q3d : B7 Tryz.prog 20 Y9 35 2 Ya = true := by kernel_rfl
theorem q1W : B7 Tryz.prog 62 Va 31 2 Vb = true := by kernel_rfl
theorem q17 : B7 Tryz.prog 63 Su 26 2 Sv = true := by kernel_rfl
theorem Yb : B7 Tryz.prog 66 Oh 26 2 Oi = true := by kernel_rfl
theorem Rf : B7 Tryz.prog 65 I7 32 3 I8 = true := by kernel_rfl
theorem Oo : B7 Tryz.prog 67 H2 32 3 H3 = true := by kernel_rfl
end Go.Lg
namespace Go.Lg
open Go Go.Proofs
variable {Γ : Tables}
theorem qEa {Q : AX → St → Prop} (c : Bf) (p : Pat) (ns : List Int) (nc : Option Nat) (nn : Option Bool) (n : Nat) (hn : n ≤ 1000000) (hns : ns.length ≤ 1000000) (hin : ∀ x ∈ ns, 0 ≤ x ∧ x < n) (hp : p.inn.l.length = ns.length) (R : List Int)
    (h0 : Q (.exit 0) ⟨[(2, .t (.ip (tC c) 0)), (3, .t (.ip (tP p) 0)), (5, .ls 12 0 n none), (6, .t (.sl (Ah ns) nc nn)), (7, .t (tI ns.length)), (18, .t (tB false))], [(12, .sl 68 1 (Az R))]⟩) :
    ∀ (k i : Nat) (l : List Int), k + i = ns.length → l.length = n → H6 (ns.drop i) (p.inn.l.drop i) l = R →
    run Tryz.prog Γ Qb Q ⟨[(2, .t (.ip (tC c) 0)), (3, .t (.ip (tP p) 0)), (5, .ls 12 0 n none), (6, .t (.sl (Ah ns) nc nn)), (7, .t (tI i))], [(12, .sl 68 1 (Az l))]⟩
  | 0, i, l, h, hl, hR => by
    refine Wg fun K hK => ?_
    have h2 : i = ns.length := by omega
    subst h2
    rw [List.drop_length] at hR
    simp only [H6] at hR
    subst hR
    simp [tC, Aa, Ad, Ae, Aw, tP, tV] at h0
    simp [tC, Aa, Ad, Ae, Aw, tP, tV, A5]
    simpa using h0
  | k + 1, i, l, h, hl, hR => by
    refine Wg fun K hK => ?_
    have h2 : i < ns.length := by omega
    have h3 : i < p.inn.l.length := by omega
    rw [Yz h2 h3] at hR
    have ih := qEa c p ns nc nn n hn hns hin hp R h0 k (i + 1) _ (by omega) (by simp [hl]) hR
    have e1 := gE (f := tI) 0 h2
    have e1' := gE' (f := tI) 0 h2
    have e2 := gE (f := tK) 0 h3
    have e2' := gE' (f := tK) 0 h3
    have hx := hin (ns.getD i 0) (by rw [Be h2]; exact List.getElem_mem h2)
    have hs : ∀ (j : Nat) (v : Int), (Az l).set j [tK v] = Az (l.set j v) := fun j v => Gu
    generalize ns.getD i 0 = x at *
    generalize p.inn.l.getD i 0 = v at *
    have hx2 : x.toNat < n := by omega
    have hx3 : x.toNat < l.length := by omega
    obtain ⟨hx0, hx1⟩ := hx
    have w1 : IntKind.i64.wrap ((i : Int) + 1) = (i : Int) + 1 := by rw [A6] <;> omega
    simp [tC, Aa, Ad, Ae, Aw, tP, tV] at ih
    simp [tC, Aa, Ad, Ae, Aw, tP, tV, A5, A9, h2, h3, e1, e1', e2, e2', hx0, hx1, hx2, hx3, hl, hs, hp, w1]
    rw [hK]
    simpa using ih
theorem qEb {Q : AX → St → Prop} (c : Bf) (p : Pat) (ns : List Int) (nc : Option Nat) (nn : Option Bool) (n : Nat) (hn : n ≤ 1000000) (hns : ns.length ≤ 1000000) (hin : ∀ x ∈ ns, 0 ≤ x ∧ x < n) (hp : p.st.l.length = ns.length) (R : List Int)
    (h0 : Q (.exit 2) ⟨[(2, .t (.ip (tC c) 0)), (3, .t (.ip (tP p) 0)), (5, .ls 12 0 n none), (6, .t (.sl (Ah ns) nc nn)), (8, .t (tI ns.length)), (37, .t (tB false))], [(12, .sl 68 1 (Az R))]⟩) :
    ∀ (k i : Nat) (l : List Int), k + i = ns.length → l.length = n → H6 (ns.drop i) (p.st.l.drop i) l = R →
    run Tryz.prog Γ Qc Q ⟨[(2, .t (.ip (tC c) 0)), (3, .t (.ip (tP p) 0)), (5, .ls 12 0 n none), (6, .t (.sl (Ah ns) nc nn)), (8, .t (tI i))], [(12, .sl 68 1 (Az l))]⟩
  | 0, i, l, h, hl, hR => by
    refine Wh fun K hK => ?_
    have h2 : i = ns.length := by omega
    subst h2
    rw [List.drop_length] at hR
    simp only [H6] at hR
    subst hR
    simp [tC, Aa, Ad, Ae, Aw, tP, tV] at h0
    simp [tC, Aa, Ad, Ae, Aw, tP, tV, A5]
    simpa using h0
  | k + 1, i, l, h, hl, hR => by
    refine Wh fun K hK => ?_
    have h2 : i < ns.length := by omega
    have h3 : i < p.st.l.length := by omega
    rw [Yz h2 h3] at hR
    have ih := qEb c p ns nc nn n hn hns hin hp R h0 k (i + 1) _ (by omega) (by simp [hl]) hR
    have e1 := gE (f := tI) 0 h2
    have e1' := gE' (f := tI) 0 h2
    have e2 := gE (f := tK) 0 h3
    have e2' := gE' (f := tK) 0 h3
    have hx := hin (ns.getD i 0) (by rw [Be h2]; exact List.getElem_mem h2)
    have hs : ∀ (j : Nat) (v : Int), (Az l).set j [tK v] = Az (l.set j v) := fun j v => Gu
    generalize ns.getD i 0 = x at *
    generalize p.st.l.getD i 0 = v at *
    have hx2 : x.toNat < n := by omega
    have hx3 : x.toNat < l.length := by omega
    obtain ⟨hx0, hx1⟩ := hx
    have w1 : IntKind.i64.wrap ((i : Int) + 1) = (i : Int) + 1 := by rw [A6] <;> omega
    simp [tC, Aa, Ad, Ae, Aw, tP, tV] at ih
    simp [tC, Aa, Ad, Ae, Aw, tP, tV, A5, A9, h2, h3, e1, e1', e2, e2', hx0, hx1, hx2, hx3, hl, hs, hp, w1]
    rw [hK]
    simpa using ih
theorem q81 {c : Bf} (hc : NOk c) {p : Pat} (hp : POk c p) : Au Tryz.prog Γ 16 [.agg (tC c), .agg (tP p)] (.sl (Az (F6 c p.inn.l p.st.l)) none none) := by
  refine D7 q6M rfl ?_
  have hn1 := hc.n1
  have hn2 := hc.n2
  have hil := Uy c
  have hsl := Jb c
  have e1 := q2f (Γ := Γ) c hc.ok 0 (by omega)
  have e2 := q2f (Γ := Γ) c hc.ok 14 (by omega)
  have hin1 : ∀ n ∈ Dn c, 0 ≤ n ∧ n < c.nodes.l.length := fun n hn => ⟨(Po n hn).1, (Po n hn).2.1⟩
  have hin2 : ∀ n ∈ Ce c, 0 ≤ n ∧ n < c.nodes.l.length := fun n hn => ⟨(Po n hn).1, (Po n hn).2.1⟩
  have g1 := fun Q nc nn h0 => qEa (Γ := Γ) (Q := Q) c p (Dn c) nc nn c.nodes.l.length (by omega) (by omega) hin1 hp.i (H6 (Dn c) p.inn.l (List.replicate c.nodes.l.length 0)) h0 (Dn c).length 0 (List.replicate c.nodes.l.length 0) (by omega) (by simp) (by rw [List.drop_zero, List.drop_zero])
  have g3 := fun Q nc nn h0 => qEb (Γ := Γ) (Q := Q) c p (Ce c) nc nn c.nodes.l.length (by omega) (by omega) hin2 hp.s (Ur c p.inn.l p.st.l) h0 (Ce c).length 0 (H6 (Dn c) p.inn.l (List.replicate c.nodes.l.length 0)) (by omega) (by rw [Xk]; simp) (by rw [List.drop_zero, List.drop_zero]; rfl)
  have h4 : ∀ v ∈ Ur c p.inn.l p.st.l, V4 v := q3L hp.vs (q3L hp.vi fun v hv => by rw [List.eq_of_mem_replicate hv]; simp [V4])
  have es := fun ic inl => q6S (Γ := Γ) c hc.ok hc.lev (fun i hi => ⟨(hc.k i hi).1, by have := (hc.k i hi).2; omega⟩) (by omega) hn1 (Ur c p.inn.l p.st.l) Pn h4 (F6 c p.inn.l p.st.l) (qCU hc.lev p.inn.l p.st.l) ic inl
  have hll : (Ur c p.inn.l p.st.l).length = c.nodes.l.length := Pn
  have ht : (Az (Ur c p.inn.l p.st.l)).take c.nodes.l.length = Az (Ur c p.inn.l p.st.l) := by rw [← hll]; exact Dl
  have hz : Az (List.replicate c.nodes.l.length (0 : Int)) = List.replicate c.nodes.l.length [tK 0] := by simp [Av]
  rw [hz] at g1
  have hi0 : Mc [0] c.nodes.l 0 = Dn c := rfl
  have hs0 : Mc [14] c.nodes.l 0 = Ce c := rfl
  rw [hi0] at e1
  rw [hs0] at e2
  generalize H6 (Dn c) p.inn.l (List.replicate c.nodes.l.length 0) = L1 at *
  generalize Ur c p.inn.l p.st.l = L2 at *
  generalize F6 c p.inn.l p.st.l = N at *
  generalize Dn c = is at *
  generalize Ce c = ss at *
  simp [tC, Aa, Ad, Ae, Aw, tP, tV] at e1 e2 g1 g3 es
  simp [q1x, tC, Aa, Ad, Ae, Aw, tP, tV, Ab]
  refine ⟨by omega, ?_⟩
  refine Ao e1 rfl ?_
  simp
  refine g1 _ _ _ ?_
  simp
  refine Ao e2 rfl ?_
  simp
  refine g3 _ _ _ ?_
  simp
  refine A4 (es none none) (by simp [Ai, ht]) ?_
  simp [q1y, Ai]
theorem qD2 {Q : AX → St → Prop} (s : Sl Int) (hl : s.l.length ≤ 1000000000) (h0 : Q (.exit 0) ⟨[(0, .t (Aw s)), (1, .t (Aw s)), (12, .t (tI s.l.length)), (13, .t (tI s.l.length)), (14, .t (tB false))], []⟩) :
    ∀ (k i : Nat), k + i = s.l.length → run Tryz.prog Γ Gp Q ⟨[(0, .t (Aw s)), (1, .t (Aw s)), (12, .t (tI s.l.length)), (13, .t (tI i))], []⟩
  | 0, i, h => by
    refine N5 fun K hK => ?_
    have h2 : i = s.l.length := by omega
    subst h2
    simp [Aw] at h0
    simp [Aw]
    simpa using h0
  | k + 1, i, h => by
    refine N5 fun K hK => ?_
    have h2 : i < s.l.length := by omega
    have ih := qD2 s hl h0 k (i + 1) (by omega)
    have e1 := gE (f := tI) 0 h2
    have e1' := gE' (f := tI) 0 h2
    generalize s.l.getD i 0 = x at *
    have w1 : IntKind.i64.wrap ((i : Int) + 1) = (i : Int) + 1 := by rw [A6] <;> omega
    simp [Aw] at ih
    simp [Aw, A5, A9, h2, e1, e1', w1]
    rw [hK]
    simpa using ih
theorem q6T (s : Sl Int) (hl : s.l.length ≤ 1000000000) : A8 Tryz.prog Γ 63 [Aw s, Aw s] (tB true) := by
  refine Ac q17 rfl ?_
  have g := fun Q h0 => qD2 (Γ := Γ) (Q := Q) s hl h0 s.l.length 0 (by omega)
  simp [Aw] at g
  simp [Su, Aw, A5]
  refine g _ ?_
  simp [Sv]
theorem qD3 {Q : AX → St → Prop} (l : List (List UInt8)) (lc : Option Nat) (ln : Option Bool) (hl : l.length ≤ 1000000000) (h0 : Q (.exit 0) ⟨[(0, .t (.sl (Av tS l) lc ln)), (1, .t (.sl (Av tS l) lc ln)), (12, .t (tI l.length)), (13, .t (tI l.length)), (14, .t (tB false))], []⟩) :
    ∀ (k i : Nat), k + i = l.length → run Tryz.prog Γ En Q ⟨[(0, .t (.sl (Av tS l) lc ln)), (1, .t (.sl (Av tS l) lc ln)), (12, .t (tI l.length)), (13, .t (tI i))], []⟩
  | 0, i, h => by
    refine Ji fun K hK => ?_
    have h2 : i = l.length := by omega
    subst h2
    try simp at h0
    simp
    simpa using h0
  | k + 1, i, h => by
    refine Ji fun K hK => ?_
    have h2 : i < l.length := by omega
    have ih := qD3 l lc ln hl h0 k (i + 1) (by omega)
    have e1 := gE (f := tS) [] h2
    have e1' := gE' (f := tS) [] h2
    generalize l.getD i [] = x at *
    have w1 : IntKind.i64.wrap ((i : Int) + 1) = (i : Int) + 1 := by rw [A6] <;> omega
    simp only [tS, sV] at e1 e1'
    try simp at ih
    simp [A5, A9, h2, e1, e1', w1]
    rw [hK]
    simpa using ih
theorem qAA (l : List (List UInt8)) (lc : Option Nat) (ln : Option Bool) (hl : l.length ≤ 1000000000) : A8 Tryz.prog Γ 66 [.sl (Av tS l) lc ln, .sl (Av tS l) lc ln] (tB true) := by
  refine Ac Yb rfl ?_
  have g := fun Q h0 => qD3 (Γ := Γ) (Q := Q) l lc ln hl h0 l.length 0 (by omega)
  try simp at g
  simp [Oh, A5]
  refine g _ ?_
  simp [Oi]
theorem q9I (x : Nd) (hx : x.inn.l.length ≤ 1000000) : A8 Tryz.prog Γ 62 [.agg (D4 x), .agg (D4 x)] (tB true) := by
  refine Ac q1W rfl ?_
  have e := q6T (Γ := Γ) x.inn (by omega)
  simp [Aw] at e
  simp [Va, D4, Aw]
  refine A4 e rfl ?_
  simp [Vb]
theorem qD4 {Q : AX → St → Prop} (l : List Nd) (lc : Option Nat) (ln : Option Bool) (hl : l.length ≤ 1000000) (hx : ∀ x ∈ l, x.inn.l.length ≤ 1000000) (h0 : Q (.exit 0) ⟨[(1, .t (.sl (B1 D4 l) lc ln)), (2, .t (.fn 62 [])), (15, .t (.sl (B1 D4 l) lc ln)), (16, .t (tI l.length)), (17, .t (tI l.length)), (18, .t (tB false))], []⟩) :
    ∀ (k i : Nat), k + i = l.length → run Tryz.prog Γ Df Q ⟨[(1, .t (.sl (B1 D4 l) lc ln)), (2, .t (.fn 62 [])), (15, .t (.sl (B1 D4 l) lc ln)), (16, .t (tI l.length)), (17, .t (tI i))], []⟩
  | 0, i, h => by
    refine Ge fun K hK => ?_
    have h2 : i = l.length := by omega
    subst h2
    try simp at h0
    simp
    simpa using h0
  | k + 1, i, h => by
    refine Ge fun K hK => ?_
    have h2 : i < l.length := by omega
    have ih := qD4 l lc ln hl hx h0 k (i + 1) (by omega)
    have hs := q9I (Γ := Γ) l[i] (hx _ (List.getElem_mem h2))
    have e1 : (B1 D4 l)[i]?.getD [] = D4 l[i] := by simp [B1, h2]
    have e1' : ∀ h, (B1 D4 l)[i]'h = D4 l[i] := fun h => by simp [B1]
    generalize l[i] = x at *
    have w1 : IntKind.i64.wrap ((i : Int) + 1) = (i : Int) + 1 := by rw [A6] <;> omega
    simp only [D4] at e1 e1' hs
    simp only [Aw] at e1 e1' hs
    try simp at ih
    simp [Ab, Bg, h2, e1, e1']
    refine A4 hs rfl ?_
    simp [w1]
    rw [hK]
    simpa using ih
theorem qAB (l : List Nd) (lc : Option Nat) (ln : Option Bool) (hl : l.length ≤ 1000000) (hx : ∀ x ∈ l, x.inn.l.length ≤ 1000000) : A8 Tryz.prog Γ 65 [.sl (B1 D4 l) lc ln, .sl (B1 D4 l) lc ln, .fn 62 []] (tB true) := by
  refine Ac Rf rfl ?_
  have g := fun Q h0 => qD4 (Γ := Γ) (Q := Q) l lc ln hl hx h0 l.length 0 (by omega)
  try simp at g
  simp [I7, Ab]
  refine g _ ?_
  simp [I8]
theorem qAC (lc : Option Nat) (ln : Option Bool) : A8 Tryz.prog Γ 67 [.sl [] lc ln, .sl [] lc ln, .fn 64 []] (tB true) := by
  refine Ac Oo rfl ?_
  simp [H2]
  refine Lp fun K hK => ?_
  simp [H3]
theorem qAD {c : Bf} (hm : c.mems.l = []) (h1 : c.nodes.l.length ≤ 1000000) (h2 : ∀ x ∈ c.nodes.l, x.inn.l.length ≤ 1000000) (h3 : c.names.l.length ≤ 1000000000) (h4 : c.outs.l.length ≤ 1000000000) : A8 Tryz.prog Γ 20 [.agg (tC c), .agg (tC c)] (tB true) := by
  refine Ac q3d rfl ?_
  have e1 := qAB (Γ := Γ) c.nodes.l c.nodes.cap c.nodes.nl h1 h2
  have e2 := qAA (Γ := Γ) c.names.l c.names.cap c.names.nl h3
  have e3 := qAC (Γ := Γ) c.mems.cap c.mems.nl
  have e4 := q6T (Γ := Γ) c.outs h4
  have hmz : B1 tMm c.mems.l = [] := by rw [hm]; rfl
  simp [Aw] at e4
  simp [Y9, tC, Aa, Ad, Ae, Aw, hmz]
  refine A4 e1 rfl ?_
  simp
  refine A4 e2 rfl ?_
  simp
  refine A4 e3 rfl ?_
  simp
  refine A4 e4 rfl ?_
  simp [Ya]
end Go.Lg
namespace Go.Lg
open Go
section
variable {P : Program} {Γ : Tables} {Q : AX → St → Prop} {s : St}
/- probecard/probecardlaw06.SimsRun (function 3) -/
abbrev Yc : IC := (.seq (.reg [od 2 (.box false (tm 0)), od 3 (.box true (tm 1)), od 4 (.mv kF)] [kp [2, 3] [2]]) (.seq (.reg [od 14 (fa 5 2), on (.store 1 (tm 14) kF)] [kp [2, 3] [2]]) (.seq (.reg [od 15 (lG 12 2), od 16 (.call 13 [(tm 15)]), od 5
 (.alloc false [(.slice none 0 0), (.slice none 0 0), (.slice none 0 0), (.slice none 0 0)]), on (.store 4 (tm 5) (tm 16))] [kp [2, 3, 5] [2, 5]]) (.seq (.reg [od 17 (lG 2 3), od 18 (lG 4 5), od 19 (.call 14 [(tm 17), (tm 18)]), od
 6 (.alloc false [(.slice none 0 0), (.slice none 0 0)]), on (.store 2 (tm 6) (tm 19))] [kp [2, 3, 5, 6] [2, 5, 6]]) (.seq (.reg [od 21 (lG 4 5), od 22 (lG 2 6), od 23 (.call 15 [(tm 21), (tm 22)]), om 20 23, od 24 (ex 20 0), od 25
 (ex 20 1), od 26 (ex 20 2), od 7 (.alloc false [(.slice none 0 0), (.slice none 0 0)]), on (.store 2 (tm 7) (tm 24)), om 8 25, om 9 26] [kp [2, 3, 5, 6, 7, 8, 9] [2, 5, 6, 7]]) (.seq (.reg [od 27 (lG 12 2), od 28 (.call 13 [(tm
 27)]), od 29 (lG 2 3), od 30 (lG 4 5), od 31 (.call 14 [(tm 29), (tm 30)]), od 32 (.call 16 [(tm 28), (tm 31)]), om 10 32] [kp [2, 3, 5, 6, 7, 8, 9, 10] [2, 5, 6, 7]]) (.seq (.reg [od 33 (lG 12 2), od 34 (.call 13 [(tm 33)]), om 35
 10, od 36 (.call 17 [(tm 34), (tm 35)]), od 11 (.alloc false [(.slice none 0 0), (.slice none 0 0)]), on (.store 2 (tm 11) (tm 36))] [kp [2, 3, 5, 6, 7, 8, 9, 10, 11] [2, 5, 6, 7, 11]]) (.seq (.reg [od 37 (lG 4 5), om 38 8, od 39
 (.call 18 [(tm 37), (tm 38)]), od 12 (.alloc false [(.slice none 0 0), (.slice none 0 0)]), on (.store 2 (tm 12) (tm 39))] [kp [2, 3, 5, 6, 7, 8, 9, 10, 11, 12] [2, 5, 6, 7, 11, 12]]) (.seq (.reg [od 40 (lG 2 3), od 41 (lG 4 5), od
 42 (.call 14 [(tm 40), (tm 41)]), od 13 (.alloc false [(.slice none 0 0), (.slice none 0 0)]), on (.store 2 (tm 13) (tm 42))] [kp [2, 5, 6, 7, 8, 9, 10, 11, 12, 13] [2, 5, 6, 7, 11, 12, 13]]) (.seq (.seq (.reg [om 43 9, od 44 (.bin
 .neq (tm 43) (ki 0)), om 45 44, oF 46 (.mv (tm 8)) 45, oF 47 (.mv (tm 10)) 45, oF 48 (.call 19 [(tm 46), (tm 47)]) 45, oF 49 (.bin .neq (tm 48) (ki 0)) 45, od 50 (.pick (tm 45) kT (tm 49)), om 51 50, oF 52 (fa 0 7) 51, oF 53 (ld 1
 52) 51, oF 54 (fa 0 11) 51, oF 55 (ld 1 54) 51, oF 56 (.call 19 [(tm 53), (tm 55)]) 51, oF 57 (.bin .neq (tm 56) (ki 0)) 51, od 58 (.pick (tm 51) kT (tm 57)), om 59 58, oF 60 (fa 1 7) 59, oF 61 (ld 1 60) 59, oF 62 (fa 1 11) 59, oF
 63 (ld 1 62) 59, oF 64 (.call 19 [(tm 61), (tm 63)]) 59, oF 65 (.bin .neq (tm 64) (ki 0)) 59, od 66 (.pick (tm 59) kT (tm 65)), om 67 66, oF 68 (.mv (tm 8)) 67, oF 69 (.cap (tm 68)) 67, oF 70 (.mv (tm 8)) 67, oF 71 (le 0 70) 67, oF
 72 (.bin .neq (tm 69) (tm 71)) 67, od 73 (.pick (tm 67) kT (tm 72)), om 74 73, oF 75 (fa 0 7) 74, oF 76 (ld 1 75) 74, oF 77 (.cap (tm 76)) 74, oF 78 (fa 0 7) 74, oF 79 (ld 1 78) 74, oF 80 (le 0 79) 74, oF 81 (.bin .neq (tm 77) (tm
 80)) 74, od 82 (.pick (tm 74) kT (tm 81)), om 83 82, oF 84 (fa 1 7) 83, oF 85 (ld 1 84) 83, oF 86 (.cap (tm 85)) 83, oF 87 (fa 1 7) 83, oF 88 (ld 1 87) 83, oF 89 (le 0 88) 83, oF 90 (.bin .neq (tm 86) (tm 89)) 83, od 91 (.pick (tm
 83) kT (tm 90))] [kp [2, 5, 6, 7, 12, 13, 91] [2, 5, 6, 7, 12, 13]]) (.cond (tm 91) (.seq (.reg [od 4 (.mv kF)] [kp [4] []]) .ret) .skip)) (.seq (.reg [od 92 (fa 0 12), od 93 (ld 1 92), od 94 (fa 0 7), od 95 (ld 1 94), od 96 (.call
 19 [(tm 93), (tm 95)]), od 97 (.bin .eql (tm 96) (ki 0)), om 98 97, oT 99 (fa 1 12) 98, oT 100 (ld 1 99) 98, oT 101 (fa 1 7) 98, oT 102 (ld 1 101) 98, oT 103 (.call 19 [(tm 100), (tm 102)]) 98, oT 104 (.bin .eql (tm 103) (ki 0))
 98, od 105 (.pick (tm 98) (tm 104) kF), om 106 105, oT 107 (fa 0 6) 106, oT 108 (ld 1 107) 106, oT 109 (fa 0 13) 106, oT 110 (ld 1 109) 106, oT 111 (.call 19 [(tm 108), (tm 110)]) 106, oT 112 (.bin .eql (tm 111) (ki 0)) 106, od 113
 (.pick (tm 106) (tm 112) kF), om 114 113, oT 115 (fa 1 6) 114, oT 116 (ld 1 115) 114, oT 117 (fa 1 13) 114, oT 118 (ld 1 117) 114, oT 119 (.call 19 [(tm 116), (tm 118)]) 114, oT 120 (.bin .eql (tm 119) (ki 0)) 114, od 121 (.pick
 (tm 114) (tm 120) kF), om 122 121, oT 123 (lG 4 5) 122, oT 124 (lG 12 2) 122, oT 125 (.call 13 [(tm 124)]) 122, oT 126 (.call 20 [(tm 123), (tm 125)]) 122, od 127 (.pick (tm 122) (tm 126) kF), om 128 127, oT 129 (.call 21 []) 128,
 od 130 (.pick (tm 128) (tm 129) kF), om 4 130] [kp [4] []]) .ret)))))))))))
def Yd : List RV := [.tmp 4]
end
end Go.Lg
namespace Go.Lg
open Go Go.Proofs
theorem q3e : B7 Tryz.prog 3 Yc 131 2 Yd = true := by kernel_rfl
end Go.Lg
namespace Go.Lg
open Go Go.Proofs
variable {Γ : Tables}
theorem q82 (c : Bf) (hc : COk c) (nets : Sl Int) (hl : nets.l.length ≤ 1000000000) : Au Tryz.prog Γ 18 [.agg (tC c), tV nets] (.agg [tVs (Ro c nets.l), tVs (Fb c nets.l)]) := by
  refine D7 Xu rfl ?_
  have h := Z1 (Γ := Γ) c hc nets hl
  generalize Ro c nets.l = O at *
  generalize Fb c nets.l = N at *
  simp [Z0, Aa, Ad, Ae, Aw, tV] at h
  simp [Rm, tC, Aa, Ad, Ae, Aw, tV]
  refine A4 h rfl ?_
  simp [Rn, tVs]
set_option maxHeartbeats 2000000 in
theorem qEc (hΓ : GOk Γ) (x : CD) (hx : q2M x) (q : PD) (hq : qCe q) : Au Tryz.prog Γ 3 [.agg (L6 x), .agg (tPD q)] (tB true) := by
  refine D7 q3e rfl ?_
  have hx' := qCs hx
  have hc := qFa hx' rfl
  have hof := qDe (Γ := Γ) (qCr x) hx'
  generalize Ol (qCr x) = c at *
  have ho4 := hc.ok.outs
  have hnm := hc.ok.names
  have hn1 := hc.n1
  have hn2 := hc.n2
  have hil := Uy c
  have hsl := Jb c
  have hP := qCt hq c
  have hpo := qBe (Γ := Γ) q hq c hc.ok
  have hPi : (q7L q c).inn.l.length = (Dn c).length := hP.i
  have hPs : (q7L q c).st.l.length = (Ce c).length := hP.s
  generalize q7L q c = p at *
  have hrun := qFb hΓ hc hP
  have href := q81 (Γ := Γ) hc hP
  have hnl : (F6 c p.inn.l p.st.l).length = c.nodes.l.length := qCu
  have hro := q59 (Γ := Γ) c hc.ok ⟨F6 c p.inn.l p.st.l, none, none⟩ (by show (F6 c p.inn.l p.st.l).length ≤ _; omega) ho4 (by omega)
  have hob := q82 (Γ := Γ) c hc.ok ⟨F6 c p.inn.l p.st.l, some c.nodes.l.length, none⟩ (by show (F6 c p.inn.l p.st.l).length ≤ _; omega)
  have hsame := qAD (Γ := Γ) hc.mm (by omega) (fun y hy => by have := ((q7p hc.ok hc.lev).inn y hy).1; omega) hnm ho4
  have hol : (Ro c (F6 c p.inn.l p.st.l)).length ≤ 1000000000 := by unfold Ro; rw [List.length_map]; exact ho4
  have hxl : (Fb c (F6 c p.inn.l p.st.l)).length ≤ 1000000000 := by unfold Fb; rw [List.length_map]; omega
  simp only at hro hob
  generalize Ro c (F6 c p.inn.l p.st.l) = O at *
  generalize Fb c (F6 c p.inn.l p.st.l) = X at *
  generalize F6 c p.inn.l p.st.l = N at *
  have sameT : ∀ (l : List Int) (c1 c2 : Option Nat) (n1 n2 : Option Bool), l.length ≤ 1000000000 → A8 Tryz.prog Γ 19 [.sl (Az l) c1 n1, .sl (Az l) c2 n2] (tI 0) := fun l c1 c2 n1 n2 hl => by
    have := qBa (Γ := Γ) ⟨l, c1, n1⟩ ⟨l, c2, n2⟩ (by show l.length ≤ _; omega)
    have e : q7I l l = 0 := by unfold q7I; rw [if_pos rfl]
    simpa [tV, e] using this
  have s1 := fun c1 c2 n1 n2 => sameT N c1 c2 n1 n2 (by omega)
  have s2 := fun c1 c2 n1 n2 => sameT O c1 c2 n1 n2 hol
  have s3 := fun c1 c2 n1 n2 => sameT X c1 c2 n1 n2 hxl
  have s4 := fun c1 c2 n1 n2 => sameT p.inn.l c1 c2 n1 n2 (by omega)
  have s5 := fun c1 c2 n1 n2 => sameT p.st.l c1 c2 n1 n2 (by omega)
  simp [tC, Aa, Ad, Ae, Aw, tP, tV, tVs] at hpo hrun href hro hob hsame
  simp [Yc, L6, tPD, tV]
  refine Ao hof rfl ?_
  simp [tC, Aa, Ad, Ae, Aw]
  refine A4 hpo rfl ?_
  simp [tP, tV]
  refine Ao hrun rfl ?_
  simp [tVs]
  refine Ao hof rfl ?_
  simp [tC, Aa, Ad, Ae, Aw]
  refine A4 hpo rfl ?_
  simp
  refine Ao href rfl ?_
  simp
  refine Ao hof rfl ?_
  simp [tC, Aa, Ad, Ae, Aw]
  refine Ao hro rfl ?_
  simp
  refine Ao hob rfl ?_
  simp
  refine A4 hpo rfl ?_
  simp
  refine A4 (s1 _ _ _ _) rfl ?_
  simp
  refine A4 (s2 _ _ _ _) rfl ?_
  simp
  refine A4 (s3 _ _ _ _) rfl ?_
  simp [A5, hnl]
  refine A4 (s2 _ _ _ _) rfl ?_
  simp
  refine A4 (s3 _ _ _ _) rfl ?_
  simp
  refine A4 (s4 _ _ _ _) rfl ?_
  simp
  refine A4 (s5 _ _ _ _) rfl ?_
  simp
  refine Ao hof rfl ?_
  simp [tC, Aa, Ad, Ae, Aw]
  refine A4 hsame rfl ?_
  simp
  refine Ao (q7r hΓ) rfl ?_
  simp [Yd, Ai]
end Go.Lg
