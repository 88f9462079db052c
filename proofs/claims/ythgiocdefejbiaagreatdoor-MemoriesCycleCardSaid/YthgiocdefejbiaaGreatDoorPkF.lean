/- The reference's functions of the gates: buses, and the kinds that do not count. Conditions: none. -/
import Derived.Test.YthgiocdefejbiaaGreatDoorPkE
import Derived.Test.YthgiocdefejbiaaGreatDoorPkD
import Derived.Test.YthgiocdefejbiaaGreatDoorPkC
import Derived.Test.YthgiocdefejbiaaGreatDoorProg
import Derived.KernelRfl
set_option linter.unusedSimpArgs false
set_option linter.unusedVariables false
set_option maxRecDepth 100000
namespace Go.Lg
open Go Go.Proofs
theorem q9p {y : Int} {ys l : List Int} (h4 : ∀ v ∈ l, V4 v) (h : Chs true ys l) (hy : y = 0 ∨ y = 1) (hm : y ∈ ys) : y ∈ l ∨ 2 ∈ l := by
 obtain ⟨v, hv, hc⟩ := q7W h hm
 have := h4 v hv
 unfold V4 at this
 have h4' : v = 0 ∨ v = 1 ∨ v = 2 ∨ v = 3 := by omega
 rcases h4' with rfl | rfl | rfl | rfl
 ·rw [ch0 _ hc]; exact .inl hv
 ·rw [ch1 _ hc]; exact .inl hv
 ·exact .inr hv
 ·simp [By] at hc; omega
theorem qK8 {l : List Int} (h4 : ∀ v ∈ l, V4 v) : q6Z (M3 13 l) = q8K l := by
 have hk' : 5 ≤ (13 : Int) ∧ (13 : Int) ≤ 10 ∨ (13 : Int) = 13 := by omega
 have hf : ∀ z o, q1C 13 z o = if o + z = 0 then 2 else if 0 < o ∧ 0 < z then 3 else Jx (decide (0 < o)) := fun z o => by unfold q1C; simp
 have hd : decide ((13 : Int) = 13) = true := rfl
 unfold q8K
 cases hfi : l.findIdx? qDu with
 | none =>
  have hz : ∀ v ∈ l, v = 3 := fun v hv => by
   have := List.findIdx?_eq_none_iff.1 hfi v hv
   simpa [qDu] using this
  rw [Ru (a := 2) (Yh hk') fun x hx => by
   obtain ⟨ys, hc, rfl⟩ := (F8 hk').1 hx
   rw [hd] at hc
   have n0 : Ba ys 0 = 0 := Rw.2 fun hm => by
    rcases q9p h4 hc (.inl rfl) hm with h | h <;> have := hz _ h <;> omega
   have n1 : Ba ys 1 = 0 := Rw.2 fun hm => by
    rcases q9p h4 hc (.inr rfl) hm with h | h <;> have := hz _ h <;> omega
   rw [n0, n1, hf]; rfl]
  rfl
 | some i =>
  obtain ⟨hi, hdi, _⟩ := List.findIdx?_eq_some_iff_getElem.1 hfi
  have hm : l[i] ∈ l := List.getElem_mem hi
  have hgi : l.getD i 0 = l[i] := B5 hi
  simp only [hgi]
  have hdi : ¬ l[i] = 3 := by simpa [qDu] using hdi
  have hconf : q3k l = true ↔ (0 : Int) ∈ l ∧ (1 : Int) ∈ l := by simp [q3k]
  have hunk : l.any qDt = true ↔ (2 : Int) ∈ l := by
   rw [List.any_eq_true]
   constructor
   ·rintro ⟨v, hv, h⟩
    have := h4 v hv
    unfold V4 at this
    have hcl : Du v = v := by unfold Du; rw [if_neg (by omega)]
    have h2 : Du v = 2 := of_decide_eq_true h
    rw [hcl] at h2
    exact h2 ▸ hv
   ·intro h; exact ⟨2, h, by simp [qDt, Du]⟩
  by_cases hc : (0 : Int) ∈ l ∧ (1 : Int) ∈ l
  ·rw [if_pos (.inl (hconf.2 hc)), Ru (a := 3) (Yh hk') fun x hx => by
    obtain ⟨ys, hcs, rfl⟩ := (F8 hk').1 hx
    have n0 := P2.2 (q2X hcs ch0 hc.1)
    have n1 := P2.2 (q2X hcs ch1 hc.2)
    rw [hf, if_neg (by omega), if_pos ⟨n1, n0⟩]]
   rfl
  by_cases hu : (2 : Int) ∈ l
  ·rw [if_pos (.inr (hunk.2 hu))]
   have m0 : q1C 13 (Ba (l.map to0) 0) (Ba (l.map to0) 1) ∈ M3 13 l := (F8 hk').2 ⟨_, Vk fun v _ => qM6, rfl⟩
   have m1 : q1C 13 (Ba (l.map to1) 0) (Ba (l.map to1) 1) ∈ M3 13 l := (F8 hk').2 ⟨_, Vk fun v _ => qM7, rfl⟩
   have a0 : 0 < Ba (l.map to0) 0 := P2.2 (List.mem_map.2 ⟨2, hu, rfl⟩)
   have a1 : 0 < Ba (l.map to1) 1 := P2.2 (List.mem_map.2 ⟨2, hu, rfl⟩)
   have b1 : 0 < Ba (l.map to0) 1 ↔ (1 : Int) ∈ l := by
    rw [P2, List.mem_map]
    constructor
    ·rintro ⟨v, hv, e⟩
     unfold to0 at e
     split at e
     ·rename_i h; exact h ▸ hv
     ·split at e <;> omega
    ·intro h; exact ⟨1, h, rfl⟩
   have b0 : 0 < Ba (l.map to1) 0 ↔ (0 : Int) ∈ l := by
    rw [P2, List.mem_map]
    constructor
    ·rintro ⟨v, hv, e⟩
     unfold to1 at e
     split at e
     ·rename_i h; exact h ▸ hv
     ·split at e <;> omega
    ·intro h; exact ⟨0, h, rfl⟩
   refine q7V m0 m1 ?_
   have A0 := hf (Ba (l.map to0) 0) (Ba (l.map to0) 1)
   have B0 := hf (Ba (l.map to1) 0) (Ba (l.map to1) 1)
   rw [if_neg (show ¬ Ba (l.map to0) 1 + Ba (l.map to0) 0 = 0 by omega)] at A0
   rw [if_neg (show ¬ Ba (l.map to1) 1 + Ba (l.map to1) 0 = 0 by omega)] at B0
   by_cases h1 : (1 : Int) ∈ l
   ·have h0 : ¬ (0 : Int) ∈ l := fun h => hc ⟨h, h1⟩
    have c1 := b1.2 h1
    have c0 : ¬ 0 < Ba (l.map to1) 0 := fun h => h0 (b0.1 h)
    rw [if_pos (show 0 < Ba (l.map to0) 1 ∧ 0 < Ba (l.map to0) 0 from ⟨c1, a0⟩)] at A0
    rw [if_neg (show ¬ (0 < Ba (l.map to1) 1 ∧ 0 < Ba (l.map to1) 0) from fun h => c0 h.2)] at B0
    rw [A0, B0]
    simp [Jx, a1]
   ·have c1 : ¬ 0 < Ba (l.map to0) 1 := fun h => h1 (b1.1 h)
    rw [if_neg (show ¬ (0 < Ba (l.map to0) 1 ∧ 0 < Ba (l.map to0) 0) from fun h => c1 h.1)] at A0
    by_cases h0 : (0 : Int) ∈ l
    ·rw [if_pos (show 0 < Ba (l.map to1) 1 ∧ 0 < Ba (l.map to1) 0 from ⟨a1, b0.2 h0⟩)] at B0
     rw [A0, B0]
     simp [Jx, c1]
    ·rw [if_neg (show ¬ (0 < Ba (l.map to1) 1 ∧ 0 < Ba (l.map to1) 0) from fun h => h0 (b0.1 h.2))] at B0
     rw [A0, B0]
     simp [Jx, c1, a1]
  ·rw [if_neg (fun h => h.elim (fun h => hc (hconf.1 h)) fun h => hu (hunk.1 h))]
   have h4i := h4 _ hm
   unfold V4 at h4i
   have h2 : ¬ l[i] = 2 := fun e => hu (e ▸ hm)
   have h01 : l[i] = 0 ∨ l[i] = 1 := by omega
   generalize l[i] = a at *
   rw [Ru (a := a) (Yh hk') fun x hx => by
    obtain ⟨ys, hcs, rfl⟩ := (F8 hk').1 hx
    rw [hd] at hcs
    rcases h01 with rfl | rfl
    ·have n0 := P2.2 (q2X hcs ch0 hm)
     have n1 : Ba ys 1 = 0 := Rw.2 fun h => (q9p h4 hcs (.inr rfl) h).elim (fun h => hc ⟨hm, h⟩) hu
     rw [n1, hf, if_neg (by omega), if_neg (by omega)]; rfl
    ·have n1 := P2.2 (q2X hcs ch1 hm)
     have n0 : Ba ys 0 = 0 := Rw.2 fun h => (q9p h4 hcs (.inl rfl) h).elim (fun h => hc ⟨h, hm⟩) hu
     rw [n0, hf, if_neg (by omega), if_neg (by omega)]
     simp [Jx, n1]]
   rcases h01 with rfl | rfl <;> rfl
def X5 (k : Int) (ins : List Int) : Nat → List Int → List Int
 | 0, l => [Jq k l]
 | n + 1, l => (By (ins.getD l.length 0) (decide (k = 13))).flatMap fun y => X5 k ins n (l ++ [y])
def Jy (k : Int) (n : Nat) : Bool :=
 if k = 1 ∨ k = 2 then decide (n = 0) else if k = 3 ∨ k = 4 then decide (n = 1) else if k = 11 then decide (n = 3) else if k = 12 then decide (n = 2) else
 if k = 13 then decide (1 ≤ n ∧ n ≤ 16) else decide (5 ≤ k ∧ k ≤ 10 ∧ 2 ≤ n ∧ n ≤ 16)
def qK9 (k : Int) (l : List Int) : Int := if Jy k l.length then q6Z (if 5 ≤ k ∧ k ≤ 10 ∨ k = 13 then M3 k l else X5 k l l.length []) else 2
theorem Zw {v : Int} (h : V4 v) : v = 0 ∨ v = 1 ∨ v = 2 ∨ v = 3 := by unfold V4 at h; omega
theorem qKA {k : Int} (hk : 0 ≤ k ∧ k ≤ 15) {l : List Int} (h4 : ∀ v ∈ l, V4 v) : qK9 k l = Tz k l := by
 have hkc : k = 0 ∨ k = 1 ∨ k = 2 ∨ k = 3 ∨ k = 4 ∨ k = 5 ∨ k = 6 ∨ k = 7 ∨ k = 8 ∨ k = 9 ∨ k = 10 ∨ k = 11 ∨ k = 12 ∨ k = 13 ∨ k = 14 ∨ k = 15 := by omega
 unfold qK9 Tz
 rcases hkc with rfl | rfl | rfl | rfl | rfl | rfl | rfl | rfl | rfl | rfl | rfl | rfl | rfl | rfl | rfl | rfl
 ·simp [Jy, Ht, O5, Uh, Dy]
 ·cases l with
  | nil => rfl
  | cons a l => simp [Jy, Ht, O5, Uh]
 ·cases l with
  | nil => rfl
  | cons a l => simp [Jy, Ht, O5, Uh]
 ·match l, h4 with
  | [], _ => rfl
  | [a], h4 => rcases Zw (h4 a (by simp)) with rfl | rfl | rfl | rfl <;> rfl
  | a :: b :: l, _ => simp [Jy, Ht, O5, Uh]; omega
 ·match l, h4 with
  | [], _ => rfl
  | [a], h4 => rcases Zw (h4 a (by simp)) with rfl | rfl | rfl | rfl <;> rfl
  | a :: b :: l, _ => simp [Jy, Ht, O5, Uh]; omega
 ·have e := qGL (k := 5) (.inl rfl) h4
  simp [Jy, Ht, O5, Uh, Dy, e]; (repeat' split) <;> first | rfl | omega
 ·have e := qGL (k := 6) (.inr rfl) h4
  simp [Jy, Ht, O5, Uh, Dy, e]; (repeat' split) <;> first | rfl | omega
 ·have e := qIX (k := 7) (.inl rfl) h4
  simp [Jy, Ht, O5, Uh, Dy, e]; (repeat' split) <;> first | rfl | omega
 ·have e := qIX (k := 8) (.inr rfl) h4
  simp [Jy, Ht, O5, Uh, Dy, e]; (repeat' split) <;> first | rfl | omega
 ·have e := qGM (k := 9) (.inl rfl) h4
  simp [Jy, Ht, O5, Uh, Dy, e]; (repeat' split) <;> first | rfl | omega
 ·have e := qGM (k := 10) (.inr rfl) h4
  simp [Jy, Ht, O5, Uh, Dy, e]; (repeat' split) <;> first | rfl | omega
 ·match l, h4 with
  | [], _ => rfl
  | [a], _ => rfl
  | [a, b], _ => rfl
  | [a, b, d], h4 =>
   rcases Zw (h4 a (by simp)) with rfl | rfl | rfl | rfl <;> rcases Zw (h4 b (by simp)) with rfl | rfl | rfl | rfl <;> rcases Zw (h4 d (by simp)) with rfl | rfl | rfl | rfl <;> rfl
  | a :: b :: d :: e :: l, _ => simp [Jy, Ht, O5, Uh]; omega
 ·match l, h4 with
  | [], _ => rfl
  | [a], _ => rfl
  | [a, b], h4 =>
   rcases Zw (h4 a (by simp)) with rfl | rfl | rfl | rfl <;> rcases Zw (h4 b (by simp)) with rfl | rfl | rfl | rfl <;> rfl
  | a :: b :: d :: l, _ => simp [Jy, Ht, O5, Uh]; omega
 ·have e := qK8 h4
  simp [Jy, Ht, O5, Uh, Dy, e]; (repeat' split) <;> first | rfl | omega
 ·simp [Jy, Ht, O5, Uh, Dy]
 ·simp [Jy, Ht, O5, Uh, Dy]
def Gt (i : Nat) : List Int → List Int → Bool → List Int × Bool
 | [], out, b => (out, b)
 | p :: l, out, b => if out.getD i 0 < out.getD p.toNat 0 + 1 then Gt i l (out.set i (out.getD p.toNat 0 + 1)) true else Gt i l out b
def O8 (c : Bd) (i : Nat) (s : List Int × Bool) : List Int × Bool := if Cd (Ap c i) then Gt i (F4 c i) s.1 s.2 else s
def L8 (c : Bd) : Nat → Nat → List Int × Bool → List Int × Bool
 | 0, _, s => s
 | k + 1, i, s => L8 c k (i + 1) (O8 c i s)
def q5d (c : Bd) (out : List Int) : List Int × Bool := L8 c c.nodes.l.length 0 (out, false)
def qCE (c : Bd) : Nat → List Int → List Int
 | 0, out => out
 | f + 1, out => if (q5d c out).2 then qCE c f (q5d c out).1 else (q5d c out).1
def X6 (c : Bd) : List Int := qCE c (c.nodes.l.length + 1) (List.replicate c.nodes.l.length 0)
def q7g (c : Bd) (out : List Int) (i : Nat) : Prop := Cd (Ap c i) = true → ∀ p ∈ F4 c i, out.getD p.toNat 0 + 1 ≤ out.getD i 0
theorem q8X {i : Nat} : ∀ {l out : List Int} {b : Bool}, i < out.length → (∀ p ∈ l, p.toNat ≠ i) →
  (Gt i l out b).1.length = out.length ∧ (∀ j, j ≠ i → (Gt i l out b).1.getD j 0 = out.getD j 0) ∧ out.getD i 0 ≤ (Gt i l out b).1.getD i 0 ∧ (∀ p ∈ l, out.getD p.toNat 0 + 1 ≤ (Gt i l out b).1.getD i 0) ∧
  ((∀ p ∈ l, out.getD p.toNat 0 + 1 ≤ out.getD i 0) → Gt i l out b = (out, b)) ∧ ((Gt i l out b).2 = false → (Gt i l out b).1 = out ∧ b = false)
 | [], out, b, hi, hp => ⟨rfl, fun _ _ => rfl, Int.le_refl _, fun _ h => by simp at h, fun _ => rfl, fun h => ⟨rfl, h⟩⟩
 | p :: l, out, b, hi, hp => by
  have hpi := hp p List.mem_cons_self
  have hpl := fun q hq => hp q (List.mem_cons_of_mem p hq)
  by_cases h : out.getD i 0 < out.getD p.toNat 0 + 1
  ·obtain ⟨h1, h2, h3, h4, h5, h6⟩ := q8X (l := l) (out := out.set i (out.getD p.toNat 0 + 1)) (b := true) (by rw [List.length_set]; exact hi) hpl
   have e : Gt i (p :: l) out b = Gt i l (out.set i (out.getD p.toNat 0 + 1)) true := by simp only [Gt]; rw [if_pos h]
   have hs : (out.set i (out.getD p.toNat 0 + 1)).getD i 0 = out.getD p.toNat 0 + 1 := by rw [Ej hi, if_pos rfl]
   have ho : ∀ j, j ≠ i → (out.set i (out.getD p.toNat 0 + 1)).getD j 0 = out.getD j 0 := fun j hj => by rw [Ej hi, if_neg hj]
   rw [e]
   rw [hs] at h3
   refine ⟨by rw [h1, List.length_set], fun j hj => by rw [h2 j hj, ho j hj], by omega, fun q hq => ?_, fun hall => ?_, fun hf => ?_⟩
   ·rcases List.mem_cons.1 hq with rfl | hq
    ·omega
    ·have := h4 q hq
     rwa [ho _ (hpl q hq)] at this
   ·have := hall p List.mem_cons_self
    omega
   ·have := (h6 hf).2
    cases this
  ·obtain ⟨h1, h2, h3, h4, h5, h6⟩ := q8X (l := l) (out := out) (b := b) hi hpl
   have e : Gt i (p :: l) out b = Gt i l out b := by simp only [Gt]; rw [if_neg h]
   rw [e]
   refine ⟨h1, h2, h3, fun q hq => ?_, fun hall => h5 fun q hq => hall q (List.mem_cons_of_mem _ hq), h6⟩
   rcases List.mem_cons.1 hq with rfl | hq
   ·omega
   ·exact h4 q hq
structure Plc (c : Bd) (φ : Nat → Nat) : Prop where
 lt : ∀ i, i < c.nodes.l.length → φ i < c.nodes.l.length
 dn : ∀ i, i < c.nodes.l.length → Cd (Ap c i) = true → ∀ p ∈ F4 c i, p.toNat < c.nodes.l.length ∧ φ p.toNat < φ i
theorem Plc.ne {c : Bd} {φ : Nat → Nat} (h : Plc c φ) {i : Nat} (hi : i < c.nodes.l.length) (hc : Cd (Ap c i) = true) : ∀ p ∈ F4 c i, p.toNat ≠ i := fun p hp e => by
 have := (h.dn i hi hc p hp).2
 rw [e] at this
 omega
theorem qCF {c : Bd} {φ : Nat → Nat} (h : Plc c φ) {i : Nat} (hi : i < c.nodes.l.length) {out : List Int} {b : Bool} (hl : out.length = c.nodes.l.length) :
  (O8 c i (out, b)).1.length = c.nodes.l.length ∧ (∀ j, j ≠ i → (O8 c i (out, b)).1.getD j 0 = out.getD j 0) ∧ q7g c (O8 c i (out, b)).1 i ∧ (q7g c out i → O8 c i (out, b) = (out, b)) ∧ ((O8 c i (out, b)).2 = false → (O8 c i (out, b)).1 = out ∧ b = false) ∧
  ((∀ j, j < c.nodes.l.length → 0 ≤ out.getD j 0 ∧ out.getD j 0 ≤ φ j) → ∀ j, j < c.nodes.l.length → 0 ≤ (O8 c i (out, b)).1.getD j 0 ∧ (O8 c i (out, b)).1.getD j 0 ≤ φ j) := by
 unfold O8
 by_cases hc : Cd (Ap c i) = true
 ·rw [if_pos hc]
  have hne := h.ne hi hc
  obtain ⟨h1, h2, h3, h4, h5, h6⟩ := q8X (i := i) (l := F4 c i) (out := out) (b := b) (by omega) hne
  refine ⟨by rw [h1, hl], h2, fun _ p hp => ?_, fun hs => h5 (hs hc), h6, fun hb j hj => ?_⟩
  ·have := h4 p hp
   rw [h2 _ (hne p hp)]
   exact this
  ·by_cases hji : j = i
   ·subst hji
    refine ⟨Int.le_trans (hb j hj).1 h3, ?_⟩
    have key : ∀ (l o : List Int) (b : Bool), j < o.length → (∀ p ∈ l, p.toNat ≠ j) → (∀ p ∈ l, o.getD p.toNat 0 + 1 ≤ φ j) → o.getD j 0 ≤ φ j → (Gt j l o b).1.getD j 0 ≤ φ j := by
     intro l
     induction l with
     | nil => intro o b _ _ _ h; exact h
     | cons p l ih =>
      intro o b ho hp hq hoj
      simp only [Gt]
      split
      ·refine ih _ _ (by rw [List.length_set]; exact ho) (fun q hq' => hp q (List.mem_cons_of_mem _ hq')) (fun q hq' => ?_) ?_
       ·rw [Ej ho, if_neg (hp q (List.mem_cons_of_mem _ hq'))]
        exact hq q (List.mem_cons_of_mem _ hq')
       ·rw [Ej ho, if_pos rfl]
        exact hq p List.mem_cons_self
      ·exact ih _ _ ho (fun q hq' => hp q (List.mem_cons_of_mem _ hq')) (fun q hq' => hq q (List.mem_cons_of_mem _ hq')) hoj
    refine key _ _ _ (by show j < out.length; omega) hne (fun p hp => ?_) (hb j hj).2
    obtain ⟨d1, d2⟩ := h.dn j hj hc p hp
    have := (hb _ d1).2
    show out.getD p.toNat 0 + 1 ≤ φ j
    omega
   ·rw [h2 j hji]; exact hb j hj
 ·rw [if_neg hc]
  exact ⟨hl, fun _ _ => rfl, fun hh => absurd hh hc, fun _ => rfl, fun hf => ⟨rfl, hf⟩, fun hb => hb⟩
theorem qKB {c : Bd} {φ : Nat → Nat} (h : Plc c φ) {i j : Nat} (hj : j < c.nodes.l.length) (hji : j ≠ i) (hφ : φ j ≤ φ i) {a b : List Int} (hab : ∀ q, q ≠ i → b.getD q 0 = a.getD q 0) (hs : q7g c a j) : q7g c b j := fun hc p hp => by
 have hd := h.dn j hj hc p hp
 have hpi : p.toNat ≠ i := fun e => by rw [e] at hd; omega
 rw [hab _ hpi, hab _ hji]
 exact hs hc p hp
theorem q6f {c : Bd} {φ : Nat → Nat} (h : Plc c φ) (r : Nat) (o0 : List Int) (h0 : ∀ j, j < c.nodes.l.length → φ j < r → q7g c o0 j) : ∀ (k i : Nat) (out : List Int) (b : Bool), k + i = c.nodes.l.length → out.length = c.nodes.l.length →
  (∀ j, j < c.nodes.l.length → φ j < r → out.getD j 0 = o0.getD j 0) → (∀ j, j < i → φ j < r + 1 → q7g c out j) → (∀ j, j < c.nodes.l.length → 0 ≤ out.getD j 0 ∧ out.getD j 0 ≤ φ j) → (b = false → ∀ j, j < i → q7g c out j) →
  (L8 c k i (out, b)).1.length = c.nodes.l.length ∧ (∀ j, j < c.nodes.l.length → φ j < r → (L8 c k i (out, b)).1.getD j 0 = o0.getD j 0) ∧ (∀ j, j < c.nodes.l.length → φ j < r + 1 → q7g c (L8 c k i (out, b)).1 j) ∧
  (∀ j, j < c.nodes.l.length → 0 ≤ (L8 c k i (out, b)).1.getD j 0 ∧ (L8 c k i (out, b)).1.getD j 0 ≤ φ j) ∧ ((L8 c k i (out, b)).2 = false → ∀ j, j < c.nodes.l.length → q7g c (L8 c k i (out, b)).1 j) ∧ ((∀ j, j < c.nodes.l.length → q7g c out j) → L8 c k i (out, b) = (out, b))
 | 0, i, out, b, hk, hl, h1, h2, h3, h4 => ⟨hl, h1, fun j hj hφ => h2 j (by omega) hφ, h3, fun hf j hj => h4 hf j (by omega), fun _ => rfl⟩
 | k + 1, i, out, b, hk, hl, h1, h2, h3, h4 => by
  have hi : i < c.nodes.l.length := by omega
  obtain ⟨n1, n2, n3, n4, n5, n6⟩ := qCF h hi (out := out) (b := b) hl
  simp only [L8]
  have hφr : φ i < r → q7g c out i := fun hφ hc p hp => by
   have hd := h.dn i hi hc p hp
   rw [h1 _ hd.1 (by omega), h1 _ hi hφ]
   exact h0 i hi hφ hc p hp
  have := q6f h r o0 h0 k (i + 1) (O8 c i (out, b)).1 (O8 c i (out, b)).2 (by omega) n1 (fun j hj hφ => by
   by_cases hji : j = i
   ·subst hji
    rw [n4 (hφr hφ)]
    exact h1 j hj hφ
   ·rw [n2 j hji]; exact h1 j hj hφ) (fun j hj hφ => by
   by_cases hji : j = i
   ·subst hji; exact n3
   ·have hj' : j < i := by omega
    by_cases hir : φ i < r
    ·rw [n4 (hφr hir)]; exact h2 j hj' hφ
    ·exact qKB h (by omega) hji (by omega) n2 (h2 j hj' hφ)) (n6 h3) (fun hf j hj => by
   obtain ⟨e1, e2⟩ := n5 hf
   by_cases hji : j = i
   ·subst hji; exact n3
   ·rw [e1]; exact h4 e2 j (by omega))
  obtain ⟨m1, m2, m3, m4, m5, m6⟩ := this
  refine ⟨m1, m2, m3, m4, m5, fun hall => ?_⟩
  have e := n4 (hall i hi)
  rw [e] at m6 ⊢
  exact m6 hall
structure qHJ (c : Bd) (L : List Int) : Prop where
 len : L.length = c.nodes.l.length
 rg : ∀ j, j < c.nodes.l.length → 0 ≤ L.getD j 0 ∧ L.getD j 0 < c.nodes.l.length
 sat : ∀ j, j < c.nodes.l.length → q7g c L j
theorem qEG {c : Bd} {φ : Nat → Nat} (h : Plc c φ) : ∀ (f r : Nat) (out : List Int), c.nodes.l.length + 1 ≤ f + r → r ≤ c.nodes.l.length → out.length = c.nodes.l.length → (∀ j, j < c.nodes.l.length → 0 ≤ out.getD j 0 ∧ out.getD j 0 ≤ φ j) → (∀ j, j < c.nodes.l.length → φ j < r → q7g c out j) → qHJ c (qCE c f out)
 | 0, r, out, hf, hr, _, _, _ => by omega
 | f + 1, r, out, hf, hr, hl, hb, hs => by
  obtain ⟨m1, m2, m3, m4, m5, m6⟩ := q6f h r out hs c.nodes.l.length 0 out false (by omega) hl (fun _ _ _ => rfl) (fun j hj => absurd hj (Nat.not_lt_zero _)) hb (fun _ j hj => absurd hj (Nat.not_lt_zero _))
  simp only [qCE]
  split
  ·rename_i ht
   by_cases hrn : r = c.nodes.l.length
   ·have := m6 fun j hj => hs j hj (by rw [hrn]; exact h.lt j hj)
    unfold q5d at ht
    rw [this] at ht
    cases ht
   ·exact qEG h f (r + 1) _ (by omega) (by omega) m1 m4 m3
  ·rename_i ht
   have hf2 : (q5d c out).2 = false := Bool.eq_false_iff.2 ht
   exact ⟨m1, fun j hj => ⟨(m4 j hj).1, by
    have h1 : (q5d c out).1.getD j 0 ≤ φ j := (m4 j hj).2
    have := h.lt j hj
    omega⟩, m5 hf2⟩
theorem qCs {l : List Int} {x : Int} (h : x ∈ l) : ∃ hi : l.idxOf x < l.length, l[l.idxOf x] = x := ⟨List.idxOf_lt_length_iff.2 h, List.getElem_idxOf _⟩
theorem qIl {c : Bd} (h : E9 c = 0) : Plc c fun i => (Ls c).idxOf (i : Int) := by
 obtain ⟨_, _, h1⟩ := qAX h
 obtain ⟨hp, hs⟩ := Ym c
 have hlen : (Ls c).length = c.nodes.l.length := by rw [hp.length_eq, Ko]
 have hmem : ∀ i : Nat, i < c.nodes.l.length → (i : Int) ∈ Ls c := fun i hi => hp.mem_iff.2 (Vg.2 ⟨by omega, by omega⟩)
 refine ⟨fun i hi => by have := (qCs (hmem i hi)).1; omega, fun i hi hc p hpi => ?_⟩
 obtain ⟨hr, hl⟩ := h1 i hi hc p hpi
 have hpn : p.toNat < c.nodes.l.length := by omega
 refine ⟨hpn, ?_⟩
 obtain ⟨a1, a2⟩ := qCs (hmem i hi)
 obtain ⟨b1, b2⟩ := qCs (hmem p.toNat hpn)
 refine Nat.lt_of_not_le fun hle => ?_
 show False
 have hle : (Ls c).idxOf (i : Int) ≤ (Ls c).idxOf ((p.toNat : Nat) : Int) := hle
 rcases Nat.lt_or_eq_of_le hle with hlt | heq
 ·have := hs _ _ hlt (by omega)
  simp only [B5 a1, B5 b1, a2, b2, Int.toNat_natCast] at this
  omega
 ·have e : (i : Int) = ((p.toNat : Nat) : Int) := by rw [← a2, ← b2]; simp only [heq]
  have : i = p.toNat := by omega
  rw [← this] at hl
  omega
theorem q8Y {c : Bd} (h : E9 c = 0) : qHJ c (X6 c) := by
 refine qEG (qIl h) (c.nodes.l.length + 1) 0 _ (by omega) (Nat.zero_le _) (by simp) (fun j hj => ?_) (fun j _ h => absurd h (Nat.not_lt_zero _))
 have : (List.replicate c.nodes.l.length (0 : Int)).getD j 0 = 0 := by rw [List.getD_eq_getElem?_getD, List.getElem?_replicate]; split <;> rfl
 rw [this]
 omega
def qIm (L : List Int) (n : Nat) (v : Nat) : List Int := (rng n).filter fun i => decide (L.getD i.toNat 0 = (v : Int))
def Cm (L : List Int) (n : Nat) : Nat → List Int
 | 0 => []
 | v + 1 => Cm L n v ++ qIm L n v
theorem Jd {L : List Int} {n : Nat} {x : Int} : ∀ {v : Nat}, x ∈ Cm L n v ↔ x ∈ rng n ∧ 0 ≤ L.getD x.toNat 0 ∧ L.getD x.toNat 0 < v
 | 0 => by simp [Cm]
 | v + 1 => by
  simp only [Cm, List.mem_append, Jd (v := v), qIm, List.mem_filter, decide_eq_true_eq]
  constructor
  ·rintro (⟨a, b, d⟩ | ⟨a, b⟩)
   ·exact ⟨a, b, by omega⟩
   ·exact ⟨a, by omega, by omega⟩
  ·rintro ⟨a, b, d⟩
   by_cases h : L.getD x.toNat 0 < v
   ·exact .inl ⟨a, b, h⟩
   ·exact .inr ⟨a, by omega⟩
theorem Nr {L : List Int} {n : Nat} : ∀ {v : Nat}, (Cm L n v).Nodup
 | 0 => List.nodup_nil
 | v + 1 => by
  simp only [Cm]
  refine List.nodup_append.2 ⟨Nr, q4r.filter _, fun a ha b hb e => ?_⟩
  subst e
  have h1 := (Jd.1 ha).2.2
  simp only [qIm, List.mem_filter, decide_eq_true_eq] at hb
  omega
theorem q5e {L : List Int} {n : Nat} : ∀ {v : Nat}, (Cm L n v).Pairwise fun x y => L.getD x.toNat 0 ≤ L.getD y.toNat 0
 | 0 => List.Pairwise.nil
 | v + 1 => by
  simp only [Cm]
  refine List.pairwise_append.2 ⟨q5e, ?_, fun a ha b hb => ?_⟩
  ·refine List.pairwise_of_forall_mem_list fun a ha b hb => ?_
   simp only [qIm, List.mem_filter, decide_eq_true_eq] at ha hb
   omega
  ·have h1 := (Jd.1 ha).2.2
   simp only [qIm, List.mem_filter, decide_eq_true_eq] at hb
   omega
theorem qFU {c : Bd} {L : List Int} (h : qHJ c L) {v : Nat} (hv : c.nodes.l.length ≤ (Cm L c.nodes.l.length v).length) : (Cm L c.nodes.l.length v).Perm (rng c.nodes.l.length) := by
 refine (List.perm_ext_iff_of_nodup Nr q4r).2 fun x => ⟨fun hx => (Jd.1 hx).1, fun hx => ?_⟩
 refine Classical.byContradiction fun hn => ?_
 have hsub : (x :: Cm L c.nodes.l.length v).Nodup := List.nodup_cons.2 ⟨hn, Nr⟩
 have := q4o (N := c.nodes.l.length) hsub fun j hj => by
  have hj' : j ∈ rng c.nodes.l.length := by
   rcases List.mem_cons.1 hj with rfl | hj
   ·exact hx
   ·exact (Jd.1 hj).1
  have := Vg.1 hj'
  exact ⟨j.toNat, by omega, by omega⟩
 simp at this
 omega
theorem qAu {L : List Int} {n v : Nat} : (Cm L n v).length ≤ n := q4o Nr fun j hj => by
 have := Vg.1 (Jd.1 hj).1
 exact ⟨j.toNat, by omega, by omega⟩
theorem qEH {c : Bd} {L : List Int} (h : qHJ c L) {v : Nat} (hv : (Cm L c.nodes.l.length v).length < c.nodes.l.length) : v < c.nodes.l.length := by
 refine Nat.lt_of_not_le fun hle => ?_
 have hp : (Cm L c.nodes.l.length v).Perm (rng c.nodes.l.length) := by
  refine (List.perm_ext_iff_of_nodup Nr q4r).2 fun x => ⟨fun hx => (Jd.1 hx).1, fun hx => Jd.2 ⟨hx, ?_⟩⟩
  have := Vg.1 hx
  have := h.rg x.toNat (by omega)
  omega
 have := hp.length_eq
 rw [Ko] at this
 omega
theorem qFV {c : Bd} (h : E9 c = 0) {L : List Int} (hL : qHJ c L) {v : Nat} (hv : c.nodes.l.length ≤ (Cm L c.nodes.l.length v).length) {init : List Int} (hi : init.length = c.nodes.l.length) : qHB c init (q55 c (Cm L c.nodes.l.length v) init) := by
 obtain ⟨_, _, h1⟩ := qAX h
 have hp := qFU hL hv
 have hmem : ∀ n, n ∈ Cm L c.nodes.l.length v ↔ 0 ≤ n ∧ n < c.nodes.l.length := fun n => by rw [hp.mem_iff, Vg]
 have hlt : ∀ x, x ∈ Cm L c.nodes.l.length v → Cd (Ap c x.toNat) = true → ∀ p ∈ F4 c x.toNat, (0 ≤ p ∧ p < c.nodes.l.length) ∧ L.getD p.toNat 0 < L.getD x.toNat 0 := fun x hx hc p hpp => by
  have hx' := (hmem x).1 hx
  have := hL.sat x.toNat (by omega) hc p hpp
  exact ⟨(h1 x.toNat (by omega) hc p hpp).1, by omega⟩
 obtain ⟨_, a2⟩ := qCf (c := c) (o := Cm L c.nodes.l.length v) (nets := init) hi Nr (fun n hn => (hmem n).1 hn) (q5e.imp_of_mem fun {x y} hx hy hxy hc hm => by
  have := (hlt x hx hc y hm).2
  omega) (fun x hx hc => ⟨fun hm => by have := (hlt x hx hc x hm).2; omega, fun p hpp => (hlt x hx hc p hpp).1.1⟩)
 exact ⟨by rw [q7C]; exact hi, fun i hi => a2 i ((hmem i).2 (by omega))⟩
end Go.Lg
namespace Go.Lg
open Go Go.Proofs
variable {Γ : Tables}
theorem He (b : Bool) : A6 Tryz.prog Γ 205 [tB b] (tI (Jx b)) := by
 refine Aa qBR rfl ?_
 cases b <;> simp [q7a, q7b, Jx]
theorem S4 (v : Int) (b : Bool) : Ah Tryz.prog Γ 130 [tK v, tB b] (.sl (Ak (By v b)) (some (By v b).length) (some false)) := by
 refine B7 q7c rfl ?_
 unfold By
 by_cases h0 : v = 0
 ·simp [G9, Ge, h0, Aj, E2]
 by_cases h1 : v = 1
 ·simp [G9, Ge, h0, h1, Aj, E2]
 cases b
 ·simp [G9, Ge, h0, h1, Aj, E2]
 by_cases h3 : v = 3
 ·simp [G9, Ge, h0, h1, h3, Aj, E2]
 ·simp [G9, Ge, h0, h1, h3, Aj, E2]
theorem qHK {l : List Int} {v : Int} {i : Nat} (h : i < l.length) : Ba (l.take (i + 1)) v = Ba (l.take i) v + if l.getD i 0 = v then 1 else 0 := by
 rw [← List.take_append_getElem h, q7U, B5 h]
 congr 1
 unfold Ba
 simp [List.countP_cons]
theorem qEI {Q : AX → St → Prop} (l : Sl Int) (v : Int) (hl : l.l.length ≤ 1000000)
  (h0 : Q (.exit 0) ⟨[(0, .t (Av l)), (1, .t (tI v)), (5, .t (tI (Ba l.l v))), (6, .t (tI l.l.length)), (10, .t (tB false))], []⟩) :
  ∀ (k i : Nat), k + i = l.l.length → run Tryz.prog Γ Ry Q ⟨[(0, .t (Av l)), (1, .t (tI v)), (5, .t (tI (Ba (l.l.take i) v))), (6, .t (tI i))], []⟩
 | 0, i, h => by
  refine Zt fun K hK => ?_
  have h2 : i = l.l.length := by omega
  subst h2
  rw [List.take_length]
  simp [Av, A5]
  simpa [Av] using h0
 | k + 1, i, h => by
  refine Zt fun K hK => ?_
  have h2 : i < l.l.length := by omega
  have ih := qEI l v hl h0 k (i + 1) (by omega)
  rw [qHK h2] at ih
  have hc : Ba (l.l.take i) v ≤ i := Nat.le_trans List.countP_le_length (by rw [List.length_take]; exact Nat.min_le_left _ _)
  have e1 := gE (f := tI) 0 h2
  have e1' := Jv (f := tI) 0 h2
  generalize l.l.getD i 0 = x at *
  generalize Ba (l.l.take i) v = n at *
  have w1 : IntKind.i64.wrap ((i : Int) + 1) = (i : Int) + 1 := by rw [A9] <;> omega
  have w2 : IntKind.i64.wrap ((n : Int) + 1) = (n : Int) + 1 := by rw [A9] <;> omega
  simp [Av] at ih
  by_cases hx : x = v
  ·simp [hx] at ih
   simp [Av, A5, A8, h2, e1, e1', hx, w1, w2]
   rw [hK]
   simpa using ih
  ·simp [hx] at ih
   simp [Av, A5, A8, h2, e1, e1', hx, w1, w2]
   rw [hK]
   simpa using ih
theorem qEJ (l : Sl Int) (v : Int) (hl : l.l.length ≤ 1000000) : A6 Tryz.prog Γ 204 [Av l, tI v] (tI (Ba l.l v)) := by
 refine Aa q9T rfl ?_
 have g := fun Q h0 => qEI (Γ := Γ) (Q := Q) l v hl h0 l.l.length 0 (by omega)
 simp [Av, Ba] at g
 simp [q4G, Av]
 refine g _ ?_
 simp [q4H, Ba]
set_option maxHeartbeats 2000000 in
theorem q5f (k : Int) (hk : 1 ≤ k ∧ k ≤ 13) (l : Sl Int) (hl : l.l.length ≤ 1000000) (h1 : k = 3 ∨ k = 4 → 1 ≤ l.l.length) (h2 : k = 12 → 2 ≤ l.l.length) (h3 : k = 11 → 3 ≤ l.l.length) : A6 Tryz.prog Γ 196 [tK k, Av l] (tI (Jq k l.l)) := by
 refine Aa q6e rfl ?_
 have c1 := qEJ (Γ := Γ) l 1 hl
 have c0 := qEJ (Γ := Γ) l 0 hl
 have n1 : Ba l.l 1 ≤ l.l.length := List.countP_le_length
 have n0 : Ba l.l 0 ≤ l.l.length := List.countP_le_length
 have hkc : k = 1 ∨ k = 2 ∨ k = 3 ∨ k = 4 ∨ k = 5 ∨ k = 6 ∨ k = 7 ∨ k = 8 ∨ k = 9 ∨ k = 10 ∨ k = 11 ∨ k = 12 ∨ k = 13 := by omega
 rcases hkc with rfl | rfl | rfl | rfl | rfl | rfl | rfl | rfl | rfl | rfl | rfl | rfl | rfl
 ·simp [Av] at c1 c0
  simp [Bf, Av]
  refine A4 c1 rfl ?_
  simp
  refine A4 c0 rfl ?_
  simp
  refine A4 (He _) rfl ?_
  simp [Ax, Jq]
 ·simp [Av] at c1 c0
  simp [Bf, Av]
  refine A4 c1 rfl ?_
  simp
  refine A4 c0 rfl ?_
  simp
  refine A4 (He _) rfl ?_
  simp [Ax, Jq]
 ·simp [Av] at c1 c0
  simp [Bf, Av]
  refine A4 c1 rfl ?_
  simp
  refine A4 c0 rfl ?_
  have h9 : 0 < l.l.length := h1 (by omega)
  have e1 := gE (f := tI) 0 h9
  have e1' := Jv (f := tI) 0 h9
  have hgx : l.l[0]?.getD 0 = l.l.getD 0 0 := (List.getD_eq_getElem?_getD ..).symm
  generalize hx : l.l.getD 0 0 = x at *
  have hx' := hgx
  simp [A5, A8, h9, e1, e1']
  refine A4 (He _) rfl ?_
  by_cases hh : x = 1 <;> simp [Ax, Jq, hx, hx', hh]
 ·simp [Av] at c1 c0
  simp [Bf, Av]
  refine A4 c1 rfl ?_
  simp
  refine A4 c0 rfl ?_
  have h9 : 0 < l.l.length := h1 (by omega)
  have e1 := gE (f := tI) 0 h9
  have e1' := Jv (f := tI) 0 h9
  have hgx : l.l[0]?.getD 0 = l.l.getD 0 0 := (List.getD_eq_getElem?_getD ..).symm
  generalize hx : l.l.getD 0 0 = x at *
  have hx' := hgx
  simp [A5, A8, h9, e1, e1']
  refine A4 (He _) rfl ?_
  by_cases hh : x = 1 <;> simp [Ax, Jq, hx, hx', hh]
 ·simp [Av] at c1 c0
  simp [Bf, Av]
  refine A4 c1 rfl ?_
  simp
  refine A4 c0 rfl ?_
  generalize hx : Ba l.l 0 = x at *
  simp
  refine A4 (He _) rfl ?_
  by_cases hh : x = 0 <;> simp [Ax, Jq, hx, hh]
 ·simp [Av] at c1 c0
  simp [Bf, Av]
  refine A4 c1 rfl ?_
  simp
  refine A4 c0 rfl ?_
  generalize hx : Ba l.l 0 = x at *
  simp
  refine A4 (He _) rfl ?_
  by_cases hh : x = 0 <;> simp [Ax, Jq, hx, hh]
 ·simp [Av] at c1 c0
  simp [Bf, Av]
  refine A4 c1 rfl ?_
  simp
  refine A4 c0 rfl ?_
  generalize hx : Ba l.l 1 = x at *
  simp
  refine A4 (He _) rfl ?_
  by_cases hh : 0 < x <;> simp [Ax, Jq, hx, hh]
 ·simp [Av] at c1 c0
  simp [Bf, Av]
  refine A4 c1 rfl ?_
  simp
  refine A4 c0 rfl ?_
  generalize hx : Ba l.l 1 = x at *
  simp
  refine A4 (He _) rfl ?_
  by_cases hh : 0 < x <;> simp [Ax, Jq, hx, hh]
 ·simp [Av] at c1 c0
  simp [Bf, Av]
  refine A4 c1 rfl ?_
  simp
  refine A4 c0 rfl ?_
  generalize hx : Ba l.l 1 = x at *
  have hm : (x : Int).tmod 2 = ((x % 2 : Nat) : Int) := by rw [Int.natCast_emod]; exact Int.tmod_eq_emod_of_nonneg (by omega)
  simp [hm, -Int.natCast_emod]
  refine A4 (He _) rfl ?_
  rcases Nat.mod_two_eq_zero_or_one x with hh | hh <;> simp [Ax, Jq, hx, hh]
 ·simp [Av] at c1 c0
  simp [Bf, Av]
  refine A4 c1 rfl ?_
  simp
  refine A4 c0 rfl ?_
  generalize hx : Ba l.l 1 = x at *
  have hm : (x : Int).tmod 2 = ((x % 2 : Nat) : Int) := by rw [Int.natCast_emod]; exact Int.tmod_eq_emod_of_nonneg (by omega)
  simp [hm, -Int.natCast_emod]
  refine A4 (He _) rfl ?_
  rcases Nat.mod_two_eq_zero_or_one x with hh | hh <;> simp [Ax, Jq, hx, hh]
 ·simp [Av] at c1 c0
  simp [Bf, Av]
  refine A4 c1 rfl ?_
  simp
  refine A4 c0 rfl ?_
  have h9 := h3 rfl
  have e1 := gE (f := tI) 0 (show 0 < l.l.length by omega)
  have e1' := Jv (f := tI) 0 (show 0 < l.l.length by omega)
  have e2 := gE (f := tI) 0 (show 1 < l.l.length by omega)
  have e2' := Jv (f := tI) 0 (show 1 < l.l.length by omega)
  have e3 := gE (f := tI) 0 (show 2 < l.l.length by omega)
  have e3' := Jv (f := tI) 0 (show 2 < l.l.length by omega)
  have q0 : 0 < l.l.length := by omega
  have q1 : 1 < l.l.length := by omega
  have q2 : 2 < l.l.length := by omega
  have q1' : (1 : Int) < l.l.length := by omega
  have q2' : (2 : Int) < l.l.length := by omega
  have hgx : l.l[0]?.getD 0 = l.l.getD 0 0 := (List.getD_eq_getElem?_getD ..).symm
  generalize hx : l.l.getD 0 0 = x at *
  have hx' := hgx
  have hgy : l.l[1]?.getD 0 = l.l.getD 1 0 := (List.getD_eq_getElem?_getD ..).symm
  generalize hy : l.l.getD 1 0 = y at *
  have hy' := hgy
  have hgz : l.l[2]?.getD 0 = l.l.getD 2 0 := (List.getD_eq_getElem?_getD ..).symm
  generalize hz : l.l.getD 2 0 = z at *
  have hz' := hgz
  by_cases hh : x = 0
  ·simp [Ax, A5, A8, q0, q1, q2, q1', q2', e1, e1', e2, e2', e3, e3', hh]
   simp [Jq, hx, hy, hz, hx', hy', hz', hh]
  ·simp [Ax, A5, A8, q0, q1, q2, q1', q2', e1, e1', e2, e2', e3, e3', hh]
   simp [Jq, hx, hy, hz, hx', hy', hz', hh]
 ·simp [Av] at c1 c0
  simp [Bf, Av]
  refine A4 c1 rfl ?_
  simp
  refine A4 c0 rfl ?_
  have h9 := h2 rfl
  have e1 := gE (f := tI) 0 (show 0 < l.l.length by omega)
  have e1' := Jv (f := tI) 0 (show 0 < l.l.length by omega)
  have e2 := gE (f := tI) 0 (show 1 < l.l.length by omega)
  have e2' := Jv (f := tI) 0 (show 1 < l.l.length by omega)
  have q0 : 0 < l.l.length := by omega
  have q1 : 1 < l.l.length := by omega
  have q1' : (1 : Int) < l.l.length := by omega
  have hgx : l.l[0]?.getD 0 = l.l.getD 0 0 := (List.getD_eq_getElem?_getD ..).symm
  generalize hx : l.l.getD 0 0 = x at *
  have hx' := hgx
  have hgy : l.l[1]?.getD 0 = l.l.getD 1 0 := (List.getD_eq_getElem?_getD ..).symm
  generalize hy : l.l.getD 1 0 = y at *
  have hy' := hgy
  by_cases hh : x = 0
  ·simp [Ax, A5, A8, q0, q1, q1', e1, e1', e2, e2', hh]
   simp [Jq, hx, hy, hx', hy', hh]
  ·simp [Ax, A5, A8, q0, q1, q1', e1, e1', e2, e2', hh]
   simp [Jq, hx, hy, hx', hy', hh]
 ·simp [Av] at c1 c0
  simp [Bf, Av]
  refine A4 c1 rfl ?_
  simp
  refine A4 c0 rfl ?_
  generalize hx : Ba l.l 1 = x at *
  generalize hy : Ba l.l 0 = y at *
  have w : IntKind.i64.wrap ((x : Int) + y) = (x : Int) + y := by rw [A9] <;> omega
  have hx2 : x = 0 ∨ 0 < x := by omega
  have hy2 : y = 0 ∨ 0 < y := by omega
  rcases hx2 with rfl | hx2
  ·rcases hy2 with rfl | hy2
   ·have w0 : IntKind.i64.wrap 0 = 0 := by decide
    simp [Ax, w0]
    simp [Jq, hx, hy]
   ·have ha' : ¬ (y : Int) = 0 := by omega
    have hyn : ¬ y = 0 := by omega
    have w0 : IntKind.i64.wrap (y : Int) = y := by rw [A9] <;> omega
    simp [w0, ha', hyn]
    refine A4 (He _) rfl ?_
    simp [Ax, Jq, hx, hy, hyn]
  ·have hxn : ¬ x = 0 := by omega
   rcases hy2 with rfl | hy2
   ·have w0 : IntKind.i64.wrap (x : Int) = x := by rw [A9] <;> omega
    have ha' : ¬ (x : Int) = 0 := by omega
    simp [w0, ha', hx2, hxn]
    refine A4 (He _) rfl ?_
    simp [Ax, Jq, hx, hy, hx2, hxn]
   ·have ha' : ¬ (x : Int) + y = 0 := by omega
    have ha : ¬ x + y = 0 := by omega
    simp [Ax, w, ha', hx2, hy2, hxn]
    simp [Jq, hx, hy, hx2, hy2, ha, hxn]
theorem qCt (k : Int) (hk : 0 ≤ k ∧ k ≤ 15) (n : Nat) : A6 Tryz.prog Γ 160 [tK k, tI n] (tB (Jy k n)) := by
 refine Aa q7d rfl ?_
 have hkc : k = 0 ∨ k = 1 ∨ k = 2 ∨ k = 3 ∨ k = 4 ∨ k = 5 ∨ k = 6 ∨ k = 7 ∨ k = 8 ∨ k = 9 ∨ k = 10 ∨ k = 11 ∨ k = 12 ∨ k = 13 ∨ k = 14 ∨ k = 15 := by omega
 by_cases h0 : n = 0
 ·subst h0
  rcases hkc with rfl | rfl | rfl | rfl | rfl | rfl | rfl | rfl | rfl | rfl | rfl | rfl | rfl | rfl | rfl | rfl <;> simp [Ep, Es, Jy]
 by_cases h16 : n ≤ 16
 ·have h16' : (n : Int) ≤ 16 := by omega
  by_cases h1 : n = 1
  ·subst h1
   rcases hkc with rfl | rfl | rfl | rfl | rfl | rfl | rfl | rfl | rfl | rfl | rfl | rfl | rfl | rfl | rfl | rfl <;> simp [Ep, Es, Jy]
  have h2 : 2 ≤ n := by omega
  have h2' : (2 : Int) ≤ n := by omega
  have h1' : (1 : Int) ≤ n := by omega
  have h1n : 1 ≤ n := by omega
  have g0 : ¬ (n : Int) = 0 := by omega
  have g1 : ¬ (n : Int) = 1 := by omega
  by_cases h3 : n = 3
  ·subst h3
   rcases hkc with rfl | rfl | rfl | rfl | rfl | rfl | rfl | rfl | rfl | rfl | rfl | rfl | rfl | rfl | rfl | rfl <;> simp [Ep, Es, Jy]
  have g3 : ¬ (n : Int) = 3 := by omega
  by_cases h4 : n = 2
  ·subst h4
   rcases hkc with rfl | rfl | rfl | rfl | rfl | rfl | rfl | rfl | rfl | rfl | rfl | rfl | rfl | rfl | rfl | rfl <;> simp [Ep, Es, Jy]
  have g2 : ¬ (n : Int) = 2 := by omega
  rcases hkc with rfl | rfl | rfl | rfl | rfl | rfl | rfl | rfl | rfl | rfl | rfl | rfl | rfl | rfl | rfl | rfl <;> simp [Ep, Es, Jy, h0, h1, h2, h3, h4, h1', h1n, h2', h16, h16', g0, g1, g2, g3]
 ·have h16' : ¬ (n : Int) ≤ 16 := by omega
  have h2' : (2 : Int) ≤ n := by omega
  have h1' : (1 : Int) ≤ n := by omega
  have g0 : ¬ (n : Int) = 0 := by omega
  have g1 : ¬ (n : Int) = 1 := by omega
  have g2 : ¬ (n : Int) = 2 := by omega
  have g3 : ¬ (n : Int) = 3 := by omega
  have f1 : ¬ n = 1 := by omega
  have f2 : ¬ n = 2 := by omega
  have f3 : ¬ n = 3 := by omega
  rcases hkc with rfl | rfl | rfl | rfl | rfl | rfl | rfl | rfl | rfl | rfl | rfl | rfl | rfl | rfl | rfl | rfl <;> simp [Ep, Es, Jy, h0, h16, h16', h1', h2', g0, g1, g2, g3, f1, f2, f3]
theorem q2Z (k : Int) : A6 Tryz.prog Γ 127 [tK k] (tB (Cd k)) := by
 refine Aa qAt rfl ?_
 unfold Cd
 by_cases h1 : 1 ≤ k
 ·by_cases h2 : k ≤ 13 <;> simp [q1G, q1H, h1, h2]
 ·simp [q1G, q1H, h1]
theorem q7h {v : Int} {b : Bool} : (By v b).length ≤ 3 := by unfold By; split; simp; split; simp; split; simp; split <;> simp
theorem q4N {F : Int → List Int} {m : Nat} (hF : ∀ y, (F y).length ≤ m) : ∀ l : List Int, (l.flatMap F).length ≤ m * l.length
 | [] => by simp
 | x :: l => by
  have := q4N hF l
  have := hF x
  rw [List.flatMap_cons, List.length_append, List.length_cons, Nat.mul_add, Nat.mul_one]
  omega
theorem qAv {k : Int} {ins : List Int} : ∀ (n : Nat) (l : List Int), (X5 k ins n l).length ≤ 3 ^ n
 | 0, l => by simp [X5]
 | n + 1, l => by
  simp only [X5]
  have := q4N (F := fun y => X5 k ins n (l ++ [y])) (fun y => qAv n (l ++ [y])) (By (ins.getD l.length 0) (decide (k = 13)))
  have h3 := q7h (v := ins.getD l.length 0) (b := decide (k = 13))
  refine Nat.le_trans this ?_
  rw [Nat.pow_succ]
  exact Nat.mul_le_mul_left _ h3
theorem qEK {Q : AX → St → Prop} (k : Int) (ins l : Sl Int) (F : Int → List Int) (hF : ∀ y, (F y).length ≤ 1000) (hcall : ∀ y, A6 Tryz.prog Γ 179 [tK k, tV ins, Av ⟨l.l ++ [y], none, none⟩] (.sl (Ak (F y)) none none)) (hl : l.l.length ≤ 1000) (cs : List Int) (hcs : cs.length ≤ 3) (cc : Option Nat) (cn : Option Bool)
  (h0 : Q (.exit 0) ⟨[(0, .t (tK k)), (1, .t (tV ins)), (2, .t (Av l)), (7, .ls 45 0 (cs.flatMap F).length none), (8, .t (.sl (Ak cs) cc cn)), (9, .t (tI cs.length)), (30, .t (tB false))], [(45, .sl 3 1 (Ak (cs.flatMap F)))]⟩) :
  ∀ (f i : Nat), f + i = cs.length → run Tryz.prog Γ Nh Q ⟨[(0, .t (tK k)), (1, .t (tV ins)), (2, .t (Av l)), (7, .ls 45 0 ((cs.take i).flatMap F).length none), (8, .t (.sl (Ak cs) cc cn)), (9, .t (tI i))], [(45, .sl 3 1 (Ak ((cs.take i).flatMap F)))]⟩
 | 0, i, h => by
  refine Wc fun K hK => ?_
  have h2 : i = cs.length := by omega
  subst h2
  rw [List.take_length]
  simp [tV, Av, A5, -List.length_flatMap] at h0
  simp [tV, Av, A5, -List.length_flatMap]
  simpa [-List.length_flatMap] using h0
 | f + 1, i, h => by
  refine Wc fun K hK => ?_
  have h2 : i < cs.length := by omega
  have ih := qEK k ins l F hF hcall hl cs hcs cc cn h0 f (i + 1) (by omega)
  rw [← List.take_append_getElem h2, List.flatMap_append, List.flatMap_cons, List.flatMap_nil, List.append_nil] at ih
  have hol := q4N hF (cs.take i)
  rw [List.length_take] at hol
  have e1 := gE (f := tI) 0 h2
  have e1' := Jv (f := tI) 0 h2
  rw [B5 h2] at e1 e1'
  generalize cs[i] = x at *
  generalize (cs.take i).flatMap F = out at *
  have hx := hcall x
  have hxl := hF x
  generalize F x = fx at *
  have w1 : IntKind.i64.wrap ((i : Int) + 1) = (i : Int) + 1 := by rw [A9] <;> omega
  have vt : (Ak out).take out.length = Ak out := Ar
  have va : Ak out ++ Ak fx = Ak (out ++ fx) := by simp [Aj]
  have lt : (Ak l.l).take l.l.length = Ak l.l := Ar
  have ls : Ak l.l ++ [[tI x]] = Ak (l.l ++ [x]) := D2
  have lt2 : (Ak (l.l ++ [x])).take (l.l.length + 1) = Ak (l.l ++ [x]) := List.take_of_length_le (by rw [A5]; simp)
  have hol3 : out.length ≤ 3000 := by omega
  simp [tV, Av] at ih hx
  simp [tV, Av, A5, A8, h2, e1, e1', lt, ls, w1, -qCY, -q89]
  refine ⟨by omega, ?_⟩
  rw [q89, qCY]
  generalize hKK : (fun (q : AV) (st1 : St) => asK _ _ _) = KK
  simp [lt, ls, A5]
  refine ⟨by omega, ?_⟩
  rw [← hKK]
  simp [-qCY, -q89]
  refine A4 hx (by simp [Am, lt2]) ?_
  simp [A5, A8, vt, va, w1]
  refine ⟨by omega, ?_⟩
  rw [hK]
  simpa using ih
theorem q7i (k : Int) (hk : 1 ≤ k ∧ k ≤ 4 ∨ k = 11 ∨ k = 12) (ins : Sl Int) (hi : Jy k ins.l.length = true) (hi3 : ins.l.length ≤ 3) : ∀ (n : Nat) (l : Sl Int), n + l.l.length = ins.l.length → A6 Tryz.prog Γ 179 [tK k, tV ins, Av l] (.sl (Ak (X5 k ins.l n l.l)) none none)
 | 0, l, h => by
  have hl : l.l.length = ins.l.length := by omega
  have hf := q5f (Γ := Γ) k (by omega) l (by omega) (fun hh => by rcases hh with rfl | rfl <;> simp [Jy] at hi <;> omega) (fun hh => by subst hh; simp [Jy] at hi; omega) (fun hh => by subst hh; simp [Jy] at hi; omega)
  refine Aa q0o rfl ?_
  simp only [X5]
  generalize Jq k l.l = r at *
  have hl' : (l.l.length : Int) = ins.l.length := by omega
  simp [Av] at hf
  simp [Uy, tV, Av, A5, hl, hl']
  refine A4 hf rfl ?_
  have hf1 : Ak [r] = [[tI r]] := rfl
  have hfl : Qs (.sl 3 1 (Ak [r])) = True := qGw
  rw [hf1] at hfl
  simp [Uz, Aj, Am, hfl, E2]
 | n + 1, l, h => by
  have hlt : l.l.length < ins.l.length := by omega
  have hne : ¬ (l.l.length : Int) = ins.l.length := by omega
  have hne' : ¬ l.l.length = ins.l.length := by omega
  have e1 := gE (f := tK) 0 hlt
  have e1' := Jv (f := tK) 0 hlt
  have hF : ∀ y, (X5 k ins.l n (l.l ++ [y])).length ≤ 1000 := fun y => by
   refine Nat.le_trans (qAv n _) ?_
   have : n ≤ 2 := by omega
   have : n = 0 ∨ n = 1 ∨ n = 2 := by omega
   rcases this with rfl | rfl | rfl <;> decide
  have hcall := fun y => q7i k hk ins hi hi3 n ⟨l.l ++ [y], none, none⟩ (by simp; omega)
  have hd : decide (k = 13) = false := by simp; omega
  refine Aa q0o rfl ?_
  simp only [X5]
  generalize ins.l.getD l.l.length 0 = v at *
  have hc := S4 (Γ := Γ) v (decide (k = 13))
  have hcl := q7h (v := v) (b := decide (k = 13))
  generalize By v (decide (k = 13)) = cs at *
  have g := fun Q cc cn h0 => qEK (Γ := Γ) (Q := Q) k ins l (fun y => X5 k ins.l n (l.l ++ [y])) hF hcall (by omega) cs hcl cc cn h0 cs.length 0 (by omega)
  have ht : (Ak (cs.flatMap fun y => X5 k ins.l n (l.l ++ [y]))).take (cs.flatMap fun y => X5 k ins.l n (l.l ++ [y])).length = Ak (cs.flatMap fun y => X5 k ins.l n (l.l ++ [y])) := Ar
  simp only [List.take_zero, List.flatMap_nil, List.length_nil, Cf] at g
  clear hcall hF
  generalize (cs.flatMap fun y => X5 k ins.l n (l.l ++ [y])) = R at *
  rw [hd] at hc
  simp [tV, Av] at g
  simp [Uy, tV, Av, A5, A8, hne, hne', hlt, e1, e1', hd]
  refine Ae hc rfl ?_
  simp
  refine g _ _ _ ?_
  simp [Uz, Am, ht]
def tT3 (t : T3) : List T := [tI t.a, tI t.b, tI t.d]
theorem L9 {L : List T3} : E2 3 (B1 tT3 L) := q3U fun _ => rfl
def Sm (B : Nat) (t : T3) : Prop := (0 ≤ t.a ∧ t.a ≤ B) ∧ (0 ≤ t.b ∧ t.b ≤ B) ∧ (0 ≤ t.d ∧ t.d ≤ B)
theorem qFW {n : Int} (h0 : 0 ≤ n) (h1 : n ≤ 1000000) : (Lit.int .i64 n).wf = true := by
 have a : IntKind.i64.min = -9223372036854775808 := by decide
 have b : IntKind.i64.max = 9223372036854775807 := by decide
 simp only [Lit.wf, a, b, Bool.and_eq_true, decide_eq_true_eq]
 omega
theorem qKl {B : Nat} (hB : B ≤ 1000) {t : T3} (h : Sm B t) : q37 [some .i64, some .i64, some .i64] [.int .i64 t.a, .int .i64 t.b, .int .i64 t.d] := by
 obtain ⟨⟨a0, a1⟩, ⟨b0, b1⟩, ⟨d0, d1⟩⟩ := h
 exact ⟨⟨rfl, qFW a0 (by omega)⟩, ⟨rfl, qFW b0 (by omega)⟩, ⟨rfl, qFW d0 (by omega)⟩, trivial⟩
theorem qNm {t x : T3} : q38 [.int .i64 t.a, .int .i64 t.b, .int .i64 t.d] [.int .i64 x.a, .int .i64 x.b, .int .i64 x.d] = decide (t = x) := by
 obtain ⟨a, b, d⟩ := t
 obtain ⟨a', b', d'⟩ := x
 simp [q38, qJP, T3.mk.injEq, Bool.and_assoc]
def cdE (k : Int) (ins : Sl Int) (S : List T3) (sc : Option Nat) (sn : Option Bool) (i : Nat) : List (Nat × AV) := [(0, .t (tK k)), (1, .t (tV ins)), (5, .t (.sl (B1 tT3 S) sc sn)), (6, .t (tI i))]
theorem qKm {Q : AX → St → Prop} (k : Int) (ins : Sl Int) (S : List T3) (sc : Option Nat) (sn : Option Bool) (i a b : Nat) (cs : List Int) (cc : Option Nat) (cn : Option Bool) (L : List T3) (hL : L.length ≤ 200000000) (B : Nat) (hB : B ≤ 1000) (hLs : ∀ t ∈ L, Sm B t) (x : T3) (hx : Sm B x)
  (h0 : Q (.exit 6) ⟨cdE k ins S sc sn i ++ [(7, .ls 78 0 L.length none), (8, .t (.sl (Ak cs) cc cn)), (9, .t (tI a)), (10, .t (tI b)), (11, .lp 11 0 0), (12, .t (tB (decide (x ∈ L)))), (13, .t (tI L.length)), (61, .t (tB false))], [(11, .bx [.t (tI x.a), .t (tI x.b), .t (tI x.d)]), (78, .sl 243 3 (B1 tT3 L))]⟩) :
  ∀ (f n : Nat), f + n = L.length → run Tryz.prog Γ Ni Q ⟨cdE k ins S sc sn i ++ [(7, .ls 78 0 L.length none), (8, .t (.sl (Ak cs) cc cn)), (9, .t (tI a)), (10, .t (tI b)), (11, .lp 11 0 0), (12, .t (tB (decide (x ∈ L.take n)))), (13, .t (tI n))], [(11, .bx [.t (tI x.a), .t (tI x.b), .t (tI x.d)]), (78, .sl 243 3 (B1 tT3 L))]⟩
 | 0, n, h => by
  refine We fun K hK => ?_
  have h2 : n = L.length := by omega
  subst h2
  rw [List.take_length]
  simp [cdE, tV, Ac] at h0
  simp [cdE, tV, Ac]
  simpa using h0
 | f + 1, n, h => by
  refine We fun K hK => ?_
  have h2 : n < L.length := by omega
  have ih := qKm k ins S sc sn i a b cs cc cn L hL B hB hLs x hx h0 f (n + 1) (by omega)
  have w1 : IntKind.i64.wrap ((n : Int) + 1) = (n : Int) + 1 := by rw [A9] <;> omega
  have hmem : x ∈ L.take (n + 1) ↔ x ∈ L.take n ∨ L[n] = x := by
   rw [← List.take_append_getElem h2, List.mem_append, List.mem_singleton]
   exact or_congr_right ⟨fun h => h.symm, fun h => h.symm⟩
  have hs1 := qKl hB (hLs _ (List.getElem_mem h2))
  have hs2 := qKl hB hx
  have he := qNm (t := L[n]) (x := x)
  have e1 : (B1 tT3 L)[n]?.getD [] = tT3 L[n] := by simp [B1, h2]
  have e1' : ∀ h, (B1 tT3 L)[n]'h = tT3 L[n] := fun h => by simp [B1]
  generalize L[n] = t at *
  simp [cdE, tV] at ih
  by_cases hm : x ∈ L.take n
  ·have hm2 := hmem.2 (.inl hm)
   simp [hm2] at ih
   simp [cdE, tV, Ac, L9, h2, hm, w1]
   rw [hK]
   simpa using ih
  ·have hm2 : decide (x ∈ L.take (n + 1)) = decide (t = x) := by
    rw [decide_eq_decide, hmem]
    exact ⟨fun h => h.resolve_left hm, .inr⟩
   rw [hm2] at ih
   simp [cdE, tV, Ac, L9, h2, hm, e1, e1', tT3, qD9, qJR, qJQ, As, he, w1]
   refine ⟨⟨hs1, hs2⟩, ?_⟩
   rw [hK]
   simpa using ih
theorem qEL {L : List T3} {t : T3} : (q7T L t).length ≤ L.length + 1 := by unfold q7T; split <;> simp
theorem qKC {B : Nat} {L : List T3} {t : T3} (h : ∀ x ∈ L, Sm B x) (ht : Sm B t) : ∀ x ∈ q7T L t, Sm B x := fun x hx => by
 rcases qE9.1 hx with hx | rfl
 ·exact h x hx
 ·exact ht
theorem qCu {B : Nat} {t : T3} {y : Int} (h : Sm B t) (hy : y = 0 ∨ y = 1 ∨ y = 2) : Sm (B + 1) (q7S t y) := by
 obtain ⟨⟨a0, a1⟩, ⟨b0, b1⟩, ⟨d0, d1⟩⟩ := h
 rcases hy with rfl | rfl | rfl
 ·exact ⟨⟨by show 0 ≤ t.a + 1; omega, by show t.a + 1 ≤ _; omega⟩, ⟨b0, by show t.b ≤ _; omega⟩, ⟨d0, by show t.d ≤ _; omega⟩⟩
 ·exact ⟨⟨a0, by show t.a ≤ _; omega⟩, ⟨by show 0 ≤ t.b + 1; omega, by show t.b + 1 ≤ _; omega⟩, ⟨d0, by show t.d ≤ _; omega⟩⟩
 ·exact ⟨⟨a0, by show t.a ≤ _; omega⟩, ⟨b0, by show t.b ≤ _; omega⟩, ⟨by show 0 ≤ t.d + 1; omega, by show t.d + 1 ≤ _; omega⟩⟩
theorem Sm.mono {B C : Nat} (hBC : B ≤ C) {t : T3} (h : Sm B t) : Sm C t := by
 obtain ⟨⟨a0, a1⟩, ⟨b0, b1⟩, ⟨d0, d1⟩⟩ := h
 exact ⟨⟨a0, by omega⟩, ⟨b0, by omega⟩, ⟨d0, by omega⟩⟩
theorem qIn {B : Nat} {t : T3} (ht : Sm B t) : ∀ {cs : List Int} {L : List T3}, (∀ y ∈ cs, y = 0 ∨ y = 1 ∨ y = 2) → (∀ x ∈ L, Sm (B + 1) x) → ∀ x ∈ Xq t cs L, Sm (B + 1) x := fun {cs L} hc hL x hx => by
 rcases q8Q.1 hx with h | ⟨v, hv, rfl⟩
 ·exact hL x h
 ·exact qCu ht (hc v hv)
theorem q8Z {t : T3} : ∀ {cs : List Int} {L : List T3}, (Xq t cs L).length ≤ L.length + cs.length
 | [], L => Nat.le_refl _
 | v :: l, L => by
  simp only [Xq]
  have := q8Z (t := t) (cs := l) (L := q7T L (q7S t v))
  have := qEL (L := L) (t := q7S t v)
  rw [List.length_cons]
  omega
theorem q8a {cs : List Int} : ∀ {S L : List T3}, (Xr cs S L).length ≤ L.length + S.length * cs.length
 | [], L => by simp [Xr]
 | t :: S, L => by
  simp only [Xr]
  have := q8a (cs := cs) (S := S) (L := Xq t cs L)
  have := q8Z (t := t) (cs := cs) (L := L)
  rw [List.length_cons, Nat.add_mul, Nat.one_mul]
  omega
set_option maxHeartbeats 1000000 in
theorem qKn {Q : AX → St → Prop} (k : Int) (ins : Sl Int) (S : List T3) (sc : Option Nat) (sn : Option Bool) (i a : Nat) (ha : a < S.length) (hS : S.length ≤ 100000000) (t : T3) (ht : S.getD a ⟨0, 0, 0⟩ = t) (B : Nat) (hB : B + 1 ≤ 1000) (hSm : Sm B t) (cs : List Int) (hcs : cs.length ≤ 3) (h012 : ∀ y ∈ cs, y = 0 ∨ y = 1 ∨ y = 2) (cc : Option Nat) (cn : Option Bool) (R : List T3)
  (h0 : Q (.exit 4) ⟨cdE k ins S sc sn i ++ [(7, .ls 78 0 R.length none), (8, .t (.sl (Ak cs) cc cn)), (9, .t (tI a)), (10, .t (tI cs.length)), (43, .t (tB false))], [(78, .sl 243 3 (B1 tT3 R))]⟩) :
  ∀ (f b : Nat) (L : List T3), f + b = cs.length → L.length + f ≤ 200000000 → (∀ x ∈ L, Sm (B + 1) x) → Xq t (cs.drop b) L = R →
  run Tryz.prog Γ Nj Q ⟨cdE k ins S sc sn i ++ [(7, .ls 78 0 L.length none), (8, .t (.sl (Ak cs) cc cn)), (9, .t (tI a)), (10, .t (tI b))], [(78, .sl 243 3 (B1 tT3 L))]⟩
 | 0, b, L, h, hl, hs, hR => by
  refine Wg fun K hK => ?_
  have h2 : b = cs.length := by omega
  subst h2
  rw [List.drop_of_length_le (Nat.le_refl _)] at hR
  have hR : L = R := hR
  subst hR
  simp [cdE, tV, A5] at h0
  simp [cdE, tV, A5]
  simpa using h0
 | f + 1, b, L, h, hl, hs, hR => by
  refine Wg fun K hK => ?_
  have h2 : b < cs.length := by omega
  rw [List.drop_eq_getElem_cons h2] at hR
  simp only [Xq] at hR
  have hy := h012 _ (List.getElem_mem h2)
  have hxs := qCu hSm hy
  have hpl := qEL (L := L) (t := q7S t cs[b])
  have ih := qKn k ins S sc sn i a ha hS t ht B hB hSm cs hcs h012 cc cn R h0 f (b + 1) (q7T L (q7S t cs[b])) (by omega) (by omega) (qKC hs hxs) hR
  have e1 := gE (f := tI) 0 h2
  have e1' := Jv (f := tI) 0 h2
  rw [B5 h2] at e1 e1'
  generalize cs[b] = y at *
  have hLb : L.length ≤ 200000000 := by omega
  have hLz : L.length + 0 = L.length := rfl
  have g := fun Q h0 => qKm (Γ := Γ) (Q := Q) k ins S sc sn i a b cs cc cn L hLb (B + 1) hB hs (q7S t y) hxs h0 L.length 0 hLz
  have e2 : (B1 tT3 S)[a]?.getD [] = tT3 t := by rw [← ht]; simp [B1, ha, List.getD_eq_getElem?_getD]
  have e2' : ∀ h, (B1 tT3 S)[a]'h = tT3 t := fun h => by rw [← ht]; simp [B1, ha, List.getD_eq_getElem?_getD]
  have w1 : IntKind.i64.wrap ((b : Int) + 1) = (b : Int) + 1 := by rw [A9] <;> omega
  have vt : (B1 tT3 L).take L.length = B1 tT3 L := qBE
  have vs : ∀ x, B1 tT3 L ++ [tT3 x] = B1 tT3 (L ++ [x]) := fun x => q1T
  obtain ⟨⟨a0, a1⟩, ⟨b0, b1⟩, ⟨d0, d1⟩⟩ := hSm
  have wa : IntKind.i64.wrap (t.a + 1) = t.a + 1 := by rw [A9] <;> omega
  have wb : IntKind.i64.wrap (t.b + 1) = t.b + 1 := by rw [A9] <;> omega
  have wd : IntKind.i64.wrap (t.d + 1) = t.d + 1 := by rw [A9] <;> omega
  rcases hy with rfl | rfl | rfl
  ·have hx : q7S t 0 = ⟨t.a + 1, t.b, t.d⟩ := rfl
   rw [hx] at ih g
   have vx := vs ⟨t.a + 1, t.b, t.d⟩
   simp only [tT3] at vx e2 e2'
   simp [cdE, tV] at g ih
   simp [cdE, tV, A5, A8, Ac, L9, h2, ha, e1, e1', e2, e2', wa, wb, wd]
   refine g _ ?_
   by_cases hm : (⟨t.a + 1, t.b, t.d⟩ : T3) ∈ L
   ·simp [q7T, hm] at ih
    simp [hm, w1]
    rw [hK]
    simpa using ih
   ·simp [q7T, hm] at ih
    simp [hm, Ac, L9, vt, vx, w1]
    refine ⟨by omega, ?_⟩
    rw [hK]
    simpa using ih
  ·have hx : q7S t 1 = ⟨t.a, t.b + 1, t.d⟩ := rfl
   rw [hx] at ih g
   have vx := vs ⟨t.a, t.b + 1, t.d⟩
   simp only [tT3] at vx e2 e2'
   simp [cdE, tV] at g ih
   simp [cdE, tV, A5, A8, Ac, L9, h2, ha, e1, e1', e2, e2', wa, wb, wd]
   refine g _ ?_
   by_cases hm : (⟨t.a, t.b + 1, t.d⟩ : T3) ∈ L
   ·simp [q7T, hm] at ih
    simp [hm, w1]
    rw [hK]
    simpa using ih
   ·simp [q7T, hm] at ih
    simp [hm, Ac, L9, vt, vx, w1]
    refine ⟨by omega, ?_⟩
    rw [hK]
    simpa using ih
  ·have hx : q7S t 2 = ⟨t.a, t.b, t.d + 1⟩ := rfl
   rw [hx] at ih g
   have vx := vs ⟨t.a, t.b, t.d + 1⟩
   simp only [tT3] at vx e2 e2'
   simp [cdE, tV] at g ih
   simp [cdE, tV, A5, A8, Ac, L9, h2, ha, e1, e1', e2, e2', wa, wb, wd]
   refine g _ ?_
   by_cases hm : (⟨t.a, t.b, t.d + 1⟩ : T3) ∈ L
   ·simp [q7T, hm] at ih
    simp [hm, w1]
    rw [hK]
    simpa using ih
   ·simp [q7T, hm] at ih
    simp [hm, Ac, L9, vt, vx, w1]
    refine ⟨by omega, ?_⟩
    rw [hK]
    simpa using ih
theorem qKo {Q : AX → St → Prop} (k : Int) (ins : Sl Int) (S : List T3) (sc : Option Nat) (sn : Option Bool) (i : Nat) (hS : S.length ≤ 50000000) (B : Nat) (hB : B + 1 ≤ 1000) (hSm : ∀ t ∈ S, Sm B t) (cs : List Int) (hcs : cs.length ≤ 3) (h012 : ∀ y ∈ cs, y = 0 ∨ y = 1 ∨ y = 2) (cc : Option Nat) (cn : Option Bool) (R : List T3)
  (h0 : Q (.exit 2) ⟨cdE k ins S sc sn i ++ [(7, .ls 78 0 R.length none), (8, .t (.sl (Ak cs) cc cn)), (9, .t (tI S.length)), (37, .t (tB false))], [(78, .sl 243 3 (B1 tT3 R))]⟩) :
  ∀ (f a : Nat) (L : List T3), f + a = S.length → L.length + 3 * f ≤ 200000000 → (∀ x ∈ L, Sm (B + 1) x) → Xr cs (S.drop a) L = R →
  run Tryz.prog Γ Nk Q ⟨cdE k ins S sc sn i ++ [(7, .ls 78 0 L.length none), (8, .t (.sl (Ak cs) cc cn)), (9, .t (tI a))], [(78, .sl 243 3 (B1 tT3 L))]⟩
 | 0, a, L, h, hl, hs, hR => by
  refine Wh fun K hK => ?_
  have h2 : a = S.length := by omega
  subst h2
  rw [List.drop_of_length_le (Nat.le_refl _)] at hR
  have hR : L = R := hR
  subst hR
  simp [cdE, tV, Ac] at h0
  simp [cdE, tV, Ac]
  simpa using h0
 | f + 1, a, L, h, hl, hs, hR => by
  refine Wh fun K hK => ?_
  have h2 : a < S.length := by omega
  rw [List.drop_eq_getElem_cons h2] at hR
  simp only [Xr] at hR
  have hSa := hSm _ (List.getElem_mem h2)
  have hsl := q8Z (t := S[a]) (cs := cs) (L := L)
  have ih := qKo k ins S sc sn i hS B hB hSm cs hcs h012 cc cn R h0 f (a + 1) (Xq S[a] cs L) (by omega) (by omega) (qIn hSa h012 hs) hR
  have hSb : S.length ≤ 100000000 := by omega
  have hSg : S.getD a ⟨0, 0, 0⟩ = S[a] := by simp [List.getD_eq_getElem?_getD, h2]
  have hcz : cs.length + 0 = cs.length := rfl
  have hlb : L.length + cs.length ≤ 200000000 := by omega
  have hsd : Xq S[a] (cs.drop 0) L = Xq S[a] cs L := by rw [List.drop_zero]
  generalize S[a] = t at *
  have g := fun Q h0 => qKn (Γ := Γ) (Q := Q) k ins S sc sn i a h2 hSb t hSg B hB hSa cs hcs h012 cc cn (Xq t cs L) h0 cs.length 0 L hcz hlb hs hsd
  have w1 : IntKind.i64.wrap ((a : Int) + 1) = (a : Int) + 1 := by rw [A9] <;> omega
  generalize Xq t cs L = L2 at *
  simp [cdE, tV] at g ih
  simp [cdE, tV, Ac, h2]
  refine g _ ?_
  simp [w1]
  rw [hK]
  simpa using ih
theorem qEM {B : Nat} {cs : List Int} {S L : List T3} (hS : ∀ t ∈ S, Sm B t) (hc : ∀ y ∈ cs, y = 0 ∨ y = 1 ∨ y = 2) (hL : ∀ x ∈ L, Sm (B + 1) x) : ∀ x ∈ Xr cs S L, Sm (B + 1) x := fun x hx => by
 rcases q4u.1 hx with h | ⟨t, ht, v, hv, rfl⟩
 ·exact hL x h
 ·exact qCu (hS t ht) (hc v hv)
theorem qKp {Q : AX → St → Prop} (k : Int) (ins : Sl Int) (hi : ins.l.length ≤ 16) (R : List T3)
  (h0 : ∀ sc sn, Q (.exit 0) ⟨cdE k ins R sc sn ins.l.length ++ [(24, .t (tB false))], []⟩) :
  ∀ (f i : Nat) (S : List T3) (sc : Option Nat) (sn : Option Bool), f + i = ins.l.length → S.length ≤ 3 ^ i → (∀ t ∈ S, Sm i t) → Zq (decide (k = 13)) (ins.l.drop i) S = R →
  run Tryz.prog Γ Nl Q ⟨cdE k ins S sc sn i, []⟩
 | 0, i, S, sc, sn, h, hl, hs, hR => by
  refine Wi fun K hK => ?_
  have h2 : i = ins.l.length := by omega
  subst h2
  rw [List.drop_of_length_le (Nat.le_refl _)] at hR
  have hR : S = R := hR
  subst hR
  have h0 := h0 sc sn
  simp [cdE, tV, A5] at h0
  simp [cdE, tV, A5]
  simpa using h0
 | f + 1, i, S, sc, sn, h, hl, hs, hR => by
  refine Wi fun K hK => ?_
  have h2 : i < ins.l.length := by omega
  rw [List.drop_eq_getElem_cons h2] at hR
  simp only [Zq] at hR
  have h3 : 3 ^ i ≤ 3 ^ 15 := Nat.pow_le_pow_right (by omega) (by omega)
  have h15 : 3 ^ 15 = 14348907 := by decide
  have hcl := q7h (v := ins.l[i]) (b := decide (k = 13))
  have h012 : ∀ y ∈ By ins.l[i] (decide (k = 13)), y = 0 ∨ y = 1 ∨ y = 2 := fun y hy => qCn hy
  have hc := S4 (Γ := Γ) ins.l[i] (decide (k = 13))
  have e1 := gE (f := tK) 0 h2
  have e1' := Jv (f := tK) 0 h2
  rw [B5 h2] at e1 e1'
  generalize By ins.l[i] (decide (k = 13)) = cs at *
  generalize ins.l[i] = v at *
  have hsl := q8a (cs := cs) (S := S) (L := [])
  have hmul : S.length * cs.length ≤ 3 ^ i * 3 := Nat.mul_le_mul hl hcl
  have hss := qEM (L := []) hs h012 (fun x hx => by cases hx)
  have ih := fun sc sn => qKp k ins hi R h0 f (i + 1) (Xr cs S []) sc sn (by omega) (by rw [Nat.pow_succ]; simp only [List.length_nil] at hsl; omega) hss hR
  have g := fun Q cc cn h0 => qKo (Γ := Γ) (Q := Q) k ins S sc sn i (by omega) i (by omega) hs cs hcl h012 cc cn (Xr cs S []) h0 S.length 0 [] (by omega) (by simp only [List.length_nil]; omega) (fun x hx => by cases hx) (by rw [List.drop_zero])
  have hz : B1 tT3 ([] : List T3) = [] := rfl
  have w1 : IntKind.i64.wrap ((i : Int) + 1) = (i : Int) + 1 := by rw [A9] <;> omega
  generalize Xr cs S [] = L2 at *
  simp only [List.length_nil, hz] at g
  simp [cdE, tV] at g ih
  by_cases h13 : k = 13
  ·subst h13
   simp at hc
   simp [cdE, tV, A5, A8, h2, e1, e1']
   refine Ae hc rfl ?_
   simp
   refine g _ _ _ ?_
   simp [St.freeze, Bn.closed, Do, frz1, frz0, I8, del, Am, w1]
   rw [hK]
   simpa using ih _ _
  ·simp [h13] at hc
   simp [cdE, tV, A5, A8, h2, e1, e1', h13]
   refine Ae hc rfl ?_
   simp
   refine g _ _ _ ?_
   simp [St.freeze, Bn.closed, Do, frz1, frz0, I8, del, Am, w1]
   rw [hK]
   simpa using ih _ _
def ceE (k : Int) (S : List T3) (sc : Option Nat) (sn : Option Bool) (out : List Int) (s : Nat) : List (Nat × AV) := [(0, .t (tK k)), (5, .t (.sl (B1 tT3 S) sc sn)), (14, .ls 109 0 out.length none), (15, .t (tI s))]
theorem qGQ {Q : AX → St → Prop} (k : Int) (S : List T3) (sc : Option Nat) (sn : Option Bool) (out : List Int) (s : Nat) (hs : s < S.length) (hS : S.length ≤ 100000000) (t : T3) (ht : S.getD s ⟨0, 0, 0⟩ = t) (v c : Int) (hv : (v = 0 ∧ c = t.a) ∨ (v = 1 ∧ c = t.b) ∨ (v = 2 ∧ c = t.d)) (hc : 0 ≤ c ∧ c ≤ 1000) (l0 : List Int) (hl0 : l0.length ≤ 10000)
  (h0 : Q (.exit 12) ⟨ceE k S sc sn out s ++ [(16, .ls 103 0 (l0 ++ List.replicate c.toNat v).length none), (17, .t (tI v)), (18, .t (tI c.toNat)), (97, .t (tB false))], [(103, .sl 3 1 (Ak (l0 ++ List.replicate c.toNat v))), (109, .sl 3 1 (Ak out))]⟩) :
  ∀ (f n : Nat), f + n = c.toNat → run Tryz.prog Γ Nn Q ⟨ceE k S sc sn out s ++ [(16, .ls 103 0 (l0 ++ List.replicate n v).length none), (17, .t (tI v)), (18, .t (tI n))], [(103, .sl 3 1 (Ak (l0 ++ List.replicate n v))), (109, .sl 3 1 (Ak out))]⟩
 | 0, n, h => by
  refine Wj fun K hK => ?_
  have h2 : n = c.toNat := by omega
  subst h2
  have e2 : (B1 tT3 S)[s]?.getD [] = tT3 t := by rw [← ht]; simp [B1, hs, List.getD_eq_getElem?_getD]
  have e2' : ∀ h, (B1 tT3 S)[s]'h = tT3 t := fun h => by rw [← ht]; simp [B1, hs, List.getD_eq_getElem?_getD]
  simp only [tT3] at e2 e2'
  have hcc : ((c.toNat : Nat) : Int) = c := by omega
  have hcm : max c 0 = c := by omega
  simp [ceE] at h0
  rcases hv with ⟨rfl, rfl⟩ | ⟨rfl, rfl⟩ | ⟨rfl, rfl⟩
  ·simp [ceE, Ac, L9, hs, e2, e2', hcm]
   simpa [hcm] using h0
  ·simp [ceE, Ac, L9, hs, e2, e2', hcm]
   simpa [hcm] using h0
  ·simp [ceE, Ac, L9, hs, e2, e2', hcm]
   simpa [hcm] using h0
 | f + 1, n, h => by
  refine Wj fun K hK => ?_
  have h2 : (n : Int) < c := by omega
  have ih := qGQ k S sc sn out s hs hS t ht v c hv hc l0 hl0 h0 f (n + 1) (by omega)
  rw [List.replicate_succ', ← List.append_assoc] at ih
  have e2 : (B1 tT3 S)[s]?.getD [] = tT3 t := by rw [← ht]; simp [B1, hs, List.getD_eq_getElem?_getD]
  have e2' : ∀ h, (B1 tT3 S)[s]'h = tT3 t := fun h => by rw [← ht]; simp [B1, hs, List.getD_eq_getElem?_getD]
  simp only [tT3] at e2 e2'
  have hll : (l0 ++ List.replicate n v).length ≤ 20000 := by simp; omega
  generalize l0 ++ List.replicate n v = l at *
  have w1 : IntKind.i64.wrap ((n : Int) + 1) = (n : Int) + 1 := by rw [A9] <;> omega
  have vt : (Ak l).take l.length = Ak l := Ar
  have vs : Ak l ++ [[tI v]] = Ak (l ++ [v]) := D2
  simp [ceE] at ih
  rcases hv with ⟨rfl, rfl⟩ | ⟨rfl, rfl⟩ | ⟨rfl, rfl⟩
  ·simp [ceE, Ac, L9, hs, e2, e2', h2, A5, A8, vt, vs, w1]
   refine ⟨by omega, ?_⟩
   rw [hK]
   simpa using ih
  ·simp [ceE, Ac, L9, hs, e2, e2', h2, A5, A8, vt, vs, w1]
   refine ⟨by omega, ?_⟩
   rw [hK]
   simpa using ih
  ·simp [ceE, Ac, L9, hs, e2, e2', h2, A5, A8, vt, vs, w1]
   refine ⟨by omega, ?_⟩
   rw [hK]
   simpa using ih
theorem qM9 {Q : AX → St → Prop} (k : Int) (S : List T3) (sc : Option Nat) (sn : Option Bool) (out : List Int) (s : Nat) (hs : s < S.length) (hS : S.length ≤ 100000000) (t : T3) (ht : S.getD s ⟨0, 0, 0⟩ = t) (hSm : Sm 1000 t)
  (h0 : Q (.exit 10) ⟨ceE k S sc sn out s ++ [(16, .ls 103 0 (Yg t).length none), (17, .t (tI 3)), (87, .t (tB false))], [(103, .sl 3 1 (Ak (Yg t))), (109, .sl 3 1 (Ak out))]⟩) :
  run Tryz.prog Γ L1 Q ⟨ceE k S sc sn out s ++ [(16, .ls 103 0 0 none), (17, .t (tI 0))], [(103, .sl 3 1 []), (109, .sl 3 1 (Ak out))]⟩ := by
 obtain ⟨ha, hb, hd⟩ := hSm
 have g0 := fun Q h0 => qGQ (Γ := Γ) (Q := Q) k S sc sn out s hs hS t ht 0 t.a (.inl ⟨rfl, rfl⟩) (by omega) [] (by simp) h0 t.a.toNat 0 (by omega)
 have g1 := fun Q h0 => qGQ (Γ := Γ) (Q := Q) k S sc sn out s hs hS t ht 1 t.b (.inr (.inl ⟨rfl, rfl⟩)) (by omega) (List.replicate t.a.toNat 0) (by simp; omega) h0 t.b.toNat 0 (by omega)
 have g2 := fun Q h0 => qGQ (Γ := Γ) (Q := Q) k S sc sn out s hs hS t ht 2 t.d (.inr (.inr ⟨rfl, rfl⟩)) (by omega) (List.replicate t.a.toNat 0 ++ List.replicate t.b.toNat 1) (by simp; omega) h0 t.d.toNat 0 (by omega)
 simp only [List.append_assoc] at g2
 rw [show List.replicate t.a.toNat (0 : Int) ++ (List.replicate t.b.toNat 1 ++ List.replicate t.d.toNat 2) = Yg t from rfl] at g2
 simp only [List.replicate_zero, List.nil_append, List.append_nil, List.length_nil, Cf] at g0 g1 g2
 generalize Yg t = A3 at *
 generalize List.replicate t.a.toNat (0 : Int) ++ List.replicate t.b.toNat 1 = A2 at *
 generalize List.replicate t.a.toNat (0 : Int) = A1 at *
 simp [ceE] at g0 g1 g2 h0
 have wl1 : IntKind.i64.wrap 1 = 1 := by decide
 have wl2 : IntKind.i64.wrap 2 = 2 := by decide
 have wl3 : IntKind.i64.wrap 3 = 3 := by decide
 simp only [ceE, List.cons_append, List.nil_append]
 refine Gw fun K hK => ?_
 simp [wl1, wl2, wl3]
 refine g0 _ ?_
 simp [wl1, wl2, wl3]
 rw [hK]
 refine Gw fun K hK => ?_
 simp [wl1, wl2, wl3]
 refine g1 _ ?_
 simp [wl1, wl2, wl3]
 rw [hK]
 refine Gw fun K hK => ?_
 simp [wl1, wl2, wl3]
 refine g2 _ ?_
 simp [wl1, wl2, wl3]
 rw [hK]
 refine Gw fun K hK => ?_
 simp [wl1, wl2, wl3]
 simpa using h0
theorem qIo {B : Nat} {t : T3} (h : Sm B t) : (Yg t).length ≤ 3 * B := by
 obtain ⟨ha, hb, hd⟩ := h
 simp [Yg]
 omega
theorem qIp {Q : AX → St → Prop} (k : Int) (hk : 5 ≤ k ∧ k ≤ 10 ∨ k = 13) (S : List T3) (sc : Option Nat) (sn : Option Bool) (hS : S.length ≤ 100000000) (hSm : ∀ t ∈ S, Sm 1000 t)
  (h0 : Q (.exit 8) ⟨ceE k S sc sn (S.map fun t => Jq k (Yg t)) S.length ++ [(83, .t (tB false))], [(109, .sl 3 1 (Ak (S.map fun t => Jq k (Yg t))))]⟩) :
  ∀ (f s : Nat), f + s = S.length → run Tryz.prog Γ L6 Q ⟨ceE k S sc sn ((S.take s).map fun t => Jq k (Yg t)) s, [(109, .sl 3 1 (Ak ((S.take s).map fun t => Jq k (Yg t))))]⟩
 | 0, s, h => by
  refine U8 fun K hK => ?_
  have h2 : s = S.length := by omega
  subst h2
  rw [List.take_length]
  simp [ceE, Ac] at h0
  simp [ceE, Ac]
  simpa using h0
 | f + 1, s, h => by
  refine U8 fun K hK => ?_
  have h2 : s < S.length := by omega
  have ih := qIp k hk S sc sn hS hSm h0 f (s + 1) (by omega)
  rw [← List.take_append_getElem h2, List.map_append, List.map_cons, List.map_nil] at ih
  have hol : ((S.take s).map fun t => Jq k (Yg t)).length = s := by simp; omega
  generalize ((S.take s).map fun t => Jq k (Yg t)) = out at *
  have hSs := hSm _ (List.getElem_mem h2)
  have hll := qIo hSs
  have hSg : S.getD s ⟨0, 0, 0⟩ = S[s] := by simp [List.getD_eq_getElem?_getD, h2]
  generalize S[s] = t at *
  have g := fun Q h0 => qM9 (Γ := Γ) (Q := Q) k S sc sn out s h2 hS t hSg hSs h0
  have hf := q5f (Γ := Γ) k (by omega) ⟨Yg t, none, none⟩ (by show (Yg t).length ≤ _; omega) (fun h => by omega) (fun h => by omega) (fun h => by omega)
  simp only at hf
  generalize Jq k (Yg t) = r at *
  generalize Yg t = l at *
  have w1 : IntKind.i64.wrap ((s : Int) + 1) = (s : Int) + 1 := by rw [A9] <;> omega
  have lt : (Ak l).take l.length = Ak l := Ar
  have vt : (Ak out).take s = Ak out := by rw [← hol]; exact Ar
  have vs : Ak out ++ [[tI r]] = Ak (out ++ [r]) := D2
  simp [Av] at hf
  simp [ceE] at g ih
  simp [ceE, Ac, h2, hol]
  rw [hol] at g
  refine g _ ?_
  simp
  refine A4 hf (by simp [Am, lt]) ?_
  simp [A5, A8, vt, vs, hol, w1]
  refine ⟨by omega, ?_⟩
  rw [hK]
  simpa [hol] using ih
theorem qEN {b : Bool} : ∀ {l : List Int} {S : List T3} {B : Nat}, (∀ t ∈ S, Sm B t) → ∀ t ∈ Zq b l S, Sm (B + l.length) t
 | [], S, B, h => by simpa only [Zq, List.length_nil, Nat.add_zero] using h
 | v :: l, S, B, h => by
  simp only [Zq]
  have := qEN (b := b) (l := l) (S := Xr (By v b) S []) (B := B + 1) (qEM h (fun y hy => qCn hy) (fun x hx => by cases hx))
  intro t ht
  have := this t ht
  rwa [List.length_cons, Nat.add_comm l.length, ← Nat.add_assoc]
theorem q8b {b : Bool} : ∀ {l : List Int} {S : List T3}, (Zq b l S).length ≤ S.length * 3 ^ l.length
 | [], S => by simp [Zq]
 | v :: l, S => by
  simp only [Zq]
  have h1 := q8b (b := b) (l := l) (S := Xr (By v b) S [])
  have h2 := q8a (cs := By v b) (S := S) (L := [])
  have h3 := q7h (v := v) (b := b)
  have h4 : S.length * (By v b).length ≤ S.length * 3 := Nat.mul_le_mul_left _ h3
  simp only [List.length_nil, Nat.zero_add] at h2
  refine Nat.le_trans h1 ?_
  rw [List.length_cons, Nat.pow_succ, Nat.mul_comm (3 ^ l.length) 3, ← Nat.mul_assoc]
  exact Nat.mul_le_mul_right _ (Nat.le_trans h2 h4)
theorem qCv (k : Int) (hk : 5 ≤ k ∧ k ≤ 10 ∨ k = 13) (ins : Sl Int) (hi : ins.l.length ≤ 16) : Ah Tryz.prog Γ 178 [tK k, tV ins] (.sl (Ak (M3 k ins.l)) none none) := by
 refine B7 q7e rfl ?_
 have hz : Sm 0 ⟨0, 0, 0⟩ := ⟨⟨Int.le_refl _, Int.le_refl _⟩, ⟨Int.le_refl _, Int.le_refl _⟩, ⟨Int.le_refl _, Int.le_refl _⟩⟩
 have hz' : ∀ t ∈ [(⟨0, 0, 0⟩ : T3)], Sm 0 t := fun t ht => by simp at ht; subst ht; exact hz
 have hsm := qEN (b := decide (k = 13)) (l := ins.l) hz'
 have hsl := q8b (b := decide (k = 13)) (l := ins.l) (S := [⟨0, 0, 0⟩])
 have h3 : 3 ^ ins.l.length ≤ 3 ^ 16 := Nat.pow_le_pow_right (by omega) hi
 have h16 : 3 ^ 16 = 43046721 := by decide
 simp only [List.length_cons, List.length_nil, Nat.zero_add, Nat.one_mul] at hsl
 have g7 := fun Q sc sn h0 => qKp (Γ := Γ) (Q := Q) k ins hi (Zq (decide (k = 13)) ins.l [⟨0, 0, 0⟩]) h0 ins.l.length 0 [⟨0, 0, 0⟩] sc sn (by omega) (by simp) hz' (by rw [List.drop_zero])
 unfold M3
 generalize Zq (decide (k = 13)) ins.l [⟨0, 0, 0⟩] = S at *
 have g13 := fun Q sc sn h0 => qIp (Γ := Γ) (Q := Q) k hk S sc sn (by omega) (fun t ht => (hsm t ht).mono (by omega)) h0 S.length 0 (by omega)
 simp only [List.take_zero, List.map_nil, Cf] at g13
 have hRl : (S.map fun t => Jq k (Yg t)).length = S.length := by simp
 have ht : (Ak (S.map fun t => Jq k (Yg t))).take S.length = Ak (S.map fun t => Jq k (Yg t)) := List.take_of_length_le (by rw [A5, hRl]; exact Nat.le_refl _)
 generalize (S.map fun t => Jq k (Yg t)) = R at *
 simp [cdE, ceE, tV, B1, tT3] at g7
 simp [ceE] at g13
 simp [q1s, tV]
 refine g7 _ _ _ (fun sc sn => ?_)
 simp
 refine g13 _ _ _ ?_
 simp [q1t, Am, hRl, ht]
theorem qKq {Q : AX → St → Prop} (L : List Int) (lc : Option Nat) (ln : Option Bool) (hL : L.length ≤ 100000000) (hne : 0 < L.length)
  (h0 : (∀ x ∈ L, x = L.getD 0 0) → Q (.exit 0) ⟨[(5, .t (.sl (Ak L) lc ln)), (6, .t (tI L.length)), (27, .t (tB false))], []⟩) (h1 : (¬ ∀ x ∈ L, x = L.getD 0 0) → Q .ret ⟨[(4, .t (tK 2))], []⟩) :
  ∀ (f i : Nat), f + i = L.length → (∀ j, j < i → L.getD j 0 = L.getD 0 0) → run Tryz.prog Γ M8 Q ⟨[(5, .t (.sl (Ak L) lc ln)), (6, .t (tI i))], []⟩
 | 0, i, h, hj => by
  refine Zu fun K hK => ?_
  have h2 : i = L.length := by omega
  subst h2
  have := h0 fun x hx => by
   obtain ⟨j, hjl, rfl⟩ := List.getElem_of_mem hx
   rw [← B5 hjl]
   exact hj j hjl
  simp [A5]
  simpa using this
 | f + 1, i, h, hj => by
  refine Zu fun K hK => ?_
  have h2 : i < L.length := by omega
  have e1 := gE (f := tI) 0 h2
  have e1' := Jv (f := tI) 0 h2
  have e0 := gE (f := tI) 0 hne
  have e0' := Jv (f := tI) 0 hne
  have w1 : IntKind.i64.wrap ((i : Int) + 1) = (i : Int) + 1 := by rw [A9] <;> omega
  by_cases hx : L.getD i 0 = L.getD 0 0
  ·have ih := qKq L lc ln hL hne h0 h1 f (i + 1) (by omega) (fun j hj' => by
    rcases Nat.lt_succ_iff_lt_or_eq.1 hj' with h | rfl
    ·exact hj j h
    ·exact hx)
   rw [hx] at e1 e1'
   generalize L.getD 0 0 = x0 at *
   simp at ih
   simp [A5, A8, h2, hne, e1, e1', e0, e0', w1]
   rw [hK]
   simpa using ih
  ·have h9 := h1 fun hall => hx (hall _ (by rw [B5 h2]; exact List.getElem_mem h2))
   clear h1 h0
   generalize L.getD i 0 = x at *
   generalize L.getD 0 0 = x0 at *
   simp [A5, A8, h2, hne, e1, e1', e0, e0', hx, w1]
   simpa using h9
theorem qAw {b : Bool} : 0 ≤ Jx b ∧ Jx b ≤ 3 := by cases b <;> simp [Jx]
theorem qMA {k : Int} {z o : Nat} : 0 ≤ q1C k z o ∧ q1C k z o ≤ 3 := by
 unfold q1C
 split
 ·exact qAw
 split
 ·exact qAw
 split
 ·exact qAw
 split
 ·omega
 split
 ·omega
 ·exact qAw
theorem qMB {k : Int} (hk : 5 ≤ k ∧ k ≤ 10 ∨ k = 13) {l : List Int} : ∀ x ∈ M3 k l, 0 ≤ x ∧ x ≤ 3 := fun x hx => by
 obtain ⟨ys, _, rfl⟩ := (F8 hk).1 hx
 exact qMA
theorem qGR {l : List Int} {i : Nat} (h : ∀ y ∈ l, 0 ≤ y ∧ y ≤ 3) : 0 ≤ l.getD i 0 ∧ l.getD i 0 ≤ 3 := by
 rw [List.getD_eq_getElem?_getD]
 cases e : l[i]? with
 | none => simp
 | some x => exact h x (List.mem_of_getElem? e)
theorem qMC {k : Int} {l : List Int} (h : ∀ y ∈ l, 0 ≤ y ∧ y ≤ 3) : 0 ≤ Jq k l ∧ Jq k l ≤ 3 := by
 unfold Jq
 repeat' split
 all_goals first | exact qAw | exact qGR h | omega
theorem qIq {k : Int} {ins : List Int} : ∀ {n : Nat} {l : List Int}, (∀ y ∈ l, 0 ≤ y ∧ y ≤ 3) → ∀ x ∈ X5 k ins n l, 0 ≤ x ∧ x ≤ 3
 | 0, l, h, x, hx => by
  simp [X5] at hx
  subst hx
  exact qMC h
 | n + 1, l, h, x, hx => by
  simp only [X5, List.mem_flatMap] at hx
  obtain ⟨y, hy, hx⟩ := hx
  refine qIq (fun z hz => ?_) x hx
  rcases List.mem_append.1 hz with hz | hz
  ·exact h z hz
  ·simp at hz
   subst hz
   rcases qCn hy with rfl | rfl | rfl <;> omega
theorem qKD {v : Int} {b : Bool} : By v b ≠ [] := by unfold By; split; simp; split; simp; split; simp; split <;> simp
theorem qGS {k : Int} {ins : List Int} : ∀ {n : Nat} {l : List Int}, X5 k ins n l ≠ []
 | 0, l => by simp [X5]
 | n + 1, l => by
  simp only [X5]
  intro h
  rw [List.flatMap_eq_nil_iff] at h
  obtain ⟨y, hy⟩ := List.exists_mem_of_ne_nil _ (qKD (v := ins.getD l.length 0) (b := decide (k = 13)))
  exact qGS (h y hy)
theorem qEO (k : Int) (hk : 1 ≤ k ∧ k ≤ 13) (ins : Sl Int) (hi : Jy k ins.l.length = true) (hi16 : ins.l.length ≤ 16) : A6 Tryz.prog Γ 161 [tK k, tV ins] (tK (q6Z (if 5 ≤ k ∧ k ≤ 10 ∨ k = 13 then M3 k ins.l else X5 k ins.l ins.l.length []))) := by
 refine Aa q9U rfl ?_
 have key : ∀ (L : List Int), L.length ≤ 100000000 → 0 < L.length → (∀ x ∈ L, 0 ≤ x ∧ x ≤ 3) → ∀ (Q : AX → St → Prop), (∀ v, v = q6Z L → Q .ret ⟨[(4, .t (tK v))], []⟩) → ∀ lc ln, run Tryz.prog Γ M8 (Lh 0 (An (run Tryz.prog Γ (.seq (.reg [od 38 (.bsl true 64 1 [(ku 0), (ku 1), (ku 3), (ku 2)]), om 39 5, od 40 (.iadr 1 (tm 39) (ki 0)), od 41 (ld 1 40), od 42 (ia 1 38 41), od 43 (ld 1 42), om 4 43] [kp [4] []]) .ret) Q) Q)) ⟨[(5, .t (.sl (Ak L) lc ln)), (6, .t (tI 0))], []⟩ := by
  intro L hL hne h3 Q hQ lc ln
  have e0 := gE (f := tI) 0 hne
  have e0' := Jv (f := tI) 0 hne
  have hx := qGR (i := 0) h3
  have g := fun Q h0 h1 => qKq (Γ := Γ) (Q := Q) L lc ln hL hne h0 h1 L.length 0 (by omega) (fun j hj => absurd hj (Nat.not_lt_zero _))
  refine g _ (fun hall => ?_) (fun hall => ?_)
  ·have hc : q6Z L = [0, 1, 3, 2].getD (L.getD 0 0).toNat 0 := Ru (List.ne_nil_of_length_pos hne) hall
   rw [hc] at hQ
   clear hc hall
   generalize L.getD 0 0 = x at *
   have hx4 : x = 0 ∨ x = 1 ∨ x = 2 ∨ x = 3 := by omega
   rcases hx4 with rfl | rfl | rfl | rfl
   ·simp [A5, A8, hne, e0, e0', E2]
    exact ⟨A8, hQ _ rfl⟩
   ·simp [A5, A8, hne, e0, e0', E2]
    exact ⟨A8, hQ _ rfl⟩
   ·simp [A5, A8, hne, e0, e0', E2]
    exact ⟨A8, hQ _ rfl⟩
   ·simp [A5, A8, hne, e0, e0', E2]
    exact ⟨A8, hQ _ rfl⟩
  ·have : q6Z L = 2 := by
    unfold q6Z
    rw [if_neg]
    intro h
    rw [List.all_eq_true] at h
    exact hall fun x hx => by simpa using h x hx
   simp
   exact hQ 2 this.symm
 by_cases hc : 5 ≤ k ∧ k ≤ 10 ∨ k = 13
 ·rw [if_pos hc]
  have h1 := qCv (Γ := Γ) k hc ins hi16
  have hl : (M3 k ins.l).length ≤ 100000000 := by
   unfold M3
   rw [List.length_map]
   have hsl := q8b (b := decide (k = 13)) (l := ins.l) (S := [⟨0, 0, 0⟩])
   have h3 : 3 ^ ins.l.length ≤ 3 ^ 16 := Nat.pow_le_pow_right (by omega) hi16
   have h16 : 3 ^ 16 = 43046721 := by decide
   simp only [List.length_cons, List.length_nil, Nat.zero_add, Nat.one_mul] at hsl
   omega
  have key := key _ hl (List.length_pos_iff.2 (Yh hc)) (qMB hc)
  generalize M3 k ins.l = L at *
  simp [tV] at h1
  rcases hc with hc | rfl
  ·have a1 := hc.1
   have a2 := hc.2
   simp [M9, tV, a1, a2]
   refine Ae h1 rfl ?_
   simp
   refine key _ (fun v hv => ?_) _ _
   simp [Mc, hv]
  ·simp [M9, tV]
   refine Ae h1 rfl ?_
   simp
   refine key _ (fun v hv => ?_) _ _
   simp [Mc, hv]
 ·rw [if_neg hc]
  have hk' : 1 ≤ k ∧ k ≤ 4 ∨ k = 11 ∨ k = 12 := by omega
  have hi3 : ins.l.length ≤ 3 := by
   have hkc : k = 1 ∨ k = 2 ∨ k = 3 ∨ k = 4 ∨ k = 11 ∨ k = 12 := by omega
   have key : ∀ n, Jy k n = true → n ≤ 3 := by
    intro n hn
    rcases hkc with rfl | rfl | rfl | rfl | rfl | rfl <;> simp [Jy] at hn <;> omega
   exact key _ hi
  have h1 := q7i (Γ := Γ) k hk' ins hi hi3 ins.l.length ⟨[], some 0, some true⟩ (by simp)
  have hl : (X5 k ins.l ins.l.length []).length ≤ 100000000 := by
   refine Nat.le_trans (qAv _ _) ?_
   have h3 : 3 ^ ins.l.length ≤ 3 ^ 3 := Nat.pow_le_pow_right (by omega) hi3
   have : 3 ^ 3 = 27 := by decide
   omega
  have key := key _ hl (List.length_pos_iff.2 qGS) (qIq (fun y hy => by cases hy))
  simp only at h1
  generalize X5 k ins.l ins.l.length [] = L at *
  simp [tV, Av, Cf] at h1
  have a1 : ¬ (5 ≤ k ∧ k ≤ 10) := fun h => hc (.inl h)
  have a2 : ¬ k = 13 := fun h => hc (.inr h)
  by_cases a3 : 5 ≤ k
  ·have a4 : ¬ k ≤ 10 := fun h => a1 ⟨a3, h⟩
   simp [M9, tV, a2, a3, a4]
   refine A4 h1 rfl ?_
   simp
   refine key _ (fun v hv => ?_) _ _
   simp [Mc, hv]
  ·simp [M9, tV, a2, a3]
   refine A4 h1 rfl ?_
   simp
   refine key _ (fun v hv => ?_) _ _
   simp [Mc, hv]
theorem qCw (k : Int) (hk : 0 ≤ k ∧ k ≤ 15) (ins : Sl Int) (hi : ins.l.length ≤ 1000000) : A6 Tryz.prog Γ 128 [tK k, tV ins] (tK (qK9 k ins.l)) := by
 refine Aa qAs rfl ?_
 have ha := qCt (Γ := Γ) k hk ins.l.length
 unfold qK9
 cases hb : Jy k ins.l.length with
 | false =>
  rw [hb] at ha
  simp [q1E, tV, A5]
  refine A4 ha rfl ?_
  simp [q1F]
 | true =>
  rw [hb] at ha
  have hkc : 1 ≤ k ∧ k ≤ 13 := by
   have h : k = 0 ∨ k = 14 ∨ k = 15 ∨ (1 ≤ k ∧ k ≤ 13) := by omega
   rcases h with rfl | rfl | rfl | h
   ·simp [Jy] at hb
   ·simp [Jy] at hb
   ·simp [Jy] at hb
   ·exact h
  have h16 : ins.l.length ≤ 16 := by
   have key : ∀ n, Jy k n = true → n ≤ 16 := by
    intro n hn
    unfold Jy at hn
    repeat' split at hn
    all_goals simp at hn; omega
   exact key _ hb
  have hap := qEO (Γ := Γ) k hkc ins hb h16
  generalize q6Z (if 5 ≤ k ∧ k ≤ 10 ∨ k = 13 then M3 k ins.l else X5 k ins.l ins.l.length []) = r at *
  simp [tV] at hap
  simp [q1E, tV, A5]
  refine A4 ha rfl ?_
  simp
  refine A4 hap rfl ?_
  simp [q1F]
theorem q2a {c : Bd} {n : Int} (h0 : 0 ≤ n) (h : n < c.nodes.l.length) : ∀ h' : n.toNat < (B1 E0 c.nodes.l).length, (B1 E0 c.nodes.l)[n.toNat]'h' = E0 (nd c n) := fun h' => by
 have := q2S h0 h
 rw [List.getElem?_eq_getElem h'] at this
 simpa using this
theorem qIr {Q : AX → St → Prop} (c : Bd) (hc : COk c) (k : Int) (hn : c.nodes.l.length ≤ 1000000)
  (h0 : Q (.exit 0) ⟨[(1, .t (tK k)), (2, .t (.ip (tC c) 0)), (5, .ls 25 0 (N5 [k] c.nodes.l 0).length none), (6, .t (tI c.nodes.l.length)), (11, .t (tB false))], [(25, .sl 3 1 (Ak (N5 [k] c.nodes.l 0)))]⟩) :
  ∀ (f i : Nat), f + i = c.nodes.l.length → run Tryz.prog Γ q0n Q ⟨[(1, .t (tK k)), (2, .t (.ip (tC c) 0)), (5, .ls 25 0 (N5 [k] (c.nodes.l.take i) 0).length none), (6, .t (tI i))], [(25, .sl 3 1 (Ak (N5 [k] (c.nodes.l.take i) 0)))]⟩
 | 0, i, h => by
  refine q2s fun K hK => ?_
  have h2 : i = c.nodes.l.length := by omega
  subst h2
  rw [List.take_length]
  simp [tC, Ab, Ad, Ag, Av] at h0
  simp [tC, Ab, Ad, Ag, Av, Ac]
  simpa using h0
 | f + 1, i, h => by
  refine q2s fun K hK => ?_
  have h2 : i < c.nodes.l.length := by omega
  have ih := qIr c hc k hn h0 f (i + 1) (by omega)
  rw [qAi h2] at ih
  have hget := q2S (c := c) (n := (i : Int)) (by omega) (by omega)
  have hget' := q2a (c := c) (n := (i : Int)) (by omega) (by omega)
  have hk : (nd c i).k = Ap c i := by simp [nd, Ap]
  simp only [Int.toNat_natCast] at hget hget'
  have hle := V9 [k] (c.nodes.l.take i) 0
  rw [List.length_take] at hle
  generalize nd c i = x at *
  generalize N5 [k] (c.nodes.l.take i) 0 = out at *
  have w1 : IntKind.i64.wrap ((i : Int) + 1) = (i : Int) + 1 := by rw [A9] <;> omega
  have vt : (Ak out).take out.length = Ak out := Ar
  have vs : Ak out ++ [[tI i]] = Ak (out ++ [(i : Int)]) := D2
  by_cases h1 : x.k = k
  ·have hkk : [k].contains (Ap c i) = true := by rw [← hk, h1]; simp
   rw [hkk, if_pos rfl] at ih
   simp [tC, Ab, Ad, Ag, Av] at ih
   simp [tC, Ab, Ad, Ag, Av, Ac, h2, Bi, hget, hget', E0, h1, A5, A8, vt, vs, w1]
   refine ⟨by omega, ?_⟩
   rw [hK]
   simpa using ih
  ·have hkk : [k].contains (Ap c i) = false := by rw [← hk]; simp; exact h1
   rw [hkk, if_neg (by simp), List.append_nil] at ih
   simp [tC, Ab, Ad, Ag, Av] at ih
   simp [tC, Ab, Ad, Ag, Av, Ac, h2, Bi, hget, hget', E0, h1, w1]
   rw [hK]
   simpa using ih
theorem qAx (c : Bd) (hc : COk c) (k : Int) (hn : c.nodes.l.length ≤ 1000000) : Ah Tryz.prog Γ 60 [.agg (tC c), tK k] (.sl (Ak (N5 [k] c.nodes.l 0)) none none) := by
 refine B7 qCr rfl ?_
 have g := fun Q h0 => qIr (Γ := Γ) (Q := Q) c hc k hn h0 c.nodes.l.length 0 (by omega)
 have ht : (Ak (N5 [k] c.nodes.l 0)).take (N5 [k] c.nodes.l 0).length = Ak (N5 [k] c.nodes.l 0) := Ar
 have hz : N5 [k] (c.nodes.l.take 0) 0 = [] := rfl
 rw [hz] at g
 simp only [List.length_nil, Cf] at g
 generalize N5 [k] c.nodes.l 0 = R at *
 simp [tC, Ab, Ad, Ag, Av] at g
 simp [q9B, tC, Ab, Ad, Ag, Av]
 refine g _ ?_
 simp [q9C, Am, ht]
def rlE (c : Bd) (n r : Nat) (b : Bool) : List (Nat × AV) := [(1, .t (.ip (tC c) 0)), (4, .ls 13 0 n none), (5, .t (tI r)), (6, .t (tB b))]
def Bnd (φ : Nat → Nat) (n : Nat) (out : List Int) : Prop := ∀ q, q < n → 0 ≤ out.getD q 0 ∧ out.getD q 0 ≤ φ q
theorem qKr {Q : AX → St → Prop} (c : Bd) (φ : Nat → Nat) (n : Nat) (hn : n ≤ 1000000) (hφ : ∀ q, q < n → φ q < n) (r i : Nat) (hi : i < n) (x : Nd) (hcb : Cd x.k = true) (hxl : x.inn.l.length ≤ 1000000) (hin : ∀ p ∈ x.inn.l, 0 ≤ p ∧ p.toNat < n ∧ φ p.toNat < φ i) (R : List Int × Bool)
  (h0 : Q (.exit 4) ⟨rlE c n r R.2 ++ [(7, .t (tI i)), (8, .lp 8 0 0), (9, .t (tI x.inn.l.length)), (42, .t (tB false))], [(8, .bx ((E0 x).map .t)), (13, .sl 3 1 (Ak R.1))]⟩) :
  ∀ (f j : Nat) (out : List Int) (b : Bool), f + j = x.inn.l.length → out.length = n → Bnd φ n out → Gt i (x.inn.l.drop j) out b = R →
  run Tryz.prog Γ P3 Q ⟨rlE c n r b ++ [(7, .t (tI i)), (8, .lp 8 0 0), (9, .t (tI j))], [(8, .bx ((E0 x).map .t)), (13, .sl 3 1 (Ak out))]⟩
 | 0, j, out, b, h, ho, hb, hR => by
  refine I4 fun K hK => ?_
  have h2 : j = x.inn.l.length := by omega
  subst h2
  rw [List.drop_of_length_le (Nat.le_refl _)] at hR
  have hR : (out, b) = R := hR
  subst hR
  simp [rlE, E0, Av] at h0
  simp [rlE, E0, Av, A5]
  simpa using h0
 | f + 1, j, out, b, h, ho, hb, hR => by
  refine I4 fun K hK => ?_
  have h2 : j < x.inn.l.length := by omega
  rw [List.drop_eq_getElem_cons h2] at hR
  simp only [Gt] at hR
  obtain ⟨p0, p1, p2⟩ := hin _ (List.getElem_mem h2)
  have e1 := gE (f := tI) 0 h2
  have e1' := Jv (f := tI) 0 h2
  rw [B5 h2] at e1 e1'
  have ih := fun o' b' hl hb' hR' => qKr c φ n hn hφ r i hi x hcb hxl hin R h0 f (j + 1) o' b' (by omega) hl hb' hR'
  generalize x.inn.l[j] = p at *
  have hi' : i < out.length := by omega
  have hq' : p.toNat < out.length := by omega
  have e2 := gE (f := tI) 0 hi'
  have e2' := Jv (f := tI) 0 hi'
  have e3 := gE (f := tI) 0 hq'
  have e3' := Jv (f := tI) 0 hq'
  have b1 := hb i hi
  have b2 := hb p.toNat p1
  have f1 := hφ i hi
  have hp1 : p < n := by omega
  have hcmb := q2Z (Γ := Γ) x.k
  rw [hcb] at hcmb
  have w1 : IntKind.i64.wrap ((j : Int) + 1) = (j : Int) + 1 := by rw [A9] <;> omega
  have w2 : IntKind.i64.wrap (out.getD p.toNat 0 + 1) = out.getD p.toNat 0 + 1 := by rw [A9] <;> omega
  have hs : (Ak out).set i [tI (out.getD p.toNat 0 + 1)] = Ak (out.set i (out.getD p.toNat 0 + 1)) := Fj
  by_cases hlt : out.getD i 0 < out.getD p.toNat 0 + 1
  ·rw [if_pos hlt] at hR
   have ih := ih _ _ (by rw [List.length_set]; exact ho) (fun q hq => by
    rw [Ej hi']
    split
    ·rename_i e; subst e; omega
    ·exact hb q hq) hR
   generalize out.getD i 0 = u at *
   generalize out.getD p.toNat 0 = v at *
   simp [rlE, E0, Av] at ih
   simp [rlE, E0, Av, A5, A8, h2]
   refine A4 hcmb rfl ?_
   simp [h2, hi, ho, p0, p1, hp1, e1, e1', e2, e2', e3, e3', w1, w2, hlt, hs, A5, A8]
   rw [hK]
   simpa using ih
  ·rw [if_neg hlt] at hR
   have ih := ih _ _ ho hb hR
   generalize out.getD i 0 = u at *
   generalize out.getD p.toNat 0 = v at *
   simp [rlE, E0, Av] at ih
   simp [rlE, E0, Av, A5, A8, h2]
   refine A4 hcmb rfl ?_
   simp [h2, hi, ho, p0, p1, hp1, e1, e1', e2, e2', e3, e3', w1, w2, hlt, A5, A8]
   rw [hK]
   simpa using ih
theorem qKs {Q : AX → St → Prop} (c : Bd) (H : ROk c) (φ : Nat → Nat) (hpl : Plc c φ) (hn : c.nodes.l.length ≤ 1000000) (r : Nat) (R : List Int × Bool)
  (h0 : Q (.exit 2) ⟨rlE c c.nodes.l.length r R.2 ++ [(7, .t (tI c.nodes.l.length)), (25, .t (tB false))], [(13, .sl 3 1 (Ak R.1))]⟩) :
  ∀ (f i : Nat) (out : List Int) (b : Bool), f + i = c.nodes.l.length → out.length = c.nodes.l.length → Bnd φ c.nodes.l.length out → L8 c f i (out, b) = R →
  run Tryz.prog Γ P4 Q ⟨rlE c c.nodes.l.length r b ++ [(7, .t (tI i))], [(13, .sl 3 1 (Ak out))]⟩
 | 0, i, out, b, h, ho, hb, hR => by
  refine Xt fun K hK => ?_
  have h2 : i = c.nodes.l.length := by omega
  subst h2
  have hR : (out, b) = R := hR
  subst hR
  simp [rlE, tC, Ab, Ad, Ag, Av] at h0
  simp [rlE, tC, Ab, Ad, Ag, Av, Ac]
  simpa using h0
 | f + 1, i, out, b, h, ho, hb, hR => by
  refine Xt fun K hK => ?_
  have h2 : i < c.nodes.l.length := by omega
  simp only [L8] at hR
  obtain ⟨n1, n2, n3, n4, n5, n6⟩ := qCF hpl h2 (out := out) (b := b) ho
  have ih := qKs c H φ hpl hn r R h0 f (i + 1) (O8 c i (out, b)).1 (O8 c i (out, b)).2 (by omega) n1 (n6 hb) hR
  have hget := q2S (c := c) (n := (i : Int)) (by omega) (by omega)
  have hget' := q2a (c := c) (n := (i : Int)) (by omega) (by omega)
  have hmem := qCi (c := c) (n := (i : Int)) (by omega) (by omega)
  have hxi := H.inn _ hmem
  have hk : (nd c i).k = Ap c i := by simp [nd, Ap]
  have hin : F4 c i = (nd c i).inn.l := by simp [nd, F4]
  simp only [Int.toNat_natCast] at hget hget'
  have hsw : O8 c i (out, b) = if Cd (nd c i).k then Gt i (nd c i).inn.l out b else (out, b) := by unfold O8; rw [hk, hin]
  have hdn := fun hc => hpl.dn i h2 hc
  rw [hin, ← hk] at hdn
  rw [hsw] at ih
  clear n1 n2 n3 n4 n5 n6 hR
  generalize nd c i = x at *
  have w1 : IntKind.i64.wrap ((i : Int) + 1) = (i : Int) + 1 := by rw [A9] <;> omega
  by_cases hc : Cd x.k = true
  ·rw [if_pos hc] at ih
   have g := fun Q h0 => qKr (Γ := Γ) (Q := Q) c φ c.nodes.l.length hn (fun q hq => hpl.lt q hq) r i h2 x hc (by omega) (fun p hp => ⟨(hxi.2 p hp).1, (hdn hc p hp).1, (hdn hc p hp).2⟩) (Gt i x.inn.l out b) h0 x.inn.l.length 0 out b (by omega) ho hb (by rw [List.drop_zero])
   generalize Gt i x.inn.l out b = R1 at *
   obtain ⟨o1, b1⟩ := R1
   simp [rlE, tC, Ab, Ad, Ag, Av, E0] at ih g
   simp [rlE, tC, Ab, Ad, Ag, Av, Ac, h2, Bi, hget, hget', E0]
   refine g _ ?_
   simp [w1]
   rw [hK]
   simpa using ih
  ·rw [if_neg hc] at ih
   have hcmb := q2Z (Γ := Γ) x.k
   simp only [Bool.not_eq_true] at hc
   rw [hc] at hcmb
   simp [rlE, tC, Ab, Ad, Ag, Av, E0] at ih
   by_cases he : 0 < x.inn.l.length
   ·simp [rlE, tC, Ab, Ad, Ag, Av, Ac, h2, Bi, hget, hget', E0]
    refine I4 fun K2 hK2 => ?_
    simp [A5, he]
    refine A4 hcmb rfl ?_
    simp [w1]
    rw [hK]
    simpa using ih
   ·simp [rlE, tC, Ab, Ad, Ag, Av, Ac, h2, Bi, hget, hget', E0]
    refine I4 fun K2 hK2 => ?_
    simp [A5, he]
    simp [w1]
    rw [hK]
    simpa using ih
theorem qKt {Q : AX → St → Prop} (c : Bd) (H : ROk c) (φ : Nat → Nat) (hpl : Plc c φ) (hn : c.nodes.l.length ≤ 1000000) (R : List Int)
  (h0 : Q .ret ⟨[(2, .ls 13 0 c.nodes.l.length none), (3, .t (tB true))], [(13, .sl 3 1 (Ak R))]⟩) :
  ∀ (f r : Nat) (out : List Int), f + r = c.nodes.l.length + 1 → r ≤ c.nodes.l.length → out.length = c.nodes.l.length → Bnd φ c.nodes.l.length out → (∀ j, j < c.nodes.l.length → φ j < r → q7g c out j) → qCE c f out = R →
  run Tryz.prog Γ P5 Q ⟨[(1, .t (.ip (tC c) 0)), (4, .ls 13 0 c.nodes.l.length none), (5, .t (tI r))], [(13, .sl 3 1 (Ak out))]⟩
 | 0, r, out, h, hr, _, _, _, _ => by omega
 | f + 1, r, out, h, hr, ho, hb, hs, hR => by
  refine q5C fun K hK => ?_
  simp only [qCE] at hR
  obtain ⟨m1, m2, m3, m4, m5, m6⟩ := q6f hpl r out hs c.nodes.l.length 0 out false (by omega) ho (fun _ _ _ => rfl) (fun j hj => absurd hj (Nat.not_lt_zero _)) hb (fun _ j hj => absurd hj (Nat.not_lt_zero _))
  have g := fun Q h0 => qKs (Γ := Γ) (Q := Q) c H φ hpl hn r (q5d c out) h0 c.nodes.l.length 0 out false (by omega) ho hb rfl
  have ih := fun hr' => qKt c H φ hpl hn R h0 f (r + 1) (q5d c out).1 (by omega) hr' m1 m4 m3
  have hlast : r = c.nodes.l.length → (q5d c out).2 = false := fun e => by
   have := m6 fun j hj => hs j hj (by rw [e]; exact hpl.lt j hj)
   show (L8 c c.nodes.l.length 0 (out, false)).2 = false
   rw [this]
  clear m1 m2 m3 m4 m5 m6
  generalize q5d c out = S at *
  obtain ⟨o1, b1⟩ := S
  simp only at hR ih hlast
  have w1 : IntKind.i64.wrap ((r : Int) + 1) = (r : Int) + 1 := by rw [A9] <;> omega
  have hr' : (r : Int) ≤ c.nodes.l.length := by omega
  cases b1 with
  | false =>
   rw [if_neg (by simp)] at hR
   subst hR
   simp [rlE, tC, Ab, Ad, Ag, Av] at g
   simp [tC, Ab, Ad, Ag, Av, Ac, hr, hr']
   refine g _ ?_
   simp
   simpa using h0
  | true =>
   rw [if_pos rfl] at hR
   have hlt : r + 1 ≤ c.nodes.l.length := by
    rcases Nat.lt_or_eq_of_le hr with h | h
    ·omega
    ·exact absurd (hlast h) (by simp)
   have ih := ih hlt hR
   simp [rlE, tC, Ab, Ad, Ag, Av] at g ih
   simp [tC, Ab, Ad, Ag, Av, Ac, hr, hr']
   refine g _ ?_
   simp [w1]
   rw [hK]
   simpa using ih
theorem qAy (c : Bd) (hc : COk c) (h : E9 c = 0) (hn : c.nodes.l.length ≤ 1000000) : Ah Tryz.prog Γ 159 [.agg (tC c)] (.tup [.sl (Ak (X6 c)) none none, tB true]) := by
 refine B7 q8V rfl ?_
 have hpl := qIl h
 have hrep : ∀ j, (List.replicate c.nodes.l.length (0 : Int)).getD j 0 = 0 := fun j => by rw [List.getD_eq_getElem?_getD, List.getElem?_replicate]; split <;> rfl
 have g := fun Q h0 => qKt (Γ := Γ) (Q := Q) c (qCk hc h) _ hpl hn (X6 c) h0 (c.nodes.l.length + 1) 0 (List.replicate c.nodes.l.length 0) (by omega) (Nat.zero_le _) (by simp) (fun q hq => by rw [hrep]; exact ⟨Int.le_refl _, by omega⟩) (fun j _ hj => absurd hj (Nat.not_lt_zero _)) rfl
 have hL := (q8Y h).len
 have ht : (Ak (X6 c)).take c.nodes.l.length = Ak (X6 c) := by rw [← hL]; exact Ar
 have hz : Ak (List.replicate c.nodes.l.length (0 : Int)) = List.replicate c.nodes.l.length [tI 0] := by simp [Aj]
 rw [hz] at g
 generalize X6 c = L at *
 simp [tC, Ab, Ad, Ag, Av] at g
 simp [q2w, tC, Ab, Ad, Ag, Av, Ac]
 refine ⟨by omega, g _ ?_⟩
 simp [q2x, Am, ht]
theorem qKu {Q : AX → St → Prop} (c : Bd) (L : List Int) (lc : Option Nat) (hL : L.length = c.nodes.l.length) (hn : c.nodes.l.length ≤ 1000000) (v : Nat) (out0 : List Int) (ho0 : out0.length ≤ 1000000) (R : List Int)
  (h0 : Q (.exit 2) ⟨[(1, .t (.ip (tC c) 0)), (3, .t (.sl (Ak L) lc none)), (5, .ls 37 0 R.length none), (6, .t (tI v)), (7, .t (tI c.nodes.l.length)), (25, .t (tB false))], [(37, .sl 3 1 (Ak R))]⟩) :
  ∀ (f i : Nat) (out : List Int), f + i = c.nodes.l.length → out.length + f ≤ 3000000 → out ++ ((rng c.nodes.l.length).drop i).filter (fun j => decide (L.getD j.toNat 0 = (v : Int))) = R →
  run Tryz.prog Γ Rz Q ⟨[(1, .t (.ip (tC c) 0)), (3, .t (.sl (Ak L) lc none)), (5, .ls 37 0 out.length none), (6, .t (tI v)), (7, .t (tI i))], [(37, .sl 3 1 (Ak out))]⟩
 | 0, i, out, h, hl, hR => by
  refine Zv fun K hK => ?_
  have h2 : i = c.nodes.l.length := by omega
  subst h2
  rw [List.drop_of_length_le (by rw [Ko]; exact Nat.le_refl _), List.filter_nil, List.append_nil] at hR
  subst hR
  simp [tC, Ab, Ad, Ag, Av] at h0
  simp [tC, Ab, Ad, Ag, Av, Ac]
  simpa using h0
 | f + 1, i, out, h, hl, hR => by
  refine Zv fun K hK => ?_
  have h2 : i < c.nodes.l.length := by omega
  have h3 : i < L.length := by omega
  have hr : (rng c.nodes.l.length).drop i = (i : Int) :: (rng c.nodes.l.length).drop (i + 1) := by
   rw [List.drop_eq_getElem_cons (by rw [Ko]; exact h2)]
   congr 1
   simp [rng]
  rw [hr, List.filter_cons, Int.toNat_natCast] at hR
  have e1 := gE (f := tI) 0 h3
  have e1' := Jv (f := tI) 0 h3
  have ih := fun o' hl' hR' => qKu c L lc hL hn v out0 ho0 R h0 f (i + 1) o' (by omega) hl' hR'
  generalize L.getD i 0 = u at *
  have w1 : IntKind.i64.wrap ((i : Int) + 1) = (i : Int) + 1 := by rw [A9] <;> omega
  have vt : (Ak out).take out.length = Ak out := Ar
  have vs : Ak out ++ [[tI i]] = Ak (out ++ [(i : Int)]) := D2
  by_cases hu : u = v
  ·rw [if_pos (by simpa using hu)] at hR
   have ih := ih (out ++ [(i : Int)]) (by simp; omega) (by rw [List.append_assoc]; exact hR)
   simp [tC, Ab, Ad, Ag, Av] at ih
   simp [tC, Ab, Ad, Ag, Av, Ac, h2, h3, A5, A8, e1, e1', hu, vt, vs, w1]
   refine ⟨by omega, ?_⟩
   rw [hK]
   simpa using ih
  ·rw [if_neg (by simpa using hu)] at hR
   have ih := ih out (by omega) hR
   simp [tC, Ab, Ad, Ag, Av] at ih
   simp [tC, Ab, Ad, Ag, Av, Ac, h2, h3, A5, A8, e1, e1', hu, w1]
   rw [hK]
   simpa using ih
theorem qKv {Q : AX → St → Prop} (c : Bd) (L : List Int) (lc : Option Nat) (hL : qHJ c L) (hn : c.nodes.l.length ≤ 1000000)
  (h0 : ∀ v, c.nodes.l.length ≤ (Cm L c.nodes.l.length v).length → Q (.exit 0) ⟨[(1, .t (.ip (tC c) 0)), (3, .t (.sl (Ak L) lc none)), (5, .ls 37 0 (Cm L c.nodes.l.length v).length none), (6, .t (tI v)), (18, .t (tB false))], [(37, .sl 3 1 (Ak (Cm L c.nodes.l.length v)))]⟩) :
  ∀ (f v : Nat), f + v = c.nodes.l.length →
  run Tryz.prog Γ S3 Q ⟨[(1, .t (.ip (tC c) 0)), (3, .t (.sl (Ak L) lc none)), (5, .ls 37 0 (Cm L c.nodes.l.length v).length none), (6, .t (tI v))], [(37, .sl 3 1 (Ak (Cm L c.nodes.l.length v)))]⟩
 | f, v, h => by
  refine q6d fun K hK => ?_
  have hle := qAu (L := L) (n := c.nodes.l.length) (v := v)
  by_cases hlt : (Cm L c.nodes.l.length v).length < c.nodes.l.length
  ·have hvn := qEH hL hlt
   match f, h with
   | 0, h => omega
   | f + 1, h =>
    have ih := qKv c L lc hL hn h0 f (v + 1) (by omega)
    have g := fun Q h0 => qKu (Γ := Γ) (Q := Q) c L lc hL.len hn v [] (by simp) (Cm L c.nodes.l.length (v + 1)) h0 c.nodes.l.length 0 (Cm L c.nodes.l.length v) (by omega) (by omega) (by rw [List.drop_zero]; rfl)
    have w1 : IntKind.i64.wrap ((v : Int) + 1) = (v : Int) + 1 := by rw [A9] <;> omega
    generalize Cm L c.nodes.l.length (v + 1) = R at *
    generalize Cm L c.nodes.l.length v = out at *
    simp [tC, Ab, Ad, Ag, Av] at g ih
    simp [tC, Ab, Ad, Ag, Av, Ac, hlt]
    refine g _ ?_
    simp [w1]
    rw [hK]
    simpa using ih
  ·have h0 := h0 v (by omega)
   generalize Cm L c.nodes.l.length v = out at *
   simp [tC, Ab, Ad, Ag, Av] at h0
   simp [tC, Ab, Ad, Ag, Av, Ac, hlt]
   simpa using h0
theorem qBS (c : Bd) (hc : COk c) (h : E9 c = 0) (hn : c.nodes.l.length ≤ 1000000) : ∃ o, (∃ v, o = Cm (X6 c) c.nodes.l.length v ∧ c.nodes.l.length ≤ o.length) ∧ Ah Tryz.prog Γ 126 [.agg (tC c)] (.sl (Ak o) none none) := by
 have hL := q8Y h
 have e1 := qAy (Γ := Γ) c hc h hn
 have : ∃ r, Ah Tryz.prog Γ 126 [.agg (tC c)] r ∧ ∃ o, r = .sl (Ak o) none none ∧ ∃ v, o = Cm (X6 c) c.nodes.l.length v ∧ c.nodes.l.length ≤ o.length := by
  refine run_pure q9V rfl ?_
  have g := fun Q h0 => qKv (Γ := Γ) (Q := Q) c (X6 c) none hL hn h0 c.nodes.l.length 0 (by omega)
  simp only [Cm, List.length_nil, Cf] at g
  simp [tC, Ab, Ad, Ag, Av] at e1 g
  simp [q4L, tC, Ab, Ad, Ag, Av]
  refine Ae e1 rfl ?_
  simp
  refine g _ (fun v hv => ?_)
  have ht : (Ak (Cm (X6 c) c.nodes.l.length v)).take (Cm (X6 c) c.nodes.l.length v).length = Ak (Cm (X6 c) c.nodes.l.length v) := Ar
  simp [q4M, Am, ht]
  exact ⟨_, rfl, ⟨v, rfl⟩, hv⟩
 obtain ⟨r, h1, o, rfl, h2⟩ := this
 exact ⟨o, h2, h1⟩
structure Stt where
 dff : Sl Int
 words : Sl (Sl (Sl Int))
 read : Sl (Sl Int)
def tWs (s : Sl (Sl (Sl Int))) : T := .sl (Aj tW s.l) s.cap s.nl
def E6 (s : Stt) : List T := [tV s.dff, tWs s.words, tW s.read]
def Stt.rd (s : Stt) : List (List Int) := s.read.l.map (·.l)
def Stt.ws (s : Stt) : List (List (List Int)) := s.words.l.map fun w => w.l.map (·.l)
def Sl.zz : Sl (Sl Int) := ⟨[], none, none⟩
def B8 (nets : List Int) (l : List Int) : List Int := l.map fun k => nets.getD k.toNat 0
theorem qKw {Q : AX → St → Prop} (c : Bd) (nets : Sl Int) (hn : nets.l.length ≤ 1000000) (l : Sl Int) (hl : l.l.length ≤ 1000000) (hin : ∀ k ∈ l.l, 0 ≤ k ∧ k < nets.l.length) (R : List Int)
  (h0 : R.length = l.l.length → Q (.exit 0) ⟨[(2, .t (.ip (O6 c nets) 0)), (5, .ls 10 0 l.l.length none), (11, .t (Av l)), (12, .t (tI l.l.length)), (13, .t (tI l.l.length)), (14, .t (tB false))], [(10, .sl 64 1 (Ai R))]⟩) :
  ∀ (k i : Nat) (out : List Int), k + i = l.l.length → out.length = i → out ++ B8 nets.l (l.l.drop i) = R →
  run Tryz.prog Γ Ea Q ⟨[(2, .t (.ip (O6 c nets) 0)), (5, .ls 10 0 i none), (11, .t (Av l)), (12, .t (tI l.l.length)), (13, .t (tI i))], [(10, .sl 64 1 (Ai out))]⟩
 | 0, i, out, h, ho, hR => by
  refine Ie fun K hK => ?_
  have h2 : i = l.l.length := by omega
  subst h2
  rw [List.drop_length] at hR
  simp only [B8, List.map_nil, List.append_nil] at hR
  subst hR
  have := h0 ho
  simp [Av] at this
  simp [Av]
  simpa using this
 | k + 1, i, out, h, ho, hR => by
  refine Ie fun K hK => ?_
  have h2 : i < l.l.length := by omega
  rw [List.drop_eq_getElem_cons h2] at hR
  simp only [B8, List.map_cons] at hR
  have e1 := gE (f := tI) 0 h2
  have e1' := Jv (f := tI) 0 h2
  obtain ⟨q0, q1⟩ := hin _ (List.getElem_mem h2)
  rw [B5 h2] at e1 e1'
  generalize l.l[i] = q at *
  have h3 : q.toNat < nets.l.length := by omega
  have e2 := gE (f := tK) 0 h3
  have e2' := Jv (f := tK) 0 h3
  have ih := qKw c nets hn l hl hin R h0 k (i + 1) (out ++ [nets.l.getD q.toNat 0]) (by omega) (by simp [ho]) (by rw [← hR]; simp [B8])
  generalize nets.l.getD q.toNat 0 = v at *
  have vs := Ha (l := out) (v := v)
  have vt : (Ai out).take i = Ai out := by rw [← ho]; exact Bh
  have w1 := Bl (i := i) (by omega)
  simp [O6, Ab, Ad, Ag, Av, tV] at ih
  simp [O6, Ab, Ad, Ag, Av, tV, A5, A8, h2, e1, e1', q0, q1, h3, e2, e2', vt, vs, ho, w1]
  refine ⟨by omega, ?_⟩
  rw [hK]
  simpa using ih
theorem q2b (c : Bd) (nets : Sl Int) (hn : nets.l.length ≤ 1000000) (l : Sl Int) (hl : l.l.length ≤ 1000000) (hin : ∀ k ∈ l.l, 0 ≤ k ∧ k < nets.l.length) :
  A6 Tryz.prog Γ 50 [.agg (O6 c nets), Av l] (tV ⟨B8 nets.l l.l, none, none⟩) := by
 refine Aa Ye rfl ?_
 have g := fun Q h0 => qKw (Γ := Γ) (Q := Q) c nets hn l hl hin (B8 nets.l l.l) h0 l.l.length 0 [] (by omega) rfl (by simp)
 generalize B8 nets.l l.l = R at *
 simp [O6, Ab, Ad, Ag, Av, tV, Cf] at g
 simp [Lu, O6, Ab, Ad, Ag, Av, tV, A5]
 refine ⟨by omega, g _ fun hR => ?_⟩
 have vt : (Ai R).take l.l.length = Ai R := by rw [← hR]; exact Bh
 simp [Lx, Am, vt]
theorem qKx {Q : AX → St → Prop} (c : Bd) (s : Stt) (inn : Sl Int) (ns : List Int) (cap : Option Nat) (n : Nat) (hn : n ≤ 1000000) (hns : ns.length ≤ n) (hin : ∀ x ∈ ns, 0 ≤ x ∧ x < n) (hp : inn.l.length = ns.length) (R : List Int)
  (h0 : Q (.exit 0) ⟨[(2, .t (tV inn)), (3, .lp 3 0 0), (4, .t (.ip (E6 s) 0)), (14, .t (.sl (Ak ns) (some ns.length) none)), (15, .t (tI ns.length)), (16, .t (tI ns.length)), (17, .t (tB false))], [(3, .bx (q0A c 1000000 n cap)), (1000000, .sl 64 1 (Ai R))]⟩) :
  ∀ (k i : Nat) (l : List Int), k + i = ns.length → l.length = n → G5 (ns.drop i) (inn.l.drop i) l = R →
  run Tryz.prog Γ Ey Q ⟨[(2, .t (tV inn)), (3, .lp 3 0 0), (4, .t (.ip (E6 s) 0)), (14, .t (.sl (Ak ns) (some ns.length) none)), (15, .t (tI ns.length)), (16, .t (tI i))], [(3, .bx (q0A c 1000000 n cap)), (1000000, .sl 64 1 (Ai l))]⟩
 | 0, i, l, h, hl, hR => by
  refine Jn fun K hK => ?_
  have h2 : i = ns.length := by omega
  subst h2
  rw [List.drop_length] at hR
  simp only [G5] at hR
  subst hR
  simp
  exact h0
 | k + 1, i, l, h, hl, hR => by
  refine Jn fun K hK => ?_
  have h2 : i < ns.length := by omega
  have h3 : i < inn.l.length := by omega
  rw [qAc h2 h3] at hR
  have ih := qKx c s inn ns cap n hn hns hin hp R h0 k (i + 1) _ (by omega) (by simp [hl]) hR
  have e1 := gE (f := tI) 0 h2
  have e1' := Jv (f := tI) 0 h2
  have e2 := gE (f := tK) 0 h3
  have e2' := Jv (f := tK) 0 h3
  obtain ⟨hx0, hx1⟩ := hin (ns.getD i 0) (by rw [B5 h2]; exact List.getElem_mem h2)
  have hs : ∀ (j : Nat) (v : Int), (Ai l).set j [tK v] = Ai (l.set j v) := fun j v => Fj
  generalize ns.getD i 0 = x at *
  generalize inn.l.getD i 0 = v at *
  have hx2 : x.toNat < n := by omega
  have w1 := Bl (i := i) (by omega)
  simp [q0A, tV] at ih
  simp [h2, h3, A5, A8, e1, e1', e2, e2', hx0, hx1, hx2, hl, q0A, tV, hs, hp, w1]
  rw [hK]
  simpa using ih
theorem qKy {Q : AX → St → Prop} (c : Bd) (s : Stt) (ns : List Int) (cap : Option Nat) (n : Nat) (hn : n ≤ 1000000) (hns : ns.length ≤ n) (hin : ∀ x ∈ ns, 0 ≤ x ∧ x < n) (hp : s.dff.l.length = ns.length) (R : List Int)
  (h0 : Q (.exit 2) ⟨[(3, .lp 3 0 0), (4, .t (.ip (E6 s) 0)), (32, .t (.sl (Ak ns) (some ns.length) none)), (33, .t (tI ns.length)), (34, .t (tI ns.length)), (35, .t (tB false))], [(3, .bx (q0A c 1000000 n cap)), (1000000, .sl 64 1 (Ai R))]⟩) :
  ∀ (k i : Nat) (l : List Int), k + i = ns.length → l.length = n → G5 (ns.drop i) (s.dff.l.drop i) l = R →
  run Tryz.prog Γ Ez Q ⟨[(3, .lp 3 0 0), (4, .t (.ip (E6 s) 0)), (32, .t (.sl (Ak ns) (some ns.length) none)), (33, .t (tI ns.length)), (34, .t (tI i))], [(3, .bx (q0A c 1000000 n cap)), (1000000, .sl 64 1 (Ai l))]⟩
 | 0, i, l, h, hl, hR => by
  refine Jo fun K hK => ?_
  have h2 : i = ns.length := by omega
  subst h2
  rw [List.drop_length] at hR
  simp only [G5] at hR
  subst hR
  simp
  exact h0
 | k + 1, i, l, h, hl, hR => by
  refine Jo fun K hK => ?_
  have h2 : i < ns.length := by omega
  have h3 : i < s.dff.l.length := by omega
  rw [qAc h2 h3] at hR
  have ih := qKy c s ns cap n hn hns hin hp R h0 k (i + 1) _ (by omega) (by simp [hl]) hR
  have e1 := gE (f := tI) 0 h2
  have e1' := Jv (f := tI) 0 h2
  have e2 := gE (f := tK) 0 h3
  have e2' := Jv (f := tK) 0 h3
  obtain ⟨hx0, hx1⟩ := hin (ns.getD i 0) (by rw [B5 h2]; exact List.getElem_mem h2)
  have hs : ∀ (j : Nat) (v : Int), (Ai l).set j [tK v] = Ai (l.set j v) := fun j v => Fj
  generalize ns.getD i 0 = x at *
  generalize s.dff.l.getD i 0 = v at *
  have hx2 : x.toNat < n := by omega
  have w1 := Bl (i := i) (by omega)
  simp [q0A, tV, E6] at ih
  simp [h2, h3, A5, A8, e1, e1', e2, e2', hx0, hx1, hx2, hl, q0A, tV, E6, hs, hp, w1]
  rw [hK]
  simpa using ih
theorem qKz {Q : AX → St → Prop} (c : Bd) (s : Stt) (ns : List Int) (cap : Option Nat) (hn : c.nodes.l.length ≤ 1000000) (hns : ns.length ≤ c.nodes.l.length) (hin : ∀ x ∈ ns, 0 ≤ x ∧ x < c.nodes.l.length)
  (hm : ∀ x ∈ ns, 0 ≤ (nd c x).mem ∧ (nd c x).mem < s.read.l.length ∧ 0 ≤ (nd c x).bit ∧ (nd c x).bit < (s.read.l.getD (nd c x).mem.toNat Sl.z).l.length) (R : List Int)
  (h0 : Q (.exit 4) ⟨[(3, .lp 3 0 0), (4, .t (.ip (E6 s) 0)), (52, .t (.sl (Ak ns) (some ns.length) none)), (53, .t (tI ns.length)), (54, .t (tI ns.length)), (55, .t (tB false))], [(3, .bx (q0A c 1000000 c.nodes.l.length cap)), (1000000, .sl 64 1 (Ai R))]⟩) :
  ∀ (k i : Nat) (l : List Int), k + i = ns.length → l.length = c.nodes.l.length → G5 (ns.drop i) ((ns.drop i).map fun n => (s.read.l.getD (nd c n).mem.toNat Sl.z).l.getD (nd c n).bit.toNat 0) l = R →
  run Tryz.prog Γ F2 Q ⟨[(3, .lp 3 0 0), (4, .t (.ip (E6 s) 0)), (52, .t (.sl (Ak ns) (some ns.length) none)), (53, .t (tI ns.length)), (54, .t (tI i))], [(3, .bx (q0A c 1000000 c.nodes.l.length cap)), (1000000, .sl 64 1 (Ai l))]⟩
 | 0, i, l, h, hl, hR => by
  refine Jp fun K hK => ?_
  have h2 : i = ns.length := by omega
  subst h2
  rw [List.drop_length] at hR
  simp only [G5] at hR
  subst hR
  simp
  exact h0
 | k + 1, i, l, h, hl, hR => by
  refine Jp fun K hK => ?_
  have h2 : i < ns.length := by omega
  rw [List.drop_eq_getElem_cons h2, List.map_cons] at hR
  simp only [G5] at hR
  have e1 := gE (f := tI) 0 h2
  have e1' := Jv (f := tI) 0 h2
  have hxm := List.getElem_mem h2
  rw [B5 h2] at e1 e1'
  generalize ns[i] = x at *
  obtain ⟨hx0, hx1⟩ := hin x hxm
  obtain ⟨m0, m1, b0, b1⟩ := hm x hxm
  have ih := qKz c s ns cap hn hns hin hm R h0 k (i + 1) _ (by omega) (by rw [List.length_set]; exact hl) hR
  have hget := q2S hx0 hx1
  have hget' := q2a hx0 hx1
  generalize nd c x = y at *
  have hm2 : y.mem.toNat < s.read.l.length := by omega
  have e2 := gE (f := tV) Sl.z hm2
  have e2' := Jv (f := tV) Sl.z hm2
  generalize s.read.l.getD y.mem.toNat Sl.z = row at *
  have hb2 : y.bit.toNat < row.l.length := by omega
  have e3 := gE (f := tK) 0 hb2
  have e3' := Jv (f := tK) 0 hb2
  generalize row.l.getD y.bit.toNat 0 = v at *
  have hs : ∀ (j : Nat) (v : Int), (Ai l).set j [tK v] = Ai (l.set j v) := fun j v => Fj
  have hx2 : x.toNat < c.nodes.l.length := by omega
  have w1 := Bl (i := i) (by omega)
  simp only [tV] at e2 e2'
  simp [q0A, E6, tW] at ih
  simp [h2, A5, A8, Ac, Bi, e1, e1', e2, e2', e3, e3', hx0, hx1, hx2, hl, q0A, E6, tW, Ab, E0, hget, hget', m0, m1, hm2, b0, b1, hb2, hs, w1]
  rw [hK]
  simpa [Ab] using ih
theorem qKE (c : Bd) (hc : COk c) (s : Stt) (inn : Sl Int) (cap : Option Nat) (l : List Int) (hl : l.length = c.nodes.l.length) (hn : c.nodes.l.length ≤ 1000000) (h1 : inn.l.length = (E1 c).length) (h2 : s.dff.l.length = (Be c).length)
  (hm : ∀ x ∈ mems c, 0 ≤ (nd c x).mem ∧ (nd c x).mem < s.read.l.length ∧ 0 ≤ (nd c x).bit ∧ (nd c x).bit < (s.read.l.getD (nd c x).mem.toNat Sl.z).l.length) (hz : l = List.replicate c.nodes.l.length 0) :
  Hn Tryz.prog Γ 46 [(1000000, .sl 64 1 (Ai l))] [.ag (q0A c 1000000 c.nodes.l.length cap), .t (.agg (E6 s)), .t (tV inn)] (.t (.tup [])) [(1000000, .sl 64 1 (Ai (M4 c inn.l s.dff.l s.rd)))] := by
 refine N7 q0B rfl ?_
 have hmv : Yi c s.rd = (mems c).map fun n => (s.read.l.getD (nd c n).mem.toNat Sl.z).l.getD (nd c n).bit.toNat 0 := by
  unfold Yi
  refine List.map_congr_left fun x hx => ?_
  obtain ⟨m0, m1, _, _⟩ := hm x hx
  have : (nd c x).mem.toNat < s.read.l.length := by omega
  simp [Stt.rd, List.getD_eq_getElem?_getD, this]
 have hL : M4 c inn.l s.dff.l s.rd = G5 (mems c) ((mems c).map fun n => (s.read.l.getD (nd c n).mem.toNat Sl.z).l.getD (nd c n).bit.toNat 0) (G5 (Be c) s.dff.l (G5 (E1 c) inn.l l)) := by
  unfold M4 q90
  rw [hmv, hz]
 have g1 := fun Q h0 => qKx (Γ := Γ) (Q := Q) c s inn (E1 c) cap c.nodes.l.length hn (q2R c) (fun x hx => ⟨(Jw x hx).1, (Jw x hx).2.1⟩) h1 _ h0 (E1 c).length 0 l (by omega) hl rfl
 have g2 := fun Q h0 => qKy (Γ := Γ) (Q := Q) c s (Be c) cap c.nodes.l.length hn (Hl c) (fun x hx => ⟨(Jw x hx).1, (Jw x hx).2.1⟩) h2 _ h0 (Be c).length 0 (G5 (E1 c) inn.l l) (by omega) (by rw [Qg]; exact hl) rfl
 have g3 := fun Q h0 => qKz (Γ := Γ) (Q := Q) c s (mems c) cap hn (V9 _ _ _) (fun x hx => ⟨(Jw x hx).1, (Jw x hx).2.1⟩) hm (M4 c inn.l s.dff.l s.rd) h0 (mems c).length 0 (G5 (Be c) s.dff.l (G5 (E1 c) inn.l l)) (by omega) (by rw [Qg, Qg]; exact hl) (by rw [hL, List.drop_zero])
 simp only [List.drop_zero] at g1 g2
 have e3 := qFF (Γ := Γ) c hc 15
 have hmm : N5 [15] c.nodes.l 0 = mems c := rfl
 rw [hmm] at e3
 generalize M4 c inn.l s.dff.l s.rd = RR at *
 generalize G5 (Be c) s.dff.l (G5 (E1 c) inn.l l) = R2 at *
 generalize G5 (E1 c) inn.l l = R1 at *
 simp [q0A, E6, tV, tW, tWs, Ab, Ad, Ag, Av] at g1 g2 g3
 simp [Oq, q0A, E6, tV, tW, tWs, Ab, Ad, Ag, Av]
 refine Ae (q93 c hc) rfl ?_
 simp [A5]
 refine g1 _ ?_
 simp
 refine Ae (q3g c hc) rfl ?_
 simp [A5]
 refine g2 _ ?_
 simp
 refine A4 e3 rfl ?_
 simp [A5]
 refine g3 _ ?_
 simp [Ot]
structure Ou (c : Bd) (s : Stt) : Prop where
 d : s.dff.l.length = (Be c).length
 w : s.words.l.length = c.mems.l.length
 r : s.read.l.length = c.mems.l.length
 wl : ∀ i, i < c.mems.l.length → (s.words.l.getD i Sl.zz).l.length = 2 ^ (c.mems.l.getD i Mm.d).addr.l.length
 wr : ∀ i, i < c.mems.l.length → ∀ w ∈ (s.words.l.getD i Sl.zz).l, w.l.length = (c.mems.l.getD i Mm.d).data.l.length
 rl : ∀ i, i < c.mems.l.length → (s.read.l.getD i Sl.z).l.length = (c.mems.l.getD i Mm.d).data.l.length
 vd : ∀ v ∈ s.dff.l, 0 ≤ v ∧ v ≤ 2
 vw : ∀ w ∈ s.words.l, ∀ r ∈ w.l, ∀ v ∈ r.l, 0 ≤ v ∧ v ≤ 2
 vr : ∀ r ∈ s.read.l, ∀ v ∈ r.l, 0 ≤ v ∧ v ≤ 2
theorem qHL {c : Bd} (h : E5 c = 0) : ∀ m ∈ c.mems.l, (1 ≤ m.addr.l.length ∧ m.addr.l.length ≤ 8) ∧ (1 ≤ m.data.l.length ∧ m.data.l.length ≤ 32) ∧ (∀ n ∈ m.addr.l, 0 ≤ n ∧ n < c.nodes.l.length) ∧ (∀ n ∈ m.data.l, 0 ≤ n ∧ n < c.nodes.l.length) ∧ 0 ≤ m.write ∧ m.write < c.nodes.l.length := by
 unfold E5 at h
 split at h
 ·cases h
 split at h
 ·cases h
 split at h
 ·rename_i h2; exact absurd h h2
 split at h
 ·rename_i h2; exact absurd h h2
 split at h
 ·rename_i h2; exact absurd h h2
 rename_i h2
 intro m hm
 have h3 := q1A (by simpa using h2) m hm
 unfold Ph at h3
 split at h3
 ·cases h3
 rename_i h4
 split at h3
 ·cases h3
 rename_i h5
 simp only [not_or, Bool.not_eq_true] at h4 h5
 obtain ⟨a1, a2⟩ := h4
 obtain ⟨a3, a4, a5⟩ := h5
 simp [Wy] at a1 a2
 simp [Re] at a5
 refine ⟨⟨by have := List.length_pos_iff.2 a1.1; omega, by omega⟩, ⟨by have := List.length_pos_iff.2 a2.1; omega, by omega⟩, q4m a3, q4m a4, a5.1, a5.2⟩
theorem qEP {hp : List (Nat × Bn)} {f : FuncId} {K : T → Prop} {cs : List T} {t res : T} (h : Ah Tryz.prog Γ f (t :: cs) res ∨ A6 Tryz.prog Γ f (t :: cs) res) (hk : K res) : q5G Tryz.prog Γ hp f (.t t :: cs.map .t) K ⟨⟩ := by
 rcases h with h | h
 ·exact Ae h (by simp only [List.map_cons, List.map_map, Function.comp_def, As, toT]; rw [Qc]; rfl) hk
 ·exact Z8 h hk
theorem qGT {Q : AX → St → Prop} (l : List (Sl Int)) (c : Option Nat) (nl : Option Bool) (f : FuncId) (cs : List T) (hp : ∀ x ∈ l, Ah Tryz.prog Γ f (tV x :: cs) (tB false) ∨ A6 Tryz.prog Γ f (tV x :: cs) (tB false)) (hl : l.length ≤ 1000000)
  (h0 : Q (.exit 0) ⟨[(0, .t (.sl (Aj tV l) c nl)), (1, .t (.fn f cs)), (7, .t (tI l.length)), (8, .t (tI l.length)), (9, .t (tB false))], []⟩) : ∀ (k i : Nat), k + i = l.length →
  run Tryz.prog Γ Db Q ⟨[(0, .t (.sl (Aj tV l) c nl)), (1, .t (.fn f cs)), (7, .t (tI l.length)), (8, .t (tI i))], []⟩
 | 0, i, h => by
  refine Gq fun K hK => ?_
  have h2 : i = l.length := by omega
  subst h2
  simp
  simpa using h0
 | k + 1, i, h => by
  refine Gq fun K hK => ?_
  have h2 : i < l.length := by omega
  have ih := qGT l c nl f cs hp hl h0 k (i + 1) (by omega)
  have e1 := gE (f := tV) Sl.z h2
  have e1' := Jv (f := tV) Sl.z h2
  rw [show l.getD i Sl.z = l[i] by simp [List.getD_eq_getElem?_getD, h2]] at e1 e1'
  have hq := hp _ (List.getElem_mem h2)
  generalize l[i] = x at *
  have w1 := Bl (i := i) (by omega)
  simp [A5, A8, h2, e1, e1']
  refine qEP hq ?_
  simp [w1]
  rw [hK]
  simpa using ih
theorem qCG (l : List (Sl Int)) (c : Option Nat) (nl : Option Bool) (f : FuncId) (cs : List T) (hp : ∀ x ∈ l, Ah Tryz.prog Γ f (tV x :: cs) (tB false) ∨ A6 Tryz.prog Γ f (tV x :: cs) (tB false)) (hl : l.length ≤ 1000000) : A6 Tryz.prog Γ 102 [.sl (Aj tV l) c nl, .fn f cs] (tB false) := by
 have hi : A6 Tryz.prog Γ 151 [.sl (Aj tV l) c nl, .fn f cs] (tI (-1)) := by
  refine Aa Ti rfl ?_
  have g := fun Q h0 => qGT (Γ := Γ) (Q := Q) l c nl f cs hp hl h0 l.length 0 (by omega)
  simp at g
  simp [Ih, A5]
  refine g _ ?_
  simp [Ii]
 refine Aa Pq rfl ?_
 simp [Gz]
 refine A4 hi rfl ?_
 simp [H2]
theorem qAz (l : Sl Int) (m : Mm) : A6 Tryz.prog Γ 152 [tV l, .ip (Ug m) 0] (tB (decide (¬ (l.l.length : Int) = m.data.l.length))) := by
 refine Aa q5B rfl ?_
 simp [Zo, tV, Ug, Av, A5, Zp]
theorem qNn {n : Nat} (h : n ≤ 8) : IntKind.i64.wrap (2 ^ min n IntKind.i64.bits) = ((2 ^ n : Nat) : Int) := by
 have e : min n IntKind.i64.bits = n := by
  have : IntKind.i64.bits = 64 := rfl
  rw [this]
  exact Nat.min_eq_left (by omega)
 rw [e]
 have h2 : 2 ^ n ≤ 2 ^ 8 := Nat.pow_le_pow_right (by omega) h
 have h3 : (2 : Int) ^ n = ((2 ^ n : Nat) : Int) := by simp
 rw [h3]
 generalize 2 ^ n = q at *
 exact A9 (by omega) (by omega)
theorem qEQ {Q : AX → St → Prop} (c : Bd) (hcm : c.mems.l.length ≤ 16) (hma : ∀ m ∈ c.mems.l, m.addr.l.length ≤ 8) (s : Stt) (H : Ou c s)
  (h0 : Q (.exit 0) ⟨[(3, .t (.ip (E6 s) 0)), (34, .t (Ag c.mems)), (35, .t (tI c.mems.l.length)), (36, .t (tI c.mems.l.length)), (37, .t (tB false))], []⟩) : ∀ (k i : Nat), k + i = c.mems.l.length →
  run Tryz.prog Γ Nc Q ⟨[(3, .t (.ip (E6 s) 0)), (34, .t (Ag c.mems)), (35, .t (tI c.mems.l.length)), (36, .t (tI i))], []⟩
 | 0, i, h => by
  refine Wa fun K hK => ?_
  have h2 : i = c.mems.l.length := by omega
  subst h2
  simp [E6, Ag] at h0
  simp [E6, Ag]
  simpa using h0
 | k + 1, i, h => by
  refine Wa fun K hK => ?_
  have h2 : i < c.mems.l.length := by omega
  have ih := qEQ c hcm hma s H h0 k (i + 1) (by omega)
  have e1 : (B1 Ug c.mems.l)[i]?.getD [] = Ug (c.mems.l.getD i Mm.d) := by simp [B1, h2]
  have e1' : ∀ h, (B1 Ug c.mems.l)[i]'h = Ug (c.mems.l.getD i Mm.d) := fun h => by simp [B1, h2]
  have ma : (c.mems.l.getD i Mm.d).addr.l.length ≤ 8 := by
   rw [show c.mems.l.getD i Mm.d = c.mems.l[i] by simp [List.getD_eq_getElem?_getD, h2]]
   exact hma _ (List.getElem_mem h2)
  have h3 : i < s.words.l.length := by rw [H.w]; exact h2
  have h4 : i < s.read.l.length := by rw [H.r]; exact h2
  have e2 := gE (f := tW) Sl.zz h3
  have e2' := Jv (f := tW) Sl.zz h3
  have e3 := gE (f := tV) Sl.z h4
  have e3' := Jv (f := tV) Sl.z h4
  have wl := H.wl i h2
  have wr := H.wr i h2
  have rl := H.rl i h2
  generalize s.words.l.getD i Sl.zz = W at *
  generalize s.read.l.getD i Sl.z = rd at *
  generalize c.mems.l.getD i Mm.d = m at *
  have sh := qNn ma
  have hwl : (W.l.length : Int) = 2 ^ m.addr.l.length := by rw [wl]; simp
  have hWl : W.l.length ≤ 256 := by rw [wl]; exact Nat.pow_le_pow_right (by omega) ma
  have f1 := qAz (Γ := Γ) rd m
  have hrl : ¬ (¬ (rd.l.length : Int) = m.data.l.length) := by omega
  rw [decide_eq_false hrl] at f1
  have f2 := qCG (Γ := Γ) W.l W.cap W.nl 152 [.ip (Ug m) 0] (fun x hx => by
   have := qAz (Γ := Γ) x m
   rw [decide_eq_false (by have := wr x hx; omega)] at this
   exact .inr this) (by omega)
  have w1 := Bl (i := i) (by omega)
  have h3' : (i : Int) < s.words.l.length := by omega
  have h4' : (i : Int) < s.read.l.length := by omega
  simp only [tV] at e3 e3' f1
  simp only [tW] at e2 e2'
  simp only [Ug, Av] at e1 e1' f1 f2
  simp [E6, Ag, tW, tWs] at ih
  simp [E6, Ag, P0, tW, tWs, Ac, A5, A8, h2, e1, e1', e2, e2', e3, e3', h3, h4, sh, hwl]
  refine A4 f1 rfl ?_
  simp [h2, e1, e1', e2, e2', e3, e3', h3, h4, A5, A8]
  refine A4 f2 rfl ?_
  simp [w1]
  rw [hK]
  simpa using ih
theorem qFX (c : Bd) (hc : COk c) (hcm : c.mems.l.length ≤ 16) (hma : ∀ m ∈ c.mems.l, m.addr.l.length ≤ 8) (s : Stt) (H : Ou c s) : Ah Tryz.prog Γ 108 [.agg (tC c), .agg (E6 s)] (tB true) := by
 refine B7 q7Q rfl ?_
 have g := fun Q h0 => qEQ (Γ := Γ) (Q := Q) c hcm hma s H h0 c.mems.l.length 0 (by omega)
 have es := q3g (Γ := Γ) c hc
 have h1 := H.d
 have h2 := H.w
 have h3 := H.r
 simp [E6, tV, tW, tWs, Ag] at g
 simp [tC, Ab, Ad, Ag, Av] at es
 simp [q1k, tC, Ab, Ad, Ag, Av, E6, tV, tW, tWs]
 refine Ae es rfl ?_
 simp [A5, Ac, h1, h2, h3]
 refine g _ ?_
 simp [q1l]
def S5 (s : Stt) : List (Sl Int) := s.dff :: s.read.l ++ s.words.l.flatMap (·.l)
theorem qER {Q : AX → St → Prop} (words : Sl (Sl (Sl Int))) (hl : words.l.length ≤ 1000) (hw : ∀ w ∈ words.l, w.l.length ≤ 1000) (hw1 : ∀ w ∈ words.l, w.l ≠ []) (R : List (Sl Int))
  (h0 : Q (.exit 0) ⟨[(3, .ls 11 0 R.length none), (13, .t (tWs words)), (14, .t (tI words.l.length)), (15, .t (tI words.l.length)), (16, .t (tB false))], [(11, .sl 41 1 (Aj tV R))]⟩) :
  ∀ (k i : Nat) (out : List (Sl Int)), k + i = words.l.length → out.length ≤ 2000 + 1000 * i → out ++ (words.l.drop i).flatMap (·.l) = R →
  run Tryz.prog Γ Ky Q ⟨[(3, .ls 11 0 out.length none), (13, .t (tWs words)), (14, .t (tI words.l.length)), (15, .t (tI i))], [(11, .sl 41 1 (Aj tV out))]⟩
 | 0, i, out, h, ho, hR => by
  refine U3 fun K hK => ?_
  have h2 : i = words.l.length := by omega
  subst h2
  rw [List.drop_length] at hR
  simp only [List.flatMap_nil, List.append_nil] at hR
  subst hR
  simp
  simpa using h0
 | k + 1, i, out, h, ho, hR => by
  refine U3 fun K hK => ?_
  have h2 : i < words.l.length := by omega
  rw [List.drop_eq_getElem_cons h2, List.flatMap_cons] at hR
  have e1 := gE (f := tW) Sl.zz h2
  have e1' := Jv (f := tW) Sl.zz h2
  rw [show words.l.getD i Sl.zz = words.l[i] by simp [List.getD_eq_getElem?_getD, h2]] at e1 e1'
  have hwl := hw _ (List.getElem_mem h2)
  have hwn := hw1 _ (List.getElem_mem h2)
  generalize words.l[i] = w at *
  have ih := qER words hl hw hw1 R h0 k (i + 1) (out ++ w.l) (by omega) (by simp; omega) (by rw [← hR]; simp)
  have w1 := Bl (i := i) (by omega)
  have vt : (Aj tV out).take out.length = Aj tV out := Ar
  have va : Aj tV out ++ Aj tV w.l = Aj tV (out ++ w.l) := q6w
  simp only [tW] at e1 e1'
  simp [tWs] at ih
  simp [tWs, A5, A8, h2, e1, e1', vt, va, w1]
  refine ⟨by omega, ?_⟩
  rw [hK]
  simpa using ih
theorem qFY (s : Stt) (hl : s.words.l.length ≤ 1000) (hr : s.read.l.length = s.words.l.length) (hw : ∀ w ∈ s.words.l, w.l.length ≤ 1000) (hw1 : ∀ w ∈ s.words.l, w.l ≠ []) : Ah Tryz.prog Γ 109 [.agg (E6 s)] (.sl (Aj tV (S5 s)) none none) := by
 have hwid : E2 1 [[T.sl (Ai s.dff.l) s.dff.cap s.dff.nl]] := by intro e he; simp at he; subst he; rfl
 by_cases h0 : s.words.l = []
 ·have h1 : s.read.l = [] := List.eq_nil_of_length_eq_zero (by rw [hr, h0]; rfl)
  refine B7 q5A rfl ?_
  simp [Zm, E6, tV, tW, tWs, h0, h1, Cf]
  refine q2U fun K hK => ?_
  simp [Zn, S5, h0, h1, Aj, tV]
 ·refine B7 q6W rfl ?_
  have g := fun Q h0 => qER (Γ := Γ) (Q := Q) s.words hl hw hw1 (S5 s) h0 s.words.l.length 0 (s.dff :: s.read.l) (by omega) (by simp; omega) (by simp [S5])
  have vt : (Aj tV (S5 s)).take (S5 s).length = Aj tV (S5 s) := Ar
  have hrn : ¬ s.read.l = [] := fun e => by rw [e] at hr; exact h0 (List.eq_nil_of_length_eq_zero hr.symm)
  have hen : ¬ Aj tV s.read.l = [] := fun e => hrn (by have := congrArg List.length e; rw [A5] at this; exact List.eq_nil_of_length_eq_zero this)
  have hcons : Aj tV (s.dff :: s.read.l) = [tV s.dff] :: Aj tV s.read.l := rfl
  rw [hcons] at g
  generalize S5 s = R at *
  simp [tV, tW, tWs] at g
  simp [q0d, E6, tV, tW, tWs, A5, A8, hen, hwid]
  rw [Nat.add_comm 1]
  refine ⟨by omega, g _ ?_⟩
  simp [q0e, Am, vt]
theorem qCH (v m : Int) : A6 Tryz.prog Γ 106 [tK v, .ip [tK m] 0] (tB (decide (v > m))) := by
 refine Aa q2V rfl ?_
 simp [U4, U5]
theorem qES (m : Int) : Ah Tryz.prog Γ 105 [tK m] (.fn 106 [.ip [tK m] 0]) := by
 refine B7 q4B rfl ?_
 simp [Xm, Xn, Am, q08, qGc, As]
theorem qIs (l : Sl Int) (hl : l.l.length ≤ 1000000) (hv : ∀ v ∈ l.l, v ≤ 2) : A6 Tryz.prog Γ 107 [tV l, .ip [.fn 105 []] 0] (tB false) := by
 refine Aa q4C rfl ?_
 have e := N9 (Γ := Γ) l.l l.cap l.nl 106 [.ip [tK 2] 0] (fun v => decide (v > 2)) (fun x _ => qCH x 2) (by omega)
 have ha : l.l.any (fun v => decide (v > 2)) = false := by
  rw [List.any_eq_false]
  intro v h
  have := hv v h
  simp; omega
 rw [ha] at e
 simp [Xo, tV]
 refine Ae (qES 2) rfl ?_
 simp
 refine A4 e rfl ?_
 simp [Xp]
structure MOk (c : Bd) : Prop where
 ok : COk c
 lev : E9 c = 0
 n : c.nodes.l.length ≤ 1000000
theorem MOk.cm {c : Bd} (h : MOk c) : c.mems.l.length ≤ 16 := (Is (Qe h.lev).1).2.2.2
theorem MOk.mf {c : Bd} (h : MOk c) : ∀ m ∈ c.mems.l, (1 ≤ m.addr.l.length ∧ m.addr.l.length ≤ 8) ∧ (1 ≤ m.data.l.length ∧ m.data.l.length ≤ 32) ∧ (∀ n ∈ m.addr.l, 0 ≤ n ∧ n < c.nodes.l.length) ∧ (∀ n ∈ m.data.l, 0 ≤ n ∧ n < c.nodes.l.length) ∧ 0 ≤ m.write ∧ m.write < c.nodes.l.length := qHL (Qe h.lev).1
theorem Ns {α : Type} {l : List α} {d : α} {i : Nat} (h : i < l.length) : l.getD i d ∈ l := by
 rw [show l.getD i d = l[i] by simp [List.getD_eq_getElem?_getD, h]]
 exact List.getElem_mem h
theorem Ou.words {c : Bd} {s : Stt} (h : MOk c) (H : Ou c s) : ∀ w ∈ s.words.l, w.l.length ≤ 256 ∧ w.l ≠ [] ∧ ∀ r ∈ w.l, r.l.length ≤ 32 := by
 intro w hw
 obtain ⟨i, hi, rfl⟩ := List.getElem_of_mem hw
 have hi' : i < c.mems.l.length := by rw [← H.w]; exact hi
 have e : s.words.l.getD i Sl.zz = s.words.l[i] := by simp [List.getD_eq_getElem?_getD, hi]
 have h1 := H.wl i hi'
 have h2 := H.wr i hi'
 have h3 := h.mf _ (Ns (d := Mm.d) hi')
 rw [e] at h1 h2
 have h4 : 2 ^ (c.mems.l.getD i Mm.d).addr.l.length ≤ 2 ^ 8 := Nat.pow_le_pow_right (by omega) h3.1.2
 have h5 : 0 < 2 ^ (c.mems.l.getD i Mm.d).addr.l.length := Nat.pow_pos (by omega)
 exact ⟨by omega, fun e => by have := congrArg List.length e; rw [h1, List.length_nil] at this; omega, fun r hr => by rw [h2 r hr]; exact h3.2.1.2⟩
theorem Ou.reads {c : Bd} {s : Stt} (h : MOk c) (H : Ou c s) : ∀ r ∈ s.read.l, r.l.length ≤ 32 := by
 intro r hr
 obtain ⟨i, hi, rfl⟩ := List.getElem_of_mem hr
 have hi' : i < c.mems.l.length := by rw [← H.r]; exact hi
 have e : s.read.l.getD i Sl.z = s.read.l[i] := by simp [List.getD_eq_getElem?_getD, hi]
 have h1 := H.rl i hi'
 have h3 := h.mf _ (Ns (d := Mm.d) hi')
 rw [e] at h1
 rw [h1]; exact h3.2.1.2
theorem qET (hΓ : GOk Γ) (c : Bd) (h : MOk c) (s : Stt) (H : Ou c s) (inn : Sl Int) (hi : inn.l.length = (E1 c).length) (hv : ∀ v ∈ inn.l, v ≤ 3) : Ah Tryz.prog Γ 45 [.agg (tC c), .agg (E6 s), tV inn] (tI 0) := by
 refine B7 q6X rfl ?_
 have e1 := qFE hΓ c h.ok
 have e2 := q93 (Γ := Γ) c h.ok
 have e3 := qFX (Γ := Γ) c h.ok h.cm (fun m hm => (h.mf m hm).1.2) s H
 have hcm := h.cm
 have hsw := H.w
 have hsr := H.r
 have hsd := H.d
 have hsl := Hl c
 have hil := q2R c
 have hn := h.n
 have hW := H.words h
 have hR := H.reads h
 have e4 := qFY (Γ := Γ) s (by omega) (by omega) (fun w hw => by have := (hW w hw).1; omega) (fun w hw => (hW w hw).2.1)
 have hlen : (S5 s).length ≤ 1000000 := by
  have : (s.words.l.flatMap (·.l)).length ≤ 256 * s.words.l.length := by
   have key : ∀ l : List (Sl (Sl Int)), (∀ w ∈ l, w.l.length ≤ 256) → (l.flatMap (·.l)).length ≤ 256 * l.length := by
    intro l
    induction l with
    | nil => intro _; simp
    | cons w l ih =>
     intro hl
     have h1 := hl w List.mem_cons_self
     have h2 := ih fun x hx => hl x (List.mem_cons_of_mem _ hx)
     simp only [List.flatMap_cons, List.length_append, List.length_cons]
     omega
   exact key _ fun w hw => (hW w hw).1
  simp only [S5, List.cons_append, List.length_cons, List.length_append]
  omega
 have hall : ∀ r ∈ S5 s, r.l.length ≤ 1000000 ∧ ∀ v ∈ r.l, v ≤ 2 := by
  intro r hr
  simp only [S5, List.cons_append, List.mem_cons, List.mem_append, List.mem_flatMap] at hr
  rcases hr with rfl | hr | ⟨w, hw, hr⟩
  ·exact ⟨by omega, fun v hv => (H.vd v hv).2⟩
  ·exact ⟨by have := hR r hr; omega, fun v hv => (H.vr r hr v hv).2⟩
  ·exact ⟨by have := (hW w hw).2.2 r hr; omega, fun v hv => (H.vw w hw r hr v hv).2⟩
 have e5 := qCG (Γ := Γ) (S5 s) none none 107 [.ip [.fn 105 []] 0] (fun x hx => .inr (qIs x (hall x hx).1 (hall x hx).2)) hlen
 have e6 := N9 (Γ := Γ) inn.l inn.cap inn.nl 106 [.ip [tK 3] 0] (fun v => decide (v > 3)) (fun x _ => qCH x 3) (by omega)
 have ha : inn.l.any (fun v => decide (v > 3)) = false := by
  rw [List.any_eq_false]
  intro v h
  have := hv v h
  simp; omega
 rw [ha] at e6
 rw [h.lev] at e1
 generalize S5 s = L at *
 simp [tC, Ab, Ad, Ag, Av] at e1 e2 e3
 simp [E6, tV, tW, tWs] at e3 e4
 simp [q0f, tC, Ab, Ad, Ag, Av, E6, tV, tW, tWs]
 refine A4 e1 rfl ?_
 simp
 refine Ae e2 rfl ?_
 simp [A5, hi]
 refine Ae e3 rfl ?_
 simp
 refine Ae (qES 3) rfl ?_
 simp
 refine A4 e6 rfl ?_
 simp
 refine Ae e4 rfl ?_
 simp
 refine A4 e5 rfl ?_
 simp [q0g]
def cyH (c : Bd) (n : Nat) (nets : List Int) : List (Nat × Bn) := [(6, .bx [Ol, Ol, Ol]), (7, .bx [Ol, Ol]), (11, .bx (q0A c 35 n (some n))), (35, .sl 64 1 (Ai nets))]
def cyE (c : Bd) (s : Stt) : List (Nat × AV) := [(3, .t (.ip (tC c) 0)), (4, .t (.ip (E6 s) 0)), (6, .lp 6 0 0), (7, .lp 7 0 0), (11, .lp 11 0 0)]
theorem qL0 {Q : AX → St → Prop} (hΓ : GOk Γ) (c : Bd) (H : ROk c) (hn : c.nodes.l.length ≤ 1000000) (s : Stt) (ord : List Int) (ho : ord.length ≤ 1000000) (hin : ∀ n ∈ ord, 0 ≤ n ∧ n < c.nodes.l.length) (R : List Int)
  (h0 : Q (.exit 0) ⟨cyE c s ++ [(46, .t (.sl (Ak ord) none none)), (47, .t (tI ord.length)), (48, .t (tI ord.length)), (49, .t (tB false))], cyH c c.nodes.l.length R⟩) :
  ∀ (k i : Nat) (nets : List Int), k + i = ord.length → nets.length = c.nodes.l.length → (∀ v ∈ nets, V4 v) → q55 c (ord.drop i) nets = R →
  run Tryz.prog Γ Kz Q ⟨cyE c s ++ [(46, .t (.sl (Ak ord) none none)), (47, .t (tI ord.length)), (48, .t (tI i))], cyH c c.nodes.l.length nets⟩
 | 0, i, nets, h, hl, hv, hR => by
  refine U6 fun K hK => ?_
  have h2 : i = ord.length := by omega
  subst h2
  rw [List.drop_length] at hR
  have hR' : nets = R := hR
  subst hR'
  simp [cyE, cyH, q0A, Ol, Ab, Ad, Ag, Av] at h0
  simp [cyE, cyH, q0A, Ol, Ab, Ad, Ag, Av]
  simpa using h0
 | k + 1, i, nets, h, hl, hv, hR => by
  refine U6 fun K hK => ?_
  have h2 : i < ord.length := by omega
  rw [List.drop_eq_getElem_cons h2] at hR
  have hR : q55 c (ord.drop (i + 1)) (Qf c nets ord[i]) = R := hR
  have e1 := gE (f := tI) 0 h2
  have e1' := Jv (f := tI) 0 h2
  have hnn := hin _ (List.getElem_mem h2)
  rw [B5 h2] at e1 e1'
  generalize ord[i] = n at *
  have ih := qL0 hΓ c H hn s ord ho hin R h0 k (i + 1) (Qf c nets n) (by omega) (by rw [q4s]; exact hl) (qCj hv) hR
  have hget := q2S hnn.1 hnn.2
  have hget' := q2a hnn.1 hnn.2
  have hmem := qCi hnn.1 hnn.2
  have hxi := H.inn _ hmem
  have hkk := H.ok.kind _ hmem
  have hinv : H6 c nets n.toNat = B8 nets (nd c n).inn.l := rfl
  have hlR : (H6 c nets n.toNat).length = (nd c n).inn.l.length := by rw [hinv]; simp [B8]
  have hvR : ∀ v ∈ H6 c nets n.toNat, V4 v := fun v hv' => by
   rw [hinv] at hv'
   obtain ⟨q, hq, rfl⟩ := List.mem_map.1 hv'
   exact Ul hv _
  have hev := qHD hΓ (nd c n).k hkk (H6 c nets n.toNat) none none (by rw [hlR]; omega) hvR
  have hcb := q8B (Γ := Γ) (nd c n).k
  have hst : Qf c nets n = if Cd (nd c n).k then nets.set n.toNat (Tz (nd c n).k (H6 c nets n.toNat)) else nets := rfl
  have hmv := q2b (Γ := Γ) c ⟨nets, some c.nodes.l.length, none⟩ (by show nets.length ≤ _; omega) (nd c n).inn (by omega) (fun k hk => by show 0 ≤ k ∧ k < (nets.length : Int); rw [hl]; exact hxi.2 k hk)
  have hcd : decide (1 ≤ (nd c n).k ∧ (nd c n).k ≤ 13) = Cd (nd c n).k := rfl
  rw [hcd] at hcb
  rw [hst] at ih
  simp only [← hinv] at hmv
  generalize H6 c nets n.toNat = RV at *
  generalize nd c n = x at *
  obtain ⟨hn0, hn1⟩ := hnn
  have hn2 : n.toNat < c.nodes.l.length := by omega
  have hn3 : n.toNat < nets.length := by omega
  have w1 := Bl (i := i) (by omega)
  have vt : (Ai nets).take c.nodes.l.length = Ai nets := by rw [← hl]; exact Bh
  simp [O6, Ab, Ad, Ag, Av, tV] at hmv
  simp [cyE, cyH, q0A, Ol, Ab, Ad, Ag, Av] at ih
  simp [cyE, cyH, q0A, Ol, Ab, Ad, Ag, Av, h2, A5, A8, Ac, Bi, e1, e1', hn0, hn1, hn2, hget, hget', E0]
  refine A4 hcb rfl ?_
  by_cases hc : Cd x.k = true
  ·rw [if_pos hc] at ih
   simp only [hc]
   have hs : (Ai nets).set n.toNat [tK (Tz x.k RV)] = Ai (nets.set n.toNat (Tz x.k RV)) := Fj
   generalize Tz x.k RV = v at *
   simp
   refine A4 hmv (by simp [Am, vt, As]) ?_
   simp
   refine A4 hev rfl ?_
   simp [hn0, hn1, hn2, hn3, A5, hl, hs, w1]
   rw [hK]
   simpa using ih
  ·rw [if_neg hc] at ih
   simp only [Bool.not_eq_true] at hc
   simp only [hc]
   simp [w1]
   rw [hK]
   simpa using ih
def H8 (R : List (List Int)) : Sl (Sl Int) := ⟨R.map fun r => ⟨r, none, none⟩, some R.length, none⟩
theorem qEU (R : List (List Int)) : qGP R = tW (H8 R) := by
 unfold qGP tW H8 Aj
 simp [tV, Function.comp_def]
def N1 (nets : List Int) (ms : List Mm) (ws : List (Sl (Sl Int))) : List (Sl Int) := List.zipWith (fun m w => ⟨Qk (w.l.map (·.l)) (B8 nets m.addr.l), none, none⟩) ms ws
def Jr (nets : List Int) (ms : List Mm) (ws : List (Sl (Sl Int))) : List (Sl (Sl Int)) := List.zipWith (fun m w => H8 (En (B8 nets m.addr.l) (B8 nets m.data.l) (nets.getD m.write.toNat 0) 0 (w.l.map (·.l)))) ms ws
def qFZ (c : Bd) (n : Nat) (nets : List Int) (o x d : T) (rs : List (Sl Int)) (ws : List (Sl (Sl Int))) : List (Nat × Bn) :=
 [(6, .bx [Ol, Ol, Ol]), (7, .bx [Ol, Ol]), (11, .bx ((O6 c ⟨nets, some n, none⟩).map .t)), (17, .bx [.t o, .t x]), (18, .bx [.t d, .ls 127 0 ws.length none, .ls 105 0 rs.length none]), (105, .sl 41 1 (Aj tV rs)), (127, .sl 43 1 (Aj tW ws))]
def qFa (c : Bd) (s : Stt) : List (Nat × AV) := [(4, .t (.ip (E6 s) 0)), (6, .lp 6 0 0), (7, .lp 7 0 0), (11, .lp 11 0 0), (17, .lp 17 0 0), (18, .lp 18 0 0)]
theorem qL1 {Q : AX → St → Prop} (c : Bd) (hn : c.nodes.l.length ≤ 1000000) (s : Stt) (nets : List Int) (hl : nets.length = c.nodes.l.length) (hv : ∀ v ∈ nets, V4 v) (hcm : c.mems.l.length ≤ 16)
  (hm : ∀ m ∈ c.mems.l, m.addr.l.length ≤ 8 ∧ m.data.l.length ≤ 32 ∧ (∀ n ∈ m.addr.l, 0 ≤ n ∧ n < c.nodes.l.length) ∧ (∀ n ∈ m.data.l, 0 ≤ n ∧ n < c.nodes.l.length) ∧ 0 ≤ m.write ∧ m.write < c.nodes.l.length)
  (hs : s.words.l.length = c.mems.l.length) (hw : ∀ w ∈ s.words.l, w.l.length ≤ 256 ∧ w.l ≠ [] ∧ ∀ r ∈ w.l, r.l.length ≤ 32) (o x d : T) (RR : List (Sl Int)) (RW : List (Sl (Sl Int)))
  (h0 : Q (.exit 2) ⟨qFa c s ++ [(84, .t (Ag c.mems)), (85, .t (tI c.mems.l.length)), (86, .t (tI c.mems.l.length)), (87, .t (tB false))], qFZ c c.nodes.l.length nets o x d RR RW⟩) :
  ∀ (k i : Nat) (rs : List (Sl Int)) (ws : List (Sl (Sl Int))), k + i = c.mems.l.length → rs.length = i → ws.length = i → rs ++ N1 nets (c.mems.l.drop i) (s.words.l.drop i) = RR → ws ++ Jr nets (c.mems.l.drop i) (s.words.l.drop i) = RW →
  run Tryz.prog Γ L0 Q ⟨qFa c s ++ [(84, .t (Ag c.mems)), (85, .t (tI c.mems.l.length)), (86, .t (tI i))], qFZ c c.nodes.l.length nets o x d rs ws⟩
 | 0, i, rs, ws, h, hr, hws, hR, hW => by
  refine U7 fun K hK => ?_
  have h2 : i = c.mems.l.length := by omega
  subst h2
  rw [List.drop_length] at hR hW
  simp only [N1, Jr, List.zipWith_nil_left, List.append_nil] at hR hW
  subst hR
  subst hW
  simp [qFa, qFZ, O6, Ol, tV, Ab, Ad, Ag, Av] at h0
  simp [qFa, qFZ, O6, Ol, tV, Ab, Ad, Ag, Av]
  simpa using h0
 | k + 1, i, rs, ws, h, hr, hws, hR, hW => by
  refine U7 fun K hK => ?_
  have h2 : i < c.mems.l.length := by omega
  have h3 : i < s.words.l.length := by omega
  rw [List.drop_eq_getElem_cons h2, List.drop_eq_getElem_cons h3] at hR hW
  simp only [N1, Jr, List.zipWith_cons_cons] at hR hW
  have e1 : (B1 Ug c.mems.l)[i]?.getD [] = Ug c.mems.l[i] := by simp [B1, h2]
  have e1' : ∀ h, (B1 Ug c.mems.l)[i]'h = Ug c.mems.l[i] := fun h => by simp [B1]
  have e2 := gE (f := tW) Sl.zz h3
  have e2' := Jv (f := tW) Sl.zz h3
  rw [show s.words.l.getD i Sl.zz = s.words.l[i] by simp [List.getD_eq_getElem?_getD, h3]] at e2 e2'
  obtain ⟨ma, md, mia, mid, mw0, mw1⟩ := hm _ (List.getElem_mem h2)
  obtain ⟨wl, wn, wr⟩ := hw _ (List.getElem_mem h3)
  generalize c.mems.l[i] = m at *
  generalize s.words.l[i] = w at *
  have ih := qL1 c hn s nets hl hv hcm hm hs hw o x d RR RW h0 k (i + 1) (rs ++ [⟨Qk (w.l.map (·.l)) (B8 nets m.addr.l), none, none⟩]) (ws ++ [H8 (En (B8 nets m.addr.l) (B8 nets m.data.l) (nets.getD m.write.toNat 0) 0 (w.l.map (·.l)))]) (by omega) (by rw [List.length_append, hr]; rfl) (by rw [List.length_append, hws]; rfl) (by rw [← hR, List.append_assoc]; rfl) (by rw [← hW, List.append_assoc]; rfl)
  have hva := q2b (Γ := Γ) c ⟨nets, some c.nodes.l.length, none⟩ (by show nets.length ≤ _; omega) m.addr (by omega) (fun k hk => by show 0 ≤ k ∧ k < (nets.length : Int); rw [hl]; exact mia k hk)
  have hvd := q2b (Γ := Γ) c ⟨nets, some c.nodes.l.length, none⟩ (by show nets.length ≤ _; omega) m.data (by omega) (fun k hk => by show 0 ≤ k ∧ k < (nets.length : Int); rw [hl]; exact mid k hk)
  have val : (B8 nets m.addr.l).length = m.addr.l.length := by simp [B8]
  have vdl : (B8 nets m.data.l).length = m.data.l.length := by simp [B8]
  have vav : ∀ v ∈ B8 nets m.addr.l, 0 ≤ v := fun v hv' => by
   obtain ⟨q, _, rfl⟩ := List.mem_map.1 hv'
   exact (Ul hv _).1
  have hlook := qCD (Γ := Γ) w (by omega) (fun r hr => by have := wr r hr; omega) ⟨B8 nets m.addr.l, none, none⟩ (by show (B8 nets m.addr.l).length ≤ _; omega) vav
  have hsto := qAr (Γ := Γ) w (by omega) (fun r hr => by have := wr r hr; omega) ⟨B8 nets m.addr.l, none, none⟩ ⟨B8 nets m.data.l, none, none⟩ (by show (B8 nets m.addr.l).length ≤ _; omega) vav (by show (B8 nets m.data.l).length ≤ _; omega) (nets.getD m.write.toNat 0)
  rw [if_neg wn] at hlook
  rw [qEU] at hsto
  have hq : m.write.toNat < nets.length := by omega
  have e3 := gE (f := tK) 0 hq
  have e3' := Jv (f := tK) 0 hq
  have hqn : m.write.toNat < c.nodes.l.length := by omega
  generalize nets.getD m.write.toNat 0 = en at *
  simp only at hlook hsto hva hvd
  have hsr : Aj tV rs ++ [[tV ⟨Qk (w.l.map (·.l)) (B8 nets m.addr.l), none, none⟩]] = Aj tV (rs ++ [⟨Qk (w.l.map (·.l)) (B8 nets m.addr.l), none, none⟩]) := D2
  have hsw : Aj tW ws ++ [[tW (H8 (En (B8 nets m.addr.l) (B8 nets m.data.l) en 0 (w.l.map (·.l))))]] = Aj tW (ws ++ [H8 (En (B8 nets m.addr.l) (B8 nets m.data.l) en 0 (w.l.map (·.l)))]) := D2
  generalize H8 (En (B8 nets m.addr.l) (B8 nets m.data.l) en 0 (w.l.map (·.l))) = nw at *
  generalize Qk (w.l.map (·.l)) (B8 nets m.addr.l) = L at *
  have hsr : Aj tV rs ++ [[T.sl (Ai L) none none]] = Aj tV (rs ++ [⟨L, none, none⟩]) := hsr
  have hsw : Aj tW ws ++ [[T.sl (Aj tV nw.l) nw.cap nw.nl]] = Aj tW (ws ++ [nw]) := hsw
  have hsto : Ah Tryz.prog Γ 55 [tW w, .sl (Ai (B8 nets m.addr.l)) none none, .sl (Ai (B8 nets m.data.l)) none none, tK en] (T.sl (Aj tV nw.l) nw.cap nw.nl) := hsto
  generalize B8 nets m.addr.l = va at *
  generalize B8 nets m.data.l = vd at *
  have w1 := Bl (i := i) (by omega)
  have vt : (Ai nets).take c.nodes.l.length = Ai nets := by rw [← hl]; exact Bh
  have vt1 : (Aj tV rs).take i = Aj tV rs := by rw [← hr]; exact Ar
  have vt2 : (Aj tW ws).take i = Aj tW ws := by rw [← hws]; exact Ar
  have h3i : (i : Int) < s.words.l.length := by omega
  simp only [Ug, Av] at e1 e1'
  simp [O6, Ab, Ad, Ag, Av] at hva hvd
  simp only [tV] at hva hvd
  simp [qFa, qFZ, O6, Ol, tV, Ab, Ad, Ag, Av, E6, tWs] at ih
  simp [qFa, qFZ, O6, Ol, tV, Ab, Ad, Ag, Av, E6, tWs, h2, P0, Ac, e1, e1']
  refine A4 hva rfl ?_
  simp [h3, A5, A8, e2, e2']
  refine Ae hlook rfl ?_
  have hw1 : ∀ t : T, E2 1 [[t]] := fun t e he => by simp at he; subst he; rfl
  simp [hr, hws, h3, A5, A8, e2, e2', vt1, vt2, hsr, hw1]
  refine ⟨by omega, ?_⟩
  refine A4 hvd rfl ?_
  simp [hl, hq, hqn, mw0, mw1, e3, e3', A5, A8]
  refine Ae hsto rfl ?_
  simp [hr, hws, A5, A8, vt1, vt2, hsw, hw1, w1]
  refine ⟨by omega, ?_⟩
  rw [hK]
  simpa [hr, hws] using ih
theorem qNo (es : List (List T)) (cap : Option Nat) (nl : Option Bool) (hw : E2 1 es) : Ah Tryz.prog Γ 57 [.sl es cap nl] (.sl es (some es.length) nl) := by
 refine B7 Zs rfl ?_
 simp [O0, O1, hw]
theorem qNp (es : List (List T)) (cap : Option Nat) (nl : Option Bool) (hw : E2 1 es) : Ah Tryz.prog Γ 56 [.sl es cap nl] (.sl es (some es.length) nl) := by
 refine B7 Yf rfl ?_
 simp [Ly, M1, hw]
theorem qBT (c : Bd) (hc : COk c) (nets : Sl Int) (hl : nets.l.length ≤ 1000000000) : Ah Tryz.prog Γ 51 [.agg (tC c), tV nets] (.agg [tVs (X1 c nets.l), tVs (D8 c nets.l)]) := by
 refine B7 q8N rfl ?_
 have h := qCh (Γ := Γ) c hc nets hl
 generalize X1 c nets.l = O at *
 generalize D8 c nets.l = N at *
 simp [O6, Ab, Ad, Ag, Av, tV] at h
 simp [q2o, tC, Ab, Ad, Ag, Av, tV]
 refine A4 h rfl ?_
 simp [q2p, tVs]
def q0p (c : Bd) (s : Stt) (nets : List Int) : Stt :=
 ⟨⟨D8 c nets, some (D8 c nets).length, none⟩, ⟨Jr nets c.mems.l s.words.l, some c.mems.l.length, none⟩, ⟨N1 nets c.mems.l s.words.l, some c.mems.l.length, none⟩⟩
def Bz (c : Bd) (s : Stt) (inn : List Int) : List Int := qGN c inn s.dff.l s.rd
set_option maxHeartbeats 4000000 in
theorem qFb (hΓ : GOk Γ) (c : Bd) (h : MOk c) (hn : c.nodes.l.length ≤ 19) (s : Stt) (H : Ou c s) (inn : Sl Int) (hi : inn.l.length = (E1 c).length) (hv : ∀ v ∈ inn.l, V4 v) (hs0 : ∀ x ∈ mems c, 0 ≤ (nd c x).mem ∧ (nd c x).mem < c.mems.l.length ∧ 0 ≤ (nd c x).bit ∧ (nd c x).bit < (c.mems.l.getD (nd c x).mem.toNat Mm.d).data.l.length) (hnv : ∀ v ∈ Bz c s inn.l, V4 v) (hlv : ∀ v ∈ M4 c inn.l s.dff.l s.rd, V4 v) :
  Ah Tryz.prog Γ 13 [.agg (tC c), .agg (E6 s), tV inn] (.tup [.agg (E6 (q0p c s (Bz c s inn.l))), .agg [tVs (X1 c (Bz c s inn.l)), tVs (D8 c (Bz c s inn.l))], .sl (Ai (Bz c s inn.l)) (some c.nodes.l.length) none, tI 0]) := by
 refine B7 q6Y rfl ?_
 have e1 := qET hΓ c h s H inn hi (fun v hv' => (hv v hv').2)
 have e2 := qFL hΓ c h.ok hn
 have hm := h.mf
 have hcm := h.cm
 have hW := H.words h
 have hzl : (List.replicate c.nodes.l.length (0 : Int)).length = c.nodes.l.length := by simp
 have hld := qKE (Γ := Γ) c h.ok s inn (some c.nodes.l.length) (List.replicate c.nodes.l.length 0) hzl h.n hi H.d (fun x hx => by
  obtain ⟨a1, a2, a3, a4⟩ := hs0 x hx
  exact ⟨a1, by rw [H.r]; exact a2, a3, by rw [H.rl _ (by omega)]; exact a4⟩) rfl
 have hol : (Ls c).length = c.nodes.l.length := by rw [(Ym c).1.length_eq, Ko]
 have g1 := fun Q h0 => qL0 (Γ := Γ) (Q := Q) hΓ c (qCk h.ok h.lev) h.n s (Ls c) (by omega) (fun n hn => by rw [(Ym c).1.mem_iff, Vg] at hn; exact hn) (Bz c s inn.l) h0 (Ls c).length 0 (M4 c inn.l s.dff.l s.rd) (by omega) Uw hlv rfl
 have hnl : (Bz c s inn.l).length = c.nodes.l.length := qCB
 have hll : (M4 c inn.l s.dff.l s.rd).length = c.nodes.l.length := Uw
 have hobs := qBT (Γ := Γ) c h.ok ⟨Bz c s inn.l, some c.nodes.l.length, none⟩ (by show (Bz c s inn.l).length ≤ _; omega)
 have hcl := qHH (Γ := Γ) ⟨D8 c (Bz c s inn.l), some (D8 c (Bz c s inn.l)).length, none⟩ (fun h => nomatch h) (by have := Hl c; show (D8 c _).length ≤ _; unfold D8; rw [List.length_map]; omega)
 have hcs : qCq ⟨D8 c (Bz c s inn.l), some (D8 c (Bz c s inn.l)).length, none⟩ = ⟨D8 c (Bz c s inn.l), none, none⟩ := by unfold qCq; rw [if_neg (fun h => nomatch h)]
 rw [hcs] at hcl
 have g3 := fun Q o x d h0 => qL1 (Γ := Γ) (Q := Q) c h.n s (Bz c s inn.l) hnl hnv hcm (fun m hm' => ⟨(hm m hm').1.2, (hm m hm').2.1.2, (hm m hm').2.2⟩) H.w hW o x d (N1 (Bz c s inn.l) c.mems.l s.words.l) (Jr (Bz c s inn.l) c.mems.l s.words.l) h0 c.mems.l.length 0 [] [] (by omega) rfl rfl rfl rfl
 have htk : (Ai (Bz c s inn.l)).take c.nodes.l.length = Ai (Bz c s inn.l) := by rw [← hnl]; exact Bh
 have lR : (N1 (Bz c s inn.l) c.mems.l s.words.l).length = c.mems.l.length := by unfold N1; rw [List.length_zipWith, H.w, Nat.min_self]
 have lW : (Jr (Bz c s inn.l) c.mems.l s.words.l).length = c.mems.l.length := by unfold Jr; rw [List.length_zipWith, H.w, Nat.min_self]
 have tR : (Aj tV (N1 (Bz c s inn.l) c.mems.l s.words.l)).take c.mems.l.length = Aj tV (N1 (Bz c s inn.l) c.mems.l s.words.l) := by rw [← lR]; exact Ar
 have tW' : (Aj tW (Jr (Bz c s inn.l) c.mems.l s.words.l)).take c.mems.l.length = Aj tW (Jr (Bz c s inn.l) c.mems.l s.words.l) := by rw [← lW]; exact Ar
 have c1 := qIP (Γ := Γ) (Ai (D8 c (Bz c s inn.l))) none none A8
 have c2 := qNo (Γ := Γ) (Aj tV (N1 (Bz c s inn.l) c.mems.l s.words.l)) none none A8
 have c3 := qNp (Γ := Γ) (Aj tW (Jr (Bz c s inn.l) c.mems.l s.words.l)) none none A8
 rw [A5] at c1 c2 c3
 rw [lR] at c2
 rw [lW] at c3
 have hz : List.replicate c.nodes.l.length [T.v (Value.int .u8 0)] = Ai (List.replicate c.nodes.l.length 0) := by simp [Aj]
 unfold q0p
 generalize N1 (Bz c s inn.l) c.mems.l s.words.l = NR at *
 generalize Jr (Bz c s inn.l) c.mems.l s.words.l = NW at *
 generalize X1 c (Bz c s inn.l) = O at *
 generalize D8 c (Bz c s inn.l) = X at *
 generalize Bz c s inn.l = N at *
 generalize M4 c inn.l s.dff.l s.rd = L at *
 have hlev := h.lev
 simp [tC, Ab, Ad, Ag, Av, E6, tV, tW, tWs] at e1 e2 hobs hcl
 simp [hlev] at e2
 simp [q0A, Ab, Ad, Ag, Av, E6, tV, tW, tWs] at hld
 simp [cyE, cyH, q0A, Ol, tC, Ab, Ad, Ag, Av, E6, tV, tW, tWs] at g1
 simp [qFa, qFZ, O6, Ol, tC, Ab, Ad, Ag, Av, E6, tV, tW, tWs, Cf, lR, lW] at g3
 simp [q0j, tC, Ab, Ad, Ag, Av, E6, tV, tW, tWs]
 refine Ae e1 rfl ?_
 simp [Ac]
 refine ⟨by omega, ?_⟩
 rw [hz]
 refine ⟨_, _, hld, ?_⟩
 simp [A5, hll]
 refine A4 e2 rfl ?_
 simp [A5]
 refine g1 _ ?_
 simp [St.freeze, Bn.closed, Do, frz1, frz0, I8, del, Am, htk]
 refine Ae hobs rfl ?_
 simp [tVs]
 refine Ae hcl rfl ?_
 simp
 refine Ae c1 rfl ?_
 simp [Ac]
 refine g3 _ _ _ _ ?_
 simp [St.freeze, Bn.closed, Do, frz1, frz0, I8, del, Am, tR, tW']
 refine Ae c3 rfl ?_
 simp
 refine Ae c2 rfl ?_
 simp [q0k, Am, As]
end Go.Lg
namespace Go.Lg
open Go
section
variable {P : Program} {Γ : Tables} {Q : AX → St → Prop} {s : St}
/- probecard/probecardref09.Choices (function 129) -/
abbrev q1y : IC := .gh (.seq (.seq (.reg [om 27 8, om 28 6, od 29 (le 0 28), od 30 (.bin .lss (tm 27) (tm 29))] [kp [0, 3, 4, 5, 6, 7, 8, 30] [46]]) (.cond (tm 30) .skip (.exit 4))) (.seq (.block 5 (.reg [om 33 5, om 34 3, om 35 7, od 36 (ia 1 34
 35), od 37 (ld 1 36), om 38 6, om 39 8, od 40 (ia 1 38 39), od 41 (ld 1 40), om 42 4, od 43 (.bin .shl (tm 41) (tm 42)), od 44 (.bin .add (tm 37) (tm 43)), od 45 (.bsl true 3 1 [(tm 44)]), od 46 (.app false 3 1 (tm 33) (tm 45)), om
 5 46] [kp [0, 3, 4, 5, 6, 7, 8] [46]])) (.reg [om 31 8, od 32 (.bin .add (tm 31) (ki 1)), om 8 32] [kp [0, 3, 4, 5, 6, 7, 8] [46]]))) [kp [0, 3, 4, 5, 6, 7, 8] [46]]
def Nu : IC := .loop q1y
abbrev q1z : IC := .gh (.seq (.seq (.reg [om 21 7, om 22 3, od 23 (le 0 22), od 24 (.bin .lss (tm 21) (tm 23))] [kp [0, 3, 4, 5, 6, 7, 24] [46]]) (.cond (tm 24) .skip (.exit 2))) (.seq (.block 3 (.seq (.reg [od 8 (.mv (ki 0))] [kp [0, 3, 4, 5, 6, 7,
 8] [46]]) (.block 4 Nu))) (.reg [om 25 7, od 26 (.bin .add (tm 25) (ki 1)), om 7 26] [kp [0, 3, 4, 5, 6, 7] [46]]))) [kp [0, 3, 4, 5, 6, 7] [46]]
def V0 : IC := .loop q1z
abbrev q20 : IC := .gh (.seq (.seq (.reg [om 10 4, om 11 0, od 12 (le 0 11), od 13 (.bin .lss (tm 10) (tm 12))] [kp [0, 3, 4, 13] [46]]) (.cond (tm 13) .skip (.exit 0))) (.seq (.block 1 (.seq (.reg [od 5 (.mv kN)] [.nl 5 46 3 1, kp [0, 3, 4, 5]
 [46]]) (.seq (.reg [om 16 0, om 17 4, od 18 (ia 1 16 17), od 19 (ld 1 18), od 20 (.call 130 [(tm 19), kF]), om 6 20] [kp [0, 3, 4, 5, 6] [46]]) (.seq (.seq (.reg [od 7 (.mv (ki 0))] [kp [0, 3, 4, 5, 6, 7] [46]]) (.gh (.block 2
 V0) [.frz 46])) (.reg [om 47 5, om 3 47] [kp [0, 3, 4] [46]]))))) (.reg [om 14 4, od 15 (.bin .add (tm 14) (ki 1)), om 4 15] [kp [0, 3, 4] [46]]))) [kp [0, 3, 4] [46]]
def V1 : IC := .loop q20
abbrev q21 : IC := (.seq (.reg [od 2 (.mv kN)] [kp [0] []]) (.seq (.reg [od 9 (.bsl true 3 1 [(ki 0)]), om 3 9] [kp [0, 3] [46]]) (.seq (.seq (.reg [od 4 (.mv (ki 0))] [kp [0, 3, 4] [46]]) (.block 0 V1)) (.seq (.reg [om 48 3, om 2 48]
 [kp [2] [46]]) .ret))))
theorem Wn (h : ∀ K : St → Prop, K = run P Γ Nu Q → run P Γ q1y (An K Q) s) : run P Γ Nu Q s := Af h
theorem Wp (h : ∀ K : St → Prop, K = run P Γ V0 Q → run P Γ q1z (An K Q) s) : run P Γ V0 Q s := Af h
theorem Wq (h : ∀ K : St → Prop, K = run P Γ V1 Q → run P Γ q20 (An K Q) s) : run P Γ V1 Q s := Af h
def q22 : List RV := [.tmp 2]
/- probecard/probecardref09.value (function 132) -/
abbrev q4O : IC := .gh (.seq (.seq (.reg [om 4 3, om 5 0, od 6 (le 0 5), od 7 (.bin .lss (tm 4) (tm 6))] [kp [0, 3, 7] []]) (.cond (tm 7) .skip (.exit 0))) (.seq (.block 1 (.seq (.reg [om 10 0, om 11 3, od 12 (ia 1 10 11), od 13 (ld 1 12), om 14 0,
 od 15 (.iadr 1 (tm 14) (ki 0)), od 16 (ld 1 15), od 17 (.bin .neq (tm 13) (tm 16))] [kp [0, 3, 17] []]) (.cond (tm 17) (.seq (.reg [od 2 (.mv (ku 2))] [kp [2] []]) .ret) .skip))) (.reg [om 8 3, od 9 (.bin .add (tm 8) (ki 1)), om 3
 9] [kp [0, 3] []]))) [kp [0, 3] []]
def S7 : IC := .loop q4O
abbrev q4P : IC := (.seq (.reg [od 2 (.mv (ku 0))] [kp [0] []]) (.seq (.seq (.reg [od 3 (.mv (ki 0))] [kp [0, 3] []]) (.block 0 S7)) (.seq (.seq (.reg [om 18 0, od 19 (le 0 18), od 20 (.bin .eql (tm 19) (ki 0))] [kp [0, 20] []]) (.cond
 (tm 20) (.seq (.reg [od 2 (.mv (ku 2))] [kp [2] []]) .ret) .skip)) (.seq (.reg [om 21 0, od 22 (.iadr 1 (tm 21) (ki 0)), od 23 (ld 1 22), od 24 (.conv .u8 (tm 23)), om 2 24] [kp [2] []]) .ret))))
theorem Zx (h : ∀ K : St → Prop, K = run P Γ S7 Q → run P Γ q4O (An K Q) s) : run P Γ S7 Q s := Af h
def S8 : List RV := [.tmp 2]
/- probecard/probecardref09.bit (function 131) -/
abbrev q2c : IC := (.seq (.reg [od 4 (.mv kN)] [kp [0, 1] []]) (.seq (.seq (.reg [om 5 1, om 6 0, od 7 (le 0 6), od 8 (.bin .geq (tm 5) (tm 7))] [kp [0, 1, 8] []]) (.cond (tm 8) (.seq (.reg [od 9 (.bsl true 3 1 [(ki 0), (ki 1)]), om 4 9] [kp [4] []])
 .ret) .skip)) (.seq (.reg [om 10 0, om 11 1, od 12 (ia 1 10 11), od 13 (ld 1 12), od 14 (.call 130 [(tm 13), kF]), om 4 14] [kp [4] []]) .ret)))
def q2d : List RV := [.tmp 4]
/- probecard/probecardref09.Look (function 63) -/
abbrev q5g : IC := .gh (.seq (.seq (.reg [om 25 9, om 26 6, od 27 (le 0 26), od 28 (.bin .lss (tm 25) (tm 27))] [kp [0, 5, 6, 7, 8, 9, 28] [48, 53]]) (.cond (tm 28) .skip (.exit 2))) (.seq (.block 3 (.seq (.reg [om 31 6, om 32 9, od 33 (ia 1 31 32),
 od 34 (ld 1 33), om 35 0, od 36 (le 0 35), od 37 (.bin .lss (tm 34) (tm 36))] [kp [0, 5, 6, 7, 8, 9, 37] [48, 53]]) (.cond (tm 37) (.reg [om 38 8, om 39 0, om 40 6, om 41 9, od 42 (ia 1 40 41), od 43 (ld 1 42), od 44 (ia 1 39 43),
 od 45 (ld 1 44), om 46 7, od 47 (.call 131 [(tm 45), (tm 46)]), od 48 (.app false 3 1 (tm 38) (tm 47)), om 8 48] [kp [0, 5, 6, 7, 8, 9] [48, 53]]) .skip))) (.reg [om 29 9, od 30 (.bin .add (tm 29) (ki 1)), om 9 30] [kp [0, 5, 6, 7,
 8, 9] [48, 53]]))) [kp [0, 5, 6, 7, 8, 9] [48, 53]]
def Vl : IC := .loop q5g
abbrev q5h : IC := .gh (.seq (.seq (.reg [om 12 0, od 13 (le 0 12), od 14 (.bin .gtr (tm 13) (ki 0)), om 15 14, oT 16 (.mv (tm 7)) 15, oT 17 (.mv (tm 0)) 15, oT 18 (.iadr 1 (tm 17) (ki 0)) 15, oT 19 (ld 1 18) 15, oT 20 (le 0 19) 15, oT 21 (.bin .lss
 (tm 16) (tm 20)) 15, od 22 (.pick (tm 15) (tm 21) kF)] [kp [0, 5, 6, 7, 22] [53]]) (.cond (tm 22) .skip (.exit 0))) (.seq (.block 1 (.seq (.reg [od 8 (.mv kN)] [.nl 8 48 3 1, kp [0, 5, 6, 7, 8] [48, 53]]) (.seq (.seq (.reg [od 9
 (.mv (ki 0))] [kp [0, 5, 6, 7, 8, 9] [48, 53]]) (.block 2 Vl)) (.reg [om 49 5, om 50 8, od 51 (.call 132 [(tm 50)]), od 52 (.bsl true 64 1 [(tm 51)]), od 53 (.app false 64 1 (tm 49) (tm 52)), om 5 53] [kp [0, 5, 6, 7]
 [53]])))) (.reg [om 23 7, od 24 (.bin .add (tm 23) (ki 1)), om 7 24] [kp [0, 5, 6, 7] [53]]))) [kp [0, 5, 6, 7] [53]]
def Vm : IC := .loop q5h
abbrev q5i : IC := (.seq (.reg [od 4 (.mv kN)] [kp [0, 1] []]) (.seq (.reg [od 5 (.mv kN)] [.nl 5 53 64 1, kp [0, 1, 5] [53]]) (.seq (.reg [om 10 1, od 11 (.call 129 [(tm 10)]), om 6 11] [kp [0, 5, 6] [53]]) (.seq (.seq (.reg [od 7 (.mv (ki 0))] [kp
 [0, 5, 6, 7] [53]]) (.block 0 Vm)) (.seq (.reg [om 54 5, om 4 54] [kp [4] [53]]) .ret)))))
theorem q0q (h : ∀ K : St → Prop, K = run P Γ Vl Q → run P Γ q5g (An K Q) s) : run P Γ Vl Q s := Af h
theorem q0r (h : ∀ K : St → Prop, K = run P Γ Vm Q → run P Γ q5h (An K Q) s) : run P Γ Vm Q s := Af h
def q5j : List RV := [.tmp 4]
/- probecard/probecardref09.Store (function 62) -/
abbrev q4Q : IC := .gh (.seq (.seq (.reg [om 34 17, om 35 13, od 36 (le 0 35), od 37 (.bin .lss (tm 34) (tm 36))] [kp [0, 1, 3, 11, 12, 13, 14, 15, 16, 17, 37] [57, 67]]) (.cond (tm 37) .skip (.exit 4))) (.seq (.block 5 (.seq (.reg [om 40 13, om 41
 17, od 42 (ia 1 40 41), od 43 (ld 1 42), od 44 (.bin .eql (tm 43) (ki 1)), om 45 44, oT 46 (.mv (tm 12)) 45, oT 47 (.mv (tm 16)) 45, oT 48 (ia 1 46 47) 45, oT 49 (ld 1 48) 45, oT 50 (.mv (tm 1)) 45, oT 51 (.bin .eql (tm 49) (tm
 50)) 45, od 52 (.pick (tm 45) (tm 51) kF)] [kp [0, 1, 3, 11, 12, 13, 14, 15, 16, 17, 52] [57, 67]]) (.cond (tm 52) (.reg [om 53 15, om 54 3, om 55 14, od 56 (.call 131 [(tm 54), (tm 55)]), od 57 (.app false 3 1 (tm 53) (tm 56)), om
 15 57] [kp [0, 1, 3, 11, 12, 13, 14, 15, 16, 17] [57, 67]]) (.reg [om 58 15, om 59 0, om 60 14, od 61 (.call 131 [(tm 59), (tm 60)]), oz 62 (.app false 3 1 (tm 58) (tm 61)) 57, om 15 62] [kp [0, 1, 3, 11, 12, 13, 14, 15, 16, 17]
 [57, 67]])))) (.reg [om 38 17, od 39 (.bin .add (tm 38) (ki 1)), om 17 39] [kp [0, 1, 3, 11, 12, 13, 14, 15, 16, 17] [57, 67]]))) [kp [0, 1, 3, 11, 12, 13, 14, 15, 16, 17] [57, 67]]
def S9 : IC := .loop q4Q
abbrev q4R : IC := .gh (.seq (.seq (.reg [om 28 16, om 29 12, od 30 (le 0 29), od 31 (.bin .lss (tm 28) (tm 30))] [kp [0, 1, 3, 11, 12, 13, 14, 15, 16, 31] [57, 67]]) (.cond (tm 31) .skip (.exit 2))) (.seq (.block 3 (.seq (.reg [od 17 (.mv (ki 0))]
 [kp [0, 1, 3, 11, 12, 13, 14, 15, 16, 17] [57, 67]]) (.block 4 S9))) (.reg [om 32 16, od 33 (.bin .add (tm 32) (ki 1)), om 16 33] [kp [0, 1, 3, 11, 12, 13, 14, 15, 16] [57, 67]]))) [kp [0, 1, 3, 11, 12, 13, 14, 15, 16]
 [57, 67]]
def Si : IC := .loop q4R
abbrev q4S : IC := .gh (.seq (.seq (.reg [om 22 14, om 23 0, od 24 (le 0 23), od 25 (.bin .lss (tm 22) (tm 24))] [kp [0, 1, 3, 11, 12, 13, 14, 25] [67]]) (.cond (tm 25) .skip (.exit 0))) (.seq (.block 1 (.seq (.reg [od 15 (.mv kN)] [.nl 15 57 3 1, kp
 [0, 1, 3, 11, 12, 13, 14, 15] [57, 67]]) (.seq (.seq (.reg [od 16 (.mv (ki 0))] [kp [0, 1, 3, 11, 12, 13, 14, 15, 16] [57, 67]]) (.block 2 Si)) (.reg [om 63 11, om 64 15, od 65 (.call 132 [(tm 64)]), od 66 (.bsl true 64
 1 [(tm 65)]), od 67 (.app false 64 1 (tm 63) (tm 66)), om 11 67] [kp [0, 1, 3, 11, 12, 13, 14] [67]])))) (.reg [om 26 14, od 27 (.bin .add (tm 26) (ki 1)), om 14 27] [kp [0, 1, 3, 11, 12, 13, 14] [67]]))) [kp [0, 1, 3, 11, 12, 13,
 14] [67]]
def Sj : IC := .loop q4S
abbrev q4T : IC := (.seq (.reg [od 10 (.mv kN)] [kp [0, 1, 2, 3, 4] []]) (.seq (.reg [od 11 (.mv kN)] [.nl 11 67 64 1, kp [0, 1, 2, 3, 4, 11] [67]]) (.seq (.reg [om 18 2, od 19 (.call 129 [(tm 18)]), om 12 19] [kp [0, 1, 3, 4, 11, 12] [67]]) (.seq
 (.reg [om 20 4, od 21 (.call 130 [(tm 20), kF]), om 13 21] [kp [0, 1, 3, 11, 12, 13] [67]]) (.seq (.seq (.reg [od 14 (.mv (ki 0))] [kp [0, 1, 3, 11, 12, 13, 14] [67]]) (.block 0 Sj)) (.seq (.reg [om 68 11, om 10 68] [kp
 [10] [67]]) .ret))))))
theorem Zy (h : ∀ K : St → Prop, K = run P Γ S9 Q → run P Γ q4Q (An K Q) s) : run P Γ S9 Q s := Af h
theorem Zz (h : ∀ K : St → Prop, K = run P Γ Si Q → run P Γ q4R (An K Q) s) : run P Γ Si Q s := Af h
theorem q00 (h : ∀ K : St → Prop, K = run P Γ Sj Q → run P Γ q4S (An K Q) s) : run P Γ Sj Q s := Af h
def q4U : List RV := [.tmp 10]
/- probecard/probecardref09.values (function 61) -/
abbrev q32 : IC := .gh (.seq (.seq (.reg [om 7 6, om 8 1, od 9 (le 0 8), od 10 (.bin .lss (tm 7) (tm 9))] [kp [0, 1, 5, 6, 10] [22]]) (.cond (tm 10) .skip (.exit 0))) (.seq (.block 1 (.reg [om 13 5, om 14 0, om 15 1, om 16 6, od 17 (ia 1 15 16), od
 18 (ld 1 17), od 19 (ia 1 14 18), od 20 (ld 1 19), od 21 (.bsl true 64 1 [(tm 20)]), od 22 (.app false 64 1 (tm 13) (tm 21)), om 5 22] [kp [0, 1, 5, 6] [22]])) (.reg [om 11 6, od 12 (.bin .add (tm 11) (ki 1)), om 6 12] [kp [0, 1,
 5, 6] [22]]))) [kp [0, 1, 5, 6] [22]]
def P8 : IC := .loop q32
abbrev q33 : IC := (.seq (.reg [od 4 (.mv kN)] [kp [0, 1] []]) (.seq (.reg [od 5 (.mv kN)] [.nl 5 22 64 1, kp [0, 1, 5] [22]]) (.seq (.seq (.reg [od 6 (.mv (ki 0))] [kp [0, 1, 5, 6] [22]]) (.block 0 P8)) (.seq (.reg [om 23 5, om 4 23]
 [kp [4] [22]]) .ret))))
theorem Xw (h : ∀ K : St → Prop, K = run P Γ P8 Q → run P Γ q32 (An K Q) s) : run P Γ P8 Q s := Af h
def q34 : List RV := [.tmp 4]
/- probecard/probecardref09.Nets (function 14) -/
abbrev q5k : IC := .gh (.seq (.seq (.reg [om 17 12, od 18 (fa 0 4), od 19 (ld 1 18), od 20 (le 0 19), od 21 (.bin .lss (tm 17) (tm 20))] [kp [1, 2, 3, 4, 9, 10, 11, 12, 21] [16]]) (.cond (tm 21) .skip (.exit 0))) (.seq (.block 1 (.seq (.reg [od 24
 (fa 0 4), od 25 (ld 1 24), om 26 12, od 27 (ia 4 25 26), od 28 (fa 0 27), od 29 (ld 1 28)] [kp [1, 2, 3, 4, 9, 10, 11, 12, 29] [16]]) (.block 2 (.seq (.reg [od 31 (.bin .eql (tm 29) (ku 0)), om 30 31] [kp [1, 2, 3, 4, 9, 10, 11,
 12, 29, 30] [16]]) (.cond (tm 30) (.seq (.reg [om 32 9, om 33 12, om 34 3, om 35 10, od 36 (ia 1 34 35), od 37 (ld 1 36), od 38 (ia 1 32 33), on (.store 1 (tm 38) (tm 37))] [kp [1, 2, 3, 4, 9, 10, 11, 12] [16]]) (.reg [om 39 10, od
 40 (.bin .add (tm 39) (ki 1)), om 10 40] [kp [1, 2, 3, 4, 9, 10, 11, 12] [16]])) (.seq (.reg [od 42 (.bin .eql (tm 29) (ku 14)), om 41 42] [kp [1, 2, 3, 4, 9, 10, 11, 12, 29, 41] [16]]) (.cond (tm 41) (.seq (.reg [om 43 9, om 44
 12, om 45 1, om 46 11, od 47 (ia 1 45 46), od 48 (ld 1 47), od 49 (ia 1 43 44), on (.store 1 (tm 49) (tm 48))] [kp [1, 2, 3, 4, 9, 10, 11, 12] [16]]) (.reg [om 50 11, od 51 (.bin .add (tm 50) (ki 1)), om 11 51] [kp [1, 2, 3, 4, 9,
 10, 11, 12] [16]])) (.seq (.reg [od 53 (.bin .eql (tm 29) (ku 15)), om 52 53] [kp [1, 2, 3, 4, 9, 10, 11, 12, 52] [16]]) (.cond (tm 52) (.reg [om 54 9, om 55 12, om 56 2, od 57 (fa 0 4), od 58 (.ldT 1 false (tm 57)), om 59 12, od
 60 (ia 4 58 59), od 61 (fa 2 60), od 62 (.ldT 1 false (tm 61)), od 63 (ia 1 56 62), od 64 (.ldT 1 false (tm 63)), od 65 (fa 0 4), od 66 (.ldT 1 false (tm 65)), om 67 12, od 68 (ia 4 66 67), od 69 (fa 3 68), od 70 (.ldT 1 false (tm
 69)), od 71 (ia 1 64 70), od 72 (.ldT 1 false (tm 71)), od 73 (ia 1 54 55), on (.stR 16 1 (tm 73) (tm 72))] [kp [1, 2, 3, 4, 9, 10, 11, 12] [16]]) .skip))))))))) (.reg [om 22 12, od 23 (.bin .add (tm 22) (ki 1)), om 12 23] [kp [1,
 2, 3, 4, 9, 10, 11, 12] [16]]))) [kp [1, 2, 3, 4, 9, 10, 11, 12] [16]]
def Vn : IC := .loop q5k
abbrev q5l : IC := (.seq (.reg [od 4 (.box true (tm 0)), od 8 (.mv kN)] [kp [1, 2, 3, 4] []]) (.seq (.reg [od 13 (fa 0 4), od 14 (ld 1 13), od 15 (le 0 14), od 16 (.mk 64 1 [(.int .u8 0)] (tm 15) (tm 15)), om 9 16] [kp [1, 2, 3, 4, 9] [16]]) (.seq
 (.reg [od 10 (.mv (ki 0)), od 11 (.mv (ki 0))] [kp [1, 2, 3, 4, 9, 10, 11] [16]]) (.seq (.seq (.reg [od 12 (.mv (ki 0))] [kp [1, 2, 3, 4, 9, 10, 11, 12] [16]]) (.block 0 Vn)) (.seq (.reg [od 74 (lG 4 4), om 75 9, od 76
 (.call 58 [(tm 74), (tm 75)]), om 8 76] [kp [8] []]) .ret)))))
theorem q0s (h : ∀ K : St → Prop, K = run P Γ Vn Q → run P Γ q5k (An K Q) s) : run P Γ Vn Q s := Af h
def q5m : List RV := [.tmp 8]
/- probecard/probecardref09.Next (function 17) -/
abbrev q5n : IC := .gh (.seq (.seq (.reg [om 23 13, om 24 2, od 25 (le 0 24), od 26 (.bin .lss (tm 23) (tm 25))] [kp [2, 3, 10, 11, 12, 13, 26] [10, 47]]) (.cond (tm 26) .skip (.exit 0))) (.seq (.block 1 (.reg [om 29 12, om 30 2, om 31 13, od 32 (ia
 1 30 31), od 33 (ld 1 32), om 34 13, om 35 11, om 36 3, od 37 (fa 1 10), od 38 (ld 1 37), od 39 (.call 61 [(tm 36), (tm 38)]), om 40 3, od 41 (fa 2 10), od 42 (ld 1 41), od 43 (ia 1 40 42), od 44 (ld 1 43), od 45 (.call 62 [(tm
 33), (tm 34), (tm 35), (tm 39), (tm 44)]), od 46 (.bsl true 41 1 [(tm 45)]), od 47 (.app false 41 1 (tm 29) (tm 46)), om 12 47] [kp [2, 3, 10, 11, 12, 13] [10, 47]])) (.reg [om 27 13, od 28 (.bin .add (tm 27) (ki 1)), om 13 28] [kp
 [2, 3, 10, 11, 12, 13] [10, 47]]))) [kp [2, 3, 10, 11, 12, 13] [10, 47]]
def q1I : IC := .loop q5n
abbrev q5o : IC := (.seq (.reg [od 4 (.box true (tm 0)), od 8 (.mv kN), od 9 (.mv kN)] [kp [1, 2, 3, 4] []]) (.seq (.reg [od 14 (fa 2 4), od 15 (ld 1 14), om 16 1, od 17 (ia 3 15 16), od 18 (lG 3 17), od 10 (.alloc false [(.slice none 0 0), (.slice
 none 0 0), (.int .i64 0)]), on (.store 3 (tm 10) (tm 18))] [kp [2, 3, 10] [10]]) (.seq (.reg [om 19 3, od 20 (fa 0 10), od 21 (ld 1 20), od 22 (.call 61 [(tm 19), (tm 21)]), om 11 22] [kp [2, 3, 10, 11] [10]]) (.seq (.reg [od 12
 (.mv kN)] [.nl 12 47 41 1, kp [2, 3, 10, 11, 12] [10, 47]]) (.seq (.seq (.reg [od 13 (.mv (ki 0))] [kp [2, 3, 10, 11, 12, 13] [10, 47]]) (.block 0 q1I)) (.seq (.reg [om 48 2, om 49 11, od 50 (.call 63 [(tm 48), (tm 49)]),
 om 51 12, om 8 50, om 9 51] [kp [8, 9] [47]]) .ret))))))
theorem Sr (h : ∀ K : St → Prop, K = run P Γ q1I Q → run P Γ q5n (An K Q) s) : run P Γ q1I Q s := Af h
def q5p : List RV := [.tmp 8, .tmp 9]
end
end Go.Lg
namespace Go.Lg
open Go Go.Proofs
theorem q7j : Au Tryz.prog 129 q21 49 1 q22 = true := by kernel_rfl
theorem q9X : Au Tryz.prog 132 q4P 25 1 S8 = true := by kernel_rfl
theorem q5q : Au Tryz.prog 131 q2c 15 2 q2d = true := by kernel_rfl
theorem qB0 : Au Tryz.prog 63 q5i 55 2 q5j = true := by kernel_rfl
theorem q9Y : Au Tryz.prog 62 q4T 69 5 q4U = true := by kernel_rfl
theorem q8c : Au Tryz.prog 61 q33 24 2 q34 = true := by kernel_rfl
theorem qB1 : Au Tryz.prog 14 q5l 77 4 q5m = true := by kernel_rfl
theorem qB2 : Au Tryz.prog 17 q5o 52 4 q5p = true := by kernel_rfl
end Go.Lg
namespace Go.Lg
open Go Go.Proofs
variable {Γ : Tables}
theorem qHM {l : List Int} {x : Int} (h : x ∈ l) : ∃ i, i < l.length ∧ l.getD i 0 = x := by
 obtain ⟨i, hi, rfl⟩ := List.getElem_of_mem h
 exact ⟨i, hi, by simp [List.getD_eq_getElem?_getD, hi]⟩
theorem q9q {v : Int} : ∀ x ∈ By v false, x = 0 ∨ x = 1 := by
 rcases Ed v with ⟨e, _⟩ | ⟨e, _⟩ | ⟨e, _⟩ <;> rw [e] <;> simp
theorem q7k (v : Int) : (By v false).length ≤ 2 := by
 rcases Ed v with ⟨e, _⟩ | ⟨e, _⟩ | ⟨e, _⟩ <;> rw [e] <;> simp
theorem qKF {x : Int} (h : x = 0 ∨ x = 1) : IntKind.i64.wrap (x * 2 ^ min 0 IntKind.i64.bits) = x ∧ IntKind.i64.wrap x = x := by
 rcases h with rfl | rfl <;> decide
theorem qIt {Q : AX → St → Prop} (a : Sl Int) (l : List Int) (hl : l.length ≤ 2) (h01 : ∀ x ∈ l, x = 0 ∨ x = 1) (lc : Option Nat) (ln : Option Bool)
  (h0 : Q (.exit 4) ⟨[(0, .t (tV a)), (3, .t (.sl [[tI 0]] (some 1) (some false))), (4, .t (tI 0)), (5, .ls 46 0 l.length none), (6, .t (.sl (Ak l) lc ln)), (7, .t (tI 0)), (8, .t (tI l.length)), (30, .t (tB false))], [(46, .sl 3 1 (Ak l))]⟩) :
  ∀ (k i : Nat), k + i = l.length →
  run Tryz.prog Γ Nu Q ⟨[(0, .t (tV a)), (3, .t (.sl [[tI 0]] (some 1) (some false))), (4, .t (tI 0)), (5, .ls 46 0 i none), (6, .t (.sl (Ak l) lc ln)), (7, .t (tI 0)), (8, .t (tI i))], [(46, .sl 3 1 (Ak (l.take i)))]⟩
 | 0, i, h => by
  refine Wn fun K hK => ?_
  have h2 : i = l.length := by omega
  subst h2
  rw [List.take_length]
  simp [A5]
  simpa using h0
 | k + 1, i, h => by
  refine Wn fun K hK => ?_
  have h2 : i < l.length := by omega
  have ih := qIt a l hl h01 lc ln h0 k (i + 1) (by omega)
  have e1 := gE (f := tI) 0 h2
  have e1' := Jv (f := tI) 0 h2
  have hx := h01 _ (List.getElem_mem h2)
  have ht : l.take (i + 1) = l.take i ++ [l[i]] := by rw [List.take_add_one]; simp [h2]
  rw [ht] at ih
  rw [B5 h2] at e1 e1'
  have htl : (l.take i).length = i := by rw [List.length_take]; omega
  generalize l[i] = x at *
  generalize l.take i = out at *
  obtain ⟨wx1, wx2⟩ := qKF hx
  have vt : (Ak out).take i = Ak out := by rw [← htl]; exact Ar
  have vs : Ak out ++ [[tI x]] = Ak (out ++ [x]) := D2
  have w1 := Bl (i := i) (by omega)
  have hw0 : E2 1 [[tI 0]] := by intro e he; simp at he; subst he; rfl
  simp at wx1 ih
  simp [A5, A8, h2, e1, e1', hw0, wx1, wx2, vt, vs, htl, w1]
  refine ⟨by omega, ?_⟩
  rw [hK]
  simpa using ih
theorem q5r (v : Int) (ac : Option Nat) (an : Option Bool) : Ah Tryz.prog Γ 129 [tV ⟨[v], ac, an⟩] (.sl (Ak (By v false)) none none) := by
 refine B7 q7j rfl ?_
 have e1 := S4 (Γ := Γ) v false
 have h1 := q7k v
 have h2 := q9q (v := v)
 have g := fun Q lc ln h0 => qIt (Γ := Γ) (Q := Q) ⟨[v], ac, an⟩ (By v false) h1 h2 lc ln h0 (By v false).length 0 (by omega)
 have vt : (Ak (By v false)).take (By v false).length = Ak (By v false) := Ar
 generalize By v false = l at *
 have hv1 : Ai [v] = [[tK v]] := rfl
 have hw0 : E2 1 [[tI 0]] := by intro e he; simp at he; subst he; rfl
 have hw1 : E2 1 [[tK v]] := by intro e he; simp at he; subst he; rfl
 have w01 : IntKind.i64.wrap 1 = 1 := by decide
 simp [tV, Cf, hv1] at g
 simp [q21, tV, hv1]
 refine Wq fun K hK => ?_
 simp [hw1]
 refine Ae e1 rfl ?_
 simp
 refine Wp fun K2 hK2 => ?_
 simp
 refine g _ _ _ ?_
 simp [w01]
 rw [hK2]
 refine Wp fun K3 hK3 => ?_
 simp [St.freeze, Bn.closed, Do, frz1, frz0, I8, del, Am, vt, w01]
 rw [hK]
 refine Wq fun K4 hK4 => ?_
 simp [q22]
theorem qL2 {Q : AX → St → Prop} (l : List Int) (lc : Option Nat) (ln : Option Bool) (hl : l.length ≤ 1000000)
  (h0 : (∀ x ∈ l, x = l.getD 0 0) → Q (.exit 0) ⟨[(0, .t (.sl (Ak l) lc ln)), (3, .t (tI l.length)), (7, .t (tB false))], []⟩) (h1 : (∃ x ∈ l, x ≠ l.getD 0 0) → Q .ret ⟨[(2, .t (tK 2))], []⟩) :
  ∀ (k i : Nat), k + i = l.length → (∀ j, j < i → l.getD j 0 = l.getD 0 0) →
  run Tryz.prog Γ S7 Q ⟨[(0, .t (.sl (Ak l) lc ln)), (3, .t (tI i))], []⟩
 | 0, i, h, hp => by
  refine Zx fun K hK => ?_
  have h2 : i = l.length := by omega
  subst h2
  have := h0 fun x hx => by
   obtain ⟨j, hj, e⟩ := qHM hx
   rw [← e]; exact hp j hj
  simp [A5]
  simpa using this
 | k + 1, i, h, hp => by
  refine Zx fun K hK => ?_
  have h2 : i < l.length := by omega
  have h00 : 0 < l.length := by omega
  have e1 := gE (f := tI) 0 h2
  have e1' := Jv (f := tI) 0 h2
  have e0 := gE (f := tI) 0 h00
  have e0' := Jv (f := tI) 0 h00
  have w1 := Bl (i := i) (by omega)
  by_cases hx : l.getD i 0 = l.getD 0 0
  ·have ih := qL2 l lc ln hl h0 h1 k (i + 1) (by omega) (fun j hj => by
    rcases Nat.lt_succ_iff_lt_or_eq.1 hj with hj | rfl
    ·exact hp j hj
    ·exact hx)
   rw [hx] at e1 e1'
   generalize l.getD 0 0 = y at *
   simp [A5, A8, h2, h00, e1, e1', e0, e0', w1]
   rw [hK]
   simpa using ih
  ·have := h1 ⟨l.getD i 0, by rw [B5 h2]; exact List.getElem_mem h2, hx⟩
   generalize l.getD 0 0 = y at *
   generalize l.getD i 0 = x at *
   simp [A5, A8, h2, h00, e1, e1', e0, e0', hx]
   simpa using this
theorem q9D (l : List Int) (lc : Option Nat) (ln : Option Bool) (hl : l.length ≤ 1000000) (h01 : ∀ x ∈ l, x = 0 ∨ x = 1) : A6 Tryz.prog Γ 132 [.sl (Ak l) lc ln] (tK (M5 l)) := by
 refine Aa q9X rfl ?_
 have g := fun Q h0 h1 => qL2 (Γ := Γ) (Q := Q) l lc ln hl h0 h1 l.length 0 (by omega) (by simp)
 generalize hR : M5 l = R
 unfold M5 at hR
 simp [q4P]
 simp at g
 refine g _ (fun hall => ?_) (fun x hx hxe => ?_)
 ·by_cases hn : l = []
  ·rw [if_pos hn] at hR
   subst hR
   simp [hn, Cf, S8]
  ·have hpos : 0 < l.length := List.length_pos_iff.2 hn
   have hne : ¬ (l.length : Int) = 0 := by omega
   have hany : l.any (fun x => decide (x ≠ l.getD 0 0)) = false := by
    rw [List.any_eq_false]
    intro x hx
    simp
    have := hall x hx
    simpa using this
   rw [if_neg hn, if_neg (by rw [hany]; simp)] at hR
   have e0 := gE (f := tI) 0 hpos
   have e0' := Jv (f := tI) 0 hpos
   have hy := h01 (l.getD 0 0) (by rw [B5 hpos]; exact List.getElem_mem hpos)
   rw [hR] at e0 e0' hy
   have w8 : IntKind.u8.wrap R = R := by rw [Bm] <;> omega
   simp [A5, A8, hn, hne, hpos, e0, e0', w8, S8]
 ·have hn : l ≠ [] := fun e => by rw [e] at hx; cases hx
  have hany : l.any (fun x => decide (x ≠ l.getD 0 0)) = true := List.any_eq_true.2 ⟨x, hx, by simpa using hxe⟩
  rw [if_neg hn, if_pos hany] at hR
  subst hR
  simp [S8]
theorem q8d (w : Sl Int) (b : Nat) (hw : w.l.length ≤ 1000000) : ∃ cap nl, Ah Tryz.prog Γ 131 [tV w, tI b] (.sl (Ak (chB w.l b)) cap nl) := by
 by_cases h : b < w.l.length
 ·refine ⟨_, _, B7 q5q rfl (res := .sl (Ak (chB w.l b)) (some (chB w.l b).length) (some false)) ?_⟩
  have e1 := gE (f := tK) 0 h
  have e1' := Jv (f := tK) 0 h
  have hc : chB w.l b = By (w.l.getD b 0) false := by unfold chB; rw [if_pos h]
  rw [hc]
  have hr := S4 (Γ := Γ) (w.l.getD b 0) false
  generalize w.l.getD b 0 = v at *
  have h2 : ¬ (w.l.length : Int) ≤ b := by omega
  have h3 : ¬ w.l.length ≤ b := by omega
  simp [q2c, tV, A5, A8, h, h2, h3, e1, e1']
  refine Ae hr rfl ?_
  simp [q2d]
 ·refine ⟨_, _, B7 q5q rfl (res := .sl (Ak (chB w.l b)) (some 2) (some false)) ?_⟩
  have hc : chB w.l b = [0, 1] := by unfold chB; rw [if_neg h]
  rw [hc]
  have h2 : (w.l.length : Int) ≤ b := by omega
  have h3 : w.l.length ≤ b := by omega
  simp [q2c, tV, A5, h2, h3, q2d, Aj]
theorem qL3 {Q : AX → St → Prop} (nets : Sl Int) (hn : nets.l.length ≤ 1000000) (l : Sl Int) (hl : l.l.length ≤ 1000000) (hin : ∀ k ∈ l.l, 0 ≤ k ∧ k < nets.l.length) (R : List Int)
  (h0 : R.length = l.l.length → Q (.exit 0) ⟨[(0, .t (tV nets)), (1, .t (Av l)), (5, .ls 22 0 l.l.length none), (6, .t (tI l.l.length)), (10, .t (tB false))], [(22, .sl 64 1 (Ai R))]⟩) :
  ∀ (k i : Nat) (out : List Int), k + i = l.l.length → out.length = i → out ++ B8 nets.l (l.l.drop i) = R →
  run Tryz.prog Γ P8 Q ⟨[(0, .t (tV nets)), (1, .t (Av l)), (5, .ls 22 0 i none), (6, .t (tI i))], [(22, .sl 64 1 (Ai out))]⟩
 | 0, i, out, h, ho, hR => by
  refine Xw fun K hK => ?_
  have h2 : i = l.l.length := by omega
  subst h2
  rw [List.drop_length] at hR
  simp only [B8, List.map_nil, List.append_nil] at hR
  subst hR
  have := h0 ho
  simp [Av, tV] at this
  simp [Av, tV, A5]
  simpa using this
 | k + 1, i, out, h, ho, hR => by
  refine Xw fun K hK => ?_
  have h2 : i < l.l.length := by omega
  rw [List.drop_eq_getElem_cons h2] at hR
  simp only [B8, List.map_cons] at hR
  have e1 := gE (f := tI) 0 h2
  have e1' := Jv (f := tI) 0 h2
  obtain ⟨q0, q1⟩ := hin _ (List.getElem_mem h2)
  rw [B5 h2] at e1 e1'
  generalize l.l[i] = q at *
  have h3 : q.toNat < nets.l.length := by omega
  have e2 := gE (f := tK) 0 h3
  have e2' := Jv (f := tK) 0 h3
  have ih := qL3 nets hn l hl hin R h0 k (i + 1) (out ++ [nets.l.getD q.toNat 0]) (by omega) (by simp [ho]) (by rw [← hR]; simp [B8])
  generalize nets.l.getD q.toNat 0 = v at *
  have vs := Ha (l := out) (v := v)
  have vt : (Ai out).take i = Ai out := by rw [← ho]; exact Bh
  have w1 := Bl (i := i) (by omega)
  simp [Av, tV] at ih
  simp [Av, tV, A5, A8, h2, e1, e1', q0, q1, h3, e2, e2', vt, vs, ho, w1]
  refine ⟨by omega, ?_⟩
  rw [hK]
  simpa using ih
theorem q7l (nets : Sl Int) (hn : nets.l.length ≤ 1000000) (l : Sl Int) (hl : l.l.length ≤ 1000000) (hin : ∀ k ∈ l.l, 0 ≤ k ∧ k < nets.l.length) :
  A6 Tryz.prog Γ 61 [tV nets, Av l] (tV ⟨B8 nets.l l.l, none, none⟩) := by
 refine Aa q8c rfl ?_
 have g := fun Q h0 => qL3 (Γ := Γ) (Q := Q) nets hn l hl hin (B8 nets.l l.l) h0 l.l.length 0 [] (by omega) rfl (by simp)
 generalize B8 nets.l l.l = R at *
 simp [Av, tV, Cf] at g
 simp [q33, Av, tV]
 refine g _ fun hR => ?_
 have vt : (Ai R).take l.l.length = Ai R := by rw [← hR]; exact Bh
 simp [q34, Am, vt]
theorem q2e {α β : Type} (f : α → List β) {l : List α} {i : Nat} (h : i < l.length) : (l.take (i + 1)).flatMap f = (l.take i).flatMap f ++ f l[i] := by
 have : l.take (i + 1) = l.take i ++ [l[i]] := by rw [List.take_add_one]; simp [h]
 rw [this, List.flatMap_append, List.flatMap_singleton]
theorem qB3 {w : List Int} {b : Nat} : (chB w b).length ≤ 2 := by
 unfold chB
 split
 ·exact q7k _
 ·simp
theorem q4V {ws : List (List Int)} {b : Nat} : ∀ {all : List Int}, (Bq ws all b).length ≤ 2 * all.length
 | [] => by simp [Bq]
 | x :: all => by
  have ih := q4V (ws := ws) (b := b) (all := all)
  unfold Bq at ih ⊢
  rw [List.flatMap_cons, List.length_append, List.length_cons]
  split
  ·have := qB3 (w := ws.getD x.toNat []) (b := b); omega
  ·simp only [List.length_nil]; omega
theorem qL4 {Q : AX → St → Prop} (words : Sl (Sl Int)) (hl : words.l.length = 2) (hw : ∀ w ∈ words.l, w.l.length ≤ 1000) (all : List Int) (ha : all.length ≤ 2) (h01 : ∀ x ∈ all, x = 0 ∨ x = 1) (ac : Option Nat) (an : Option Bool) (n b : Nat) (hb : b ≤ 1000) (out : List Int)
  (h0 : Q (.exit 2) ⟨[(0, .t (tW words)), (5, .ls 53 0 b none), (6, .t (.sl (Ak all) ac an)), (7, .t (tI b)), (8, .ls 48 0 (Bq (words.l.map (·.l)) all b).length none), (9, .t (tI all.length)), (28, .t (tB false))], [(48, .sl 3 1 (Ak (Bq (words.l.map (·.l)) all b))), (53, .sl 64 1 (Ai out))]⟩) :
  ∀ (k i : Nat), k + i = all.length →
  run Tryz.prog Γ Vl Q ⟨[(0, .t (tW words)), (5, .ls 53 0 b none), (6, .t (.sl (Ak all) ac an)), (7, .t (tI b)), (8, .ls 48 0 (Bq (words.l.map (·.l)) (all.take i) b).length none), (9, .t (tI i))], [(48, .sl 3 1 (Ak (Bq (words.l.map (·.l)) (all.take i) b))), (53, .sl 64 1 (Ai out))]⟩
 | 0, i, h => by
  refine q0q fun K hK => ?_
  have h2 : i = all.length := by omega
  subst h2
  rw [List.take_length]
  simp [A5]
  simpa using h0
 | k + 1, i, h => by
  refine q0q fun K hK => ?_
  have h2 : i < all.length := by omega
  have ih := qL4 words hl hw all ha h01 ac an n b hb out h0 k (i + 1) (by omega)
  have e1 := gE (f := tI) 0 h2
  have e1' := Jv (f := tI) 0 h2
  have hx := h01 _ (List.getElem_mem h2)
  have hfs : Bq (words.l.map (·.l)) (all.take (i + 1)) b = Bq (words.l.map (·.l)) (all.take i) b ++ chB ((words.l.map (·.l)).getD (all[i]).toNat []) b := by
   unfold Bq
   rw [q2e _ h2, if_pos (by rw [List.length_map, hl]; omega)]
  rw [B5 h2] at e1 e1'
  have hlen : (Bq (words.l.map (·.l)) (all.take i) b).length ≤ 4 := by
   have := q4V (ws := words.l.map (·.l)) (b := b) (all := all.take i)
   rw [List.length_take] at this
   omega
  rw [hfs] at ih
  generalize all[i] = x at *
  have hx2 : x.toNat < words.l.length := by omega
  have e2 := gE (f := tV) Sl.z hx2
  have e2' := Jv (f := tV) Sl.z hx2
  have hgw : (words.l.map (·.l)).getD x.toNat [] = (words.l.getD x.toNat Sl.z).l := by simp [List.getD_eq_getElem?_getD, hx2]
  rw [hgw] at ih
  have hwx := hw _ (Ns (d := Sl.z) hx2)
  generalize words.l.getD x.toNat Sl.z = w at *
  obtain ⟨cc, cn, hbit⟩ := q8d (Γ := Γ) w b (by omega)
  have hcl := qB3 (w := w.l) (b := b)
  generalize Bq (words.l.map (·.l)) (all.take i) b = acc at *
  generalize chB w.l b = ch at *
  have vt : (Ak acc).take acc.length = Ak acc := Ar
  have va : Ak acc ++ Ak ch = Ak (acc ++ ch) := q6w
  have w1 := Bl (i := i) (by omega)
  have x0 : 0 ≤ x := by omega
  have x1 : x < words.l.length := by omega
  have x2 : x < 2 := by omega
  have x3 : x.toNat < 2 := by omega
  simp [tW] at ih
  simp only [tV] at hbit e2 e2'
  simp [tW, A5, A8, h2, e1, e1', hl, x0, x1, x2, x3, hx2, e2, e2']
  refine Ae hbit rfl ?_
  simp [A5, A8, vt, va, w1]
  refine ⟨by omega, ?_⟩
  rw [hK]
  simpa using ih
theorem qMD {Q : AX → St → Prop} (words : Sl (Sl Int)) (hl : words.l.length = 2) (hw : ∀ w ∈ words.l, w.l.length ≤ 1000) (all : List Int) (ha : all.length ≤ 2) (h01 : ∀ x ∈ all, x = 0 ∨ x = 1) (ac : Option Nat) (an : Option Bool) (n : Nat) (hn : (words.l.getD 0 Sl.z).l.length = n) (R : List Int)
  (h0 : R.length = n → Q (.exit 0) ⟨[(0, .t (tW words)), (5, .ls 53 0 n none), (6, .t (.sl (Ak all) ac an)), (7, .t (tI n)), (22, .t (tB false))], [(53, .sl 64 1 (Ai R))]⟩) :
  ∀ (k b : Nat) (out : List Int), k + b = n → out.length = b → out ++ (List.range' b k).map (fun b => M5 (Bq (words.l.map (·.l)) all b)) = R →
  run Tryz.prog Γ Vm Q ⟨[(0, .t (tW words)), (5, .ls 53 0 b none), (6, .t (.sl (Ak all) ac an)), (7, .t (tI b))], [(53, .sl 64 1 (Ai out))]⟩ := by
 have h00 : 0 < words.l.length := by omega
 have e0 := gE (f := tV) Sl.z h00
 have e0' := Jv (f := tV) Sl.z h00
 have hn1 : n ≤ 1000 := by rw [← hn]; exact hw _ (Ns h00)
 generalize words.l.getD 0 Sl.z = w0 at *
 intro k
 induction k with
 | zero =>
  intro b out h ho hR
  refine q0r fun K hK => ?_
  have h2 : b = n := by omega
  subst h2
  simp only [List.range'_zero, List.map_nil, List.append_nil] at hR
  subst hR
  have := h0 ho
  simp only [tV] at e0 e0'
  simp [tW] at this
  simp [tW, A5, A8, hl, e0, e0', hn]
  simpa using this
 | succ k ih =>
  intro b out h ho hR
  refine q0r fun K hK => ?_
  have h2 : b < n := by omega
  rw [List.range'_succ, List.map_cons] at hR
  have ih := ih (b + 1) (out ++ [M5 (Bq (words.l.map (·.l)) all b)]) (by omega) (by simp [ho]) (by rw [← hR]; simp)
  have g := fun Q h0 => qL4 (Γ := Γ) (Q := Q) words hl hw all ha h01 ac an n b (by omega) out h0 all.length 0 (by omega)
  have hz : Bq (words.l.map (·.l)) (all.take 0) b = [] := rfl
  rw [hz] at g
  have hle := q4V (ws := words.l.map (·.l)) (b := b) (all := all)
  have hin : ∀ x ∈ Bq (words.l.map (·.l)) all b, x = 0 ∨ x = 1 := by
   intro x hx
   obtain ⟨i, _, hx⟩ := List.mem_flatMap.1 hx
   split at hx
   ·unfold chB at hx
    split at hx
    ·exact q9q x hx
    ·simpa using hx
   ·cases hx
  have hv := q9D (Γ := Γ) (Bq (words.l.map (·.l)) all b) none none (by omega) hin
  have vti : (Ak (Bq (words.l.map (·.l)) all b)).take (Bq (words.l.map (·.l)) all b).length = Ak (Bq (words.l.map (·.l)) all b) := Ar
  generalize Bq (words.l.map (·.l)) all b = acc at *
  have vs := Ha (l := out) (v := M5 acc)
  have vt : (Ai out).take b = Ai out := by rw [← ho]; exact Bh
  generalize M5 acc = x at *
  have w1 := Bl (i := b) (by omega)
  have h2i : (b : Int) < n := by omega
  simp only [tV] at e0 e0'
  simp [tW, Cf] at g ih
  simp [tW, A5, A8, hl, e0, e0', hn, h2]
  refine g _ ?_
  simp
  refine A4 hv (by simp [Am, vti, As]) ?_
  simp [vt, vs, ho, A5, A8, w1]
  refine ⟨by omega, ?_⟩
  rw [hK]
  simpa using ih
theorem qCx (words : Sl (Sl Int)) (hl : words.l.length = 2) (hw : ∀ w ∈ words.l, w.l.length ≤ 1000) (v : Int) (ac : Option Nat) (an : Option Bool) :
  Ah Tryz.prog Γ 63 [tW words, tV ⟨[v], ac, an⟩] (.sl (Ai ((List.range' 0 (words.l.getD 0 Sl.z).l.length).map fun b => M5 (Bq (words.l.map (·.l)) (By v false) b))) none none) := by
 refine B7 qB0 rfl ?_
 have e1 := q5r (Γ := Γ) v ac an
 have g := fun Q R hR h0 => qMD (Γ := Γ) (Q := Q) words hl hw (By v false) (q7k v) q9q none none (words.l.getD 0 Sl.z).l.length rfl R h0 (words.l.getD 0 Sl.z).l.length 0 [] (by omega) rfl hR
 have g := fun Q h0 => g Q _ (List.nil_append _) h0
 generalize ((List.range' 0 (words.l.getD 0 Sl.z).l.length).map fun b => M5 (Bq (words.l.map (·.l)) (By v false) b)) = R at *
 generalize (words.l.getD 0 Sl.z).l.length = n at *
 simp [tW, tV, Cf] at g e1
 simp [q5i, tW, tV]
 refine Ae e1 rfl ?_
 simp
 refine g _ fun hR => ?_
 have vt : (Ai R).take n = Ai R := by rw [← hR]; exact Bh
 simp [q5j, Am, vt]
def q4W (w data : List Int) (at' : Int) (b : Nat) (i k : Int) : List Int := if k = 1 ∧ i = at' then chB data b else chB w b
theorem qCy {w data : List Int} {at' : Int} {b : Nat} {i k : Int} : (q4W w data at' b i k).length ≤ 2 := by
 unfold q4W
 split <;> exact qB3
def rsE (w data : Sl Int) (at' : Int) (all en : List Int) (ac ec : Option Nat) (an en' : Option Bool) (b : Nat) : List (Nat × AV) :=
 [(0, .t (tV w)), (1, .t (tI at')), (3, .t (tV data)), (11, .ls 67 0 b none), (12, .t (.sl (Ak all) ac an)), (13, .t (.sl (Ak en) ec en')), (14, .t (tI b))]
theorem qCI {α : Type} {f : α → List Int} {m : Nat} (hf : ∀ x, (f x).length ≤ m) : ∀ l : List α, (l.flatMap f).length ≤ m * l.length
 | [] => by simp
 | x :: l => by
  have := qCI hf l
  have := hf x
  rw [List.flatMap_cons, List.length_append, List.length_cons, Nat.mul_succ]
  omega
theorem qL5 {Q : AX → St → Prop} (w data : Sl Int) (hw : w.l.length ≤ 1000) (hd : data.l.length ≤ 1000) (at' : Int) (all en : List Int) (ha : all.length ≤ 2) (he : en.length ≤ 2) (ac ec : Option Nat) (an en' : Option Bool) (b : Nat) (hb : b ≤ 1000) (out : List Int) (i : Nat) (hi : i < all.length) (pre : List Int) (hpre : pre.length ≤ 100) (R : List Int) (hR : pre ++ en.flatMap (q4W w.l data.l at' b (all.getD i 0)) = R)
  (h0 : Q (.exit 4) ⟨rsE w data at' all en ac ec an en' b ++ [(15, .ls 57 0 R.length none), (16, .t (tI i)), (17, .t (tI en.length)), (37, .t (tB false))], [(57, .sl 3 1 (Ak R)), (67, .sl 64 1 (Ai out))]⟩) :
  ∀ (k j : Nat) (acc : List Int), k + j = en.length → acc = pre ++ (en.take j).flatMap (q4W w.l data.l at' b (all.getD i 0)) →
  run Tryz.prog Γ S9 Q ⟨rsE w data at' all en ac ec an en' b ++ [(15, .ls 57 0 acc.length none), (16, .t (tI i)), (17, .t (tI j))], [(57, .sl 3 1 (Ak acc)), (67, .sl 64 1 (Ai out))]⟩
 | 0, j, acc, h, hacc => by
  refine Zy fun K hK => ?_
  have h2 : j = en.length := by omega
  subst h2
  rw [List.take_length, hR] at hacc
  subst hacc
  simp [rsE, tV] at h0
  simp [rsE, tV, A5]
  simpa using h0
 | k + 1, j, acc, h, hacc => by
  refine Zy fun K hK => ?_
  have h2 : j < en.length := by omega
  have ih := qL5 w data hw hd at' all en ha he ac ec an en' b hb out i hi pre hpre R hR h0 k (j + 1) (acc ++ q4W w.l data.l at' b (all.getD i 0) en[j]) (by omega) (by rw [q2e _ h2, hacc, List.append_assoc])
  have e1 := gE (f := tI) 0 h2
  have e1' := Jv (f := tI) 0 h2
  have e2 := gE (f := tI) 0 hi
  have e2' := Jv (f := tI) 0 hi
  have hal : acc.length ≤ 104 := by
   have := qCI (f := q4W w.l data.l at' b (all.getD i 0)) (m := 2) (fun x => qCy) (en.take j)
   rw [List.length_take] at this
   rw [hacc, List.length_append]
   omega
  rw [B5 h2] at e1 e1'
  generalize en[j] = x at *
  generalize all.getD i 0 = y at *
  clear hR hacc h0
  obtain ⟨c1, n1, hb1⟩ := q8d (Γ := Γ) data b (by omega)
  obtain ⟨c2, n2, hb2⟩ := q8d (Γ := Γ) w b (by omega)
  have l1 := qB3 (w := data.l) (b := b)
  have l2 := qB3 (w := w.l) (b := b)
  have hsf : q4W w.l data.l at' b y x = if x = 1 ∧ y = at' then chB data.l b else chB w.l b := rfl
  rw [hsf] at ih
  generalize chB data.l b = cd at *
  generalize chB w.l b = cw at *
  have vt : (Ak acc).take acc.length = Ak acc := Ar
  have va : Ak acc ++ Ak cd = Ak (acc ++ cd) := q6w
  have vb : Ak acc ++ Ak cw = Ak (acc ++ cw) := q6w
  have w1 := Bl (i := j) (by omega)
  simp only [tV] at hb1 hb2
  by_cases hx : x = 1
  ·by_cases hy : y = at'
   ·rw [if_pos ⟨hx, hy⟩] at ih
    simp [rsE, tV] at ih
    simp [rsE, tV, A5, A8, h2, hi, e1, e1', e2, e2', hx, hy]
    refine Ae hb1 rfl ?_
    simp [A5, A8, vt, va, w1]
    refine ⟨by omega, ?_⟩
    rw [hK]
    simpa using ih
   ·rw [if_neg (fun h => hy h.2)] at ih
    simp [rsE, tV] at ih
    simp [rsE, tV, A5, A8, h2, hi, e1, e1', e2, e2', hx, hy]
    refine Ae hb2 rfl ?_
    simp [A5, A8, vt, vb, w1]
    refine ⟨by omega, ?_⟩
    rw [hK]
    simpa using ih
  ·rw [if_neg (fun h => hx h.1)] at ih
   simp [rsE, tV] at ih
   simp [rsE, tV, A5, A8, h2, hi, e1, e1', e2, e2', hx]
   refine Ae hb2 rfl ?_
   simp [A5, A8, vt, vb, w1]
   refine ⟨by omega, ?_⟩
   rw [hK]
   simpa using ih
theorem qIu {Q : AX → St → Prop} (w data : Sl Int) (hw : w.l.length ≤ 1000) (hd : data.l.length ≤ 1000) (at' : Int) (all en : List Int) (ha : all.length ≤ 2) (he : en.length ≤ 2) (ac ec : Option Nat) (an en' : Option Bool) (b : Nat) (hb : b ≤ 1000) (out : List Int) (R : List Int) (hR : Dc w.l at' all en data.l b = R)
  (h0 : Q (.exit 2) ⟨rsE w data at' all en ac ec an en' b ++ [(15, .ls 57 0 R.length none), (16, .t (tI all.length)), (31, .t (tB false))], [(57, .sl 3 1 (Ak R)), (67, .sl 64 1 (Ai out))]⟩) :
  ∀ (k i : Nat) (acc : List Int), k + i = all.length → acc = Dc w.l at' (all.take i) en data.l b →
  run Tryz.prog Γ Si Q ⟨rsE w data at' all en ac ec an en' b ++ [(15, .ls 57 0 acc.length none), (16, .t (tI i))], [(57, .sl 3 1 (Ak acc)), (67, .sl 64 1 (Ai out))]⟩
 | 0, i, acc, h, hacc => by
  refine Zz fun K hK => ?_
  have h2 : i = all.length := by omega
  subst h2
  rw [List.take_length, hR] at hacc
  subst hacc
  simp [rsE, tV] at h0
  simp [rsE, tV, A5]
  simpa using h0
 | k + 1, i, acc, h, hacc => by
  refine Zz fun K hK => ?_
  have h2 : i < all.length := by omega
  have hsn : Dc w.l at' (all.take (i + 1)) en data.l b = acc ++ en.flatMap (q4W w.l data.l at' b (all.getD i 0)) := by
   rw [hacc, B5 h2]
   unfold Dc
   rw [q2e _ h2]
   rfl
  have hal : acc.length ≤ 8 := by
   have h4 : ∀ x, (en.flatMap (q4W w.l data.l at' b x)).length ≤ 4 := fun x => by
    have := qCI (f := q4W w.l data.l at' b x) (m := 2) (fun y => qCy) en
    omega
   have := qCI (f := fun x => en.flatMap (q4W w.l data.l at' b x)) (m := 4) h4 (all.take i)
   rw [List.length_take] at this
   rw [hacc]
   show ((all.take i).flatMap fun x => en.flatMap (q4W w.l data.l at' b x)).length ≤ 8
   omega
  have ih := qIu w data hw hd at' all en ha he ac ec an en' b hb out R hR h0 k (i + 1) _ (by omega) rfl
  rw [hsn] at ih
  have g := fun Q h0 => qL5 (Γ := Γ) (Q := Q) w data hw hd at' all en ha he ac ec an en' b hb out i h2 acc (by omega) _ rfl h0 en.length 0 acc (by omega) (by simp)
  generalize acc ++ en.flatMap (q4W w.l data.l at' b (all.getD i 0)) = acc2 at *
  have w1 := Bl (i := i) (by omega)
  simp [rsE, tV] at ih g
  simp [rsE, tV, A5, h2]
  refine g _ ?_
  simp [w1]
  rw [hK]
  simpa using ih
theorem qIv {Q : AX → St → Prop} (w data : Sl Int) (hw : w.l.length ≤ 1000) (hd : data.l.length ≤ 1000) (at' : Int) (all en : List Int) (ha : all.length ≤ 2) (he : en.length ≤ 2) (ac ec : Option Nat) (an en' : Option Bool) (R : List Int)
  (h0 : R.length = w.l.length → Q (.exit 0) ⟨rsE w data at' all en ac ec an en' w.l.length ++ [(25, .t (tB false))], [(67, .sl 64 1 (Ai R))]⟩) :
  ∀ (k b : Nat) (out : List Int), k + b = w.l.length → out.length = b → out ++ (List.range' b k).map (fun b => M5 (Dc w.l at' all en data.l b)) = R →
  run Tryz.prog Γ Sj Q ⟨rsE w data at' all en ac ec an en' b, [(67, .sl 64 1 (Ai out))]⟩
 | 0, b, out, h, ho, hR => by
  refine q00 fun K hK => ?_
  have h2 : b = w.l.length := by omega
  subst h2
  simp only [List.range'_zero, List.map_nil, List.append_nil] at hR
  subst hR
  have := h0 ho
  simp [rsE, tV] at this
  simp [rsE, tV, A5]
  simpa using this
 | k + 1, b, out, h, ho, hR => by
  refine q00 fun K hK => ?_
  have h2 : b < w.l.length := by omega
  rw [List.range'_succ, List.map_cons] at hR
  have ih := qIv w data hw hd at' all en ha he ac ec an en' R h0 k (b + 1) (out ++ [M5 (Dc w.l at' all en data.l b)]) (by omega) (by simp [ho]) (by rw [← hR]; simp)
  have g := fun Q h0 => qIu (Γ := Γ) (Q := Q) w data hw hd at' all en ha he ac ec an en' b (by omega) out _ rfl h0 all.length 0 [] (by omega) (by simp [Dc])
  have hle : (Dc w.l at' all en data.l b).length ≤ 1000 := by
   have h4 : ∀ x, (en.flatMap (q4W w.l data.l at' b x)).length ≤ 4 := fun x => by
    have := qCI (f := q4W w.l data.l at' b x) (m := 2) (fun y => qCy) en
    omega
   have := qCI (f := fun x => en.flatMap (q4W w.l data.l at' b x)) (m := 4) h4 all
   show (all.flatMap fun x => en.flatMap (q4W w.l data.l at' b x)).length ≤ 1000
   omega
  have hin : ∀ x ∈ Dc w.l at' all en data.l b, x = 0 ∨ x = 1 := by
   intro x hx
   obtain ⟨i, _, hx⟩ := List.mem_flatMap.1 hx
   obtain ⟨j, _, hx⟩ := List.mem_flatMap.1 hx
   have key : ∀ l : List Int, x ∈ chB l b → x = 0 ∨ x = 1 := fun l hx => by
    unfold chB at hx
    split at hx
    ·exact q9q x hx
    ·simpa using hx
   split at hx
   ·exact key _ hx
   ·exact key _ hx
  have hv := q9D (Γ := Γ) (Dc w.l at' all en data.l b) none none (by omega) hin
  have vti : (Ak (Dc w.l at' all en data.l b)).take (Dc w.l at' all en data.l b).length = Ak (Dc w.l at' all en data.l b) := Ar
  generalize Dc w.l at' all en data.l b = acc at *
  have vs := Ha (l := out) (v := M5 acc)
  have vt : (Ai out).take b = Ai out := by rw [← ho]; exact Bh
  generalize M5 acc = x at *
  have w1 := Bl (i := b) (by omega)
  simp [rsE, tV, Cf] at g ih
  simp [rsE, tV, A5, h2]
  refine g _ ?_
  simp
  refine A4 hv (by simp [Am, vti, As]) ?_
  simp [vt, vs, ho, A5, A8, w1]
  refine ⟨by omega, ?_⟩
  rw [hK]
  simpa using ih
theorem q5s (w : Sl Int) (hw : w.l.length ≤ 1000) (at' : Int) (v : Int) (ac : Option Nat) (an : Option Bool) (data : Sl Int) (hd : data.l.length ≤ 1000) (en : Int) :
  Ah Tryz.prog Γ 62 [tV w, tI at', tV ⟨[v], ac, an⟩, tV data, tK en] (.sl (Ai ((List.range' 0 w.l.length).map fun b => M5 (Dc w.l at' (By v false) (By en false) data.l b))) none none) := by
 refine B7 q9Y rfl ?_
 have e1 := q5r (Γ := Γ) v ac an
 have e2 := S4 (Γ := Γ) en false
 have g := fun Q ec en' R hR h0 => qIv (Γ := Γ) (Q := Q) w data hw hd at' (By v false) (By en false) (q7k v) (q7k en) none ec none en' R h0 w.l.length 0 [] (by omega) rfl hR
 have g := fun Q ec en' h0 => g Q ec en' _ (List.nil_append _) h0
 generalize ((List.range' 0 w.l.length).map fun b => M5 (Dc w.l at' (By v false) (By en false) data.l b)) = R at *
 simp [rsE, tV, Cf] at g e1
 simp [q4T, tV]
 refine Ae e1 rfl ?_
 simp
 refine Ae e2 rfl ?_
 simp
 refine g _ _ _ fun hR => ?_
 have vt : (Ai R).take w.l.length = Ai R := by rw [← hR]; exact Bh
 simp [q4U, Am, vt]
end Go.Lg
namespace Go.Lg
open Go
section
variable {P : Program} {Γ : Tables} {Q : AX → St → Prop} {s : St}
/- probecard/memories.alike (function 65) -/
abbrev q0t : IC := (.seq (.reg [od 3 (.box true (tm 0)), od 4 (.box true (tm 1)), od 5 (.box true (tm 2)), od 6 (.mv kF)] [kp [3, 4, 5] []]) (.seq (.reg [od 9 (.mkf 134 [(tm 5)]), od 7 (.alloc false [.nilFunc]), on (.store 1 (tm 7) (tm 9))] [kp [3,
 4, 7] [7]]) (.seq (.reg [od 10 (.mkf 136 [(tm 7)]), om 8 10] [kp [3, 4, 7, 8] [7]]) (.seq (.reg [od 11 (ld 1 7), od 12 (fa 0 3), od 13 (ld 1 12), od 14 (fa 0 4), od 15 (ld 1 14), od 16 (.callv (tm 11) [(tm 13), (tm 15)]), om 17 16,
 oT 18 (.mv (tm 8)) 17, oT 19 (fa 2 3) 17, oT 20 (ld 1 19) 17, oT 21 (fa 2 4) 17, oT 22 (ld 1 21) 17, oT 23 (.callv (tm 18) [(tm 20), (tm 22)]) 17, od 24 (.pick (tm 17) (tm 23) kF), om 25 24, oT 26 (fa 1 3) 25, oT 27 (ld 1 26) 25,
 oT 28 (fa 1 4) 25, oT 29 (ld 1 28) 25, oT 30 (.mv (tm 8)) 25, oT 31 (.call 138 [(tm 27), (tm 29), (tm 30)]) 25, od 32 (.pick (tm 25) (tm 31) kF), om 6 32] [kp [6] []]) .ret))))
def q0u : List RV := [.tmp 6]
/- probecard/memories.alike$1 (function 134) -/
abbrev Xx : IC := (.seq (.reg [od 5 (.mv kF)] [kp [0, 1, 2] []]) (.seq (.reg [om 6 0, om 7 1, od 8 (ld 1 2), od 9 (.call 135 [(tm 6), (tm 7), (tm 8)]), om 5 9] [kp [5] []]) .ret))
def Xy : List RV := [.tmp 5]
/- probecard/memories.alike$2 (function 136) -/
abbrev Xz : IC := (.seq (.reg [od 5 (.mv kF)] [kp [0, 1, 2] []]) (.seq (.reg [om 6 0, om 7 1, od 8 (ld 1 2), od 9 (.call 137 [(tm 6), (tm 7), (tm 8)]), om 5 9] [kp [5] []]) .ret))
def Y0 : List RV := [.tmp 5]
/- probecard/memories.Below (function 23) -/
abbrev q23 : IC := (.seq (.reg [od 2 (.box true (tm 0)), od 3 (.box true (tm 1)), od 4 (.mv kF)] [kp [2, 3] []]) (.seq (.reg [od 5 (lG 3 2), od 6 (lG 3 3), od 7 (.call 65 [(tm 5), (tm 6), (.func 66)]), om 4 7] [kp [4] []]) .ret))
def q24 : List RV := [.tmp 4]
/- probecard/memories.Same$1 (function 66) -/
abbrev q01 : IC := (.seq (.reg [od 4 (.mv kF)] [kp [0, 1] []]) (.seq (.reg [om 5 0, om 6 1, od 7 (.bin .eql (tm 5) (tm 6)), om 4 7] [kp [4] []]) .ret))
def q02 : List RV := [.tmp 4]
/- slices.EqualFunc[[]probecard/api.Value,[]probecard/api.Value,probecard/api.Value,probecard/api.Value] (function 135) -/
abbrev Ix : IC := .gh (.seq (.reg [od 18 (.bin .lss (tm 17) (tm 16))] [kp [1, 2, 15, 16, 17, 18] []]) (.seq (.cond (tm 18) .skip (.exit 0)) (.seq (.block 1 (.seq (.reg [om 19 17, od 20 (ia 1 15 17), od 21 (ld 1 20), om 7 19, om 8 21] [kp [1, 2, 7,
 8, 15, 16, 17] []]) (.seq (.reg [om 22 1, om 23 7, od 24 (ia 1 22 23), od 25 (ld 1 24), om 9 25] [kp [1, 2, 8, 9, 15, 16, 17] []]) (.seq (.reg [om 26 2, om 27 8, om 28 9, od 29 (.callv (tm 26) [(tm 27), (tm 28)]), od 30 (.un .not
 (tm 29))] [kp [1, 2, 15, 16, 17, 30] []]) (.cond (tm 30) (.seq (.reg [od 6 (.mv kF)] [kp [6] []]) .ret) .skip))))) (.reg [od 31 (.bin .add (tm 17) (ki 1)), om 17 31] [kp [1, 2, 15, 16, 17] []])))) [kp [1, 2, 15, 16, 17] []]
def Dm : IC := .loop Ix
abbrev Iy : IC := (.seq (.reg [od 6 (.mv kF)] [kp [0, 1, 2] []]) (.seq (.seq (.reg [om 10 0, od 11 (le 0 10), om 12 1, od 13 (le 0 12), od 14 (.bin .neq (tm 11) (tm 13))] [kp [0, 1, 2, 14] []]) (.cond (tm 14) (.seq (.reg [od 6 (.mv kF)] [kp [6] []])
 .ret) .skip)) (.seq (.seq (.reg [om 15 0, od 16 (le 0 15), od 17 (.mv (ki 0))] [kp [1, 2, 15, 16, 17] []]) (.block 0 Dm)) (.seq (.reg [od 6 (.mv kT)] [kp [6] []]) .ret))))
theorem H3 (h : ∀ K : St → Prop, K = run P Γ Dm Q → run P Γ Ix (An K Q) s) : run P Γ Dm Q s := Af h
def Iz : List RV := [.tmp 6]
/- slices.EqualFunc[[][]probecard/api.Value,[][]probecard/api.Value,[]probecard/api.Value,[]probecard/api.Value] (function 137) -/
abbrev Ij : IC := .gh (.seq (.reg [od 18 (.bin .lss (tm 17) (tm 16))] [kp [1, 2, 15, 16, 17, 18] []]) (.seq (.cond (tm 18) .skip (.exit 0)) (.seq (.block 1 (.seq (.reg [om 19 17, od 20 (ia 1 15 17), od 21 (ld 1 20), om 7 19, om 8 21] [kp [1, 2, 7,
 8, 15, 16, 17] []]) (.seq (.reg [om 22 1, om 23 7, od 24 (ia 1 22 23), od 25 (ld 1 24), om 9 25] [kp [1, 2, 8, 9, 15, 16, 17] []]) (.seq (.reg [om 26 2, om 27 8, om 28 9, od 29 (.callv (tm 26) [(tm 27), (tm 28)]), od 30 (.un .not
 (tm 29))] [kp [1, 2, 15, 16, 17, 30] []]) (.cond (tm 30) (.seq (.reg [od 6 (.mv kF)] [kp [6] []]) .ret) .skip))))) (.reg [od 31 (.bin .add (tm 17) (ki 1)), om 17 31] [kp [1, 2, 15, 16, 17] []])))) [kp [1, 2, 15, 16, 17] []]
def Df : IC := .loop Ij
abbrev Ik : IC := (.seq (.reg [od 6 (.mv kF)] [kp [0, 1, 2] []]) (.seq (.seq (.reg [om 10 0, od 11 (le 0 10), om 12 1, od 13 (le 0 12), od 14 (.bin .neq (tm 11) (tm 13))] [kp [0, 1, 2, 14] []]) (.cond (tm 14) (.seq (.reg [od 6 (.mv kF)] [kp [6] []])
 .ret) .skip)) (.seq (.seq (.reg [om 15 0, od 16 (le 0 15), od 17 (.mv (ki 0))] [kp [1, 2, 15, 16, 17] []]) (.block 0 Df)) (.seq (.reg [od 6 (.mv kT)] [kp [6] []]) .ret))))
theorem Gu (h : ∀ K : St → Prop, K = run P Γ Df Q → run P Γ Ij (An K Q) s) : run P Γ Df Q s := Af h
def Il : List RV := [.tmp 6]
/- slices.EqualFunc[[][][]probecard/api.Value,[][][]probecard/api.Value,[][]probecard/api.Value,[][]probecard/api.Value] (function 138) -/
abbrev Hy : IC := .gh (.seq (.reg [od 18 (.bin .lss (tm 17) (tm 16))] [kp [1, 2, 15, 16, 17, 18] []]) (.seq (.cond (tm 18) .skip (.exit 0)) (.seq (.block 1 (.seq (.reg [om 19 17, od 20 (ia 1 15 17), od 21 (ld 1 20), om 7 19, om 8 21] [kp [1, 2, 7,
 8, 15, 16, 17] []]) (.seq (.reg [om 22 1, om 23 7, od 24 (ia 1 22 23), od 25 (ld 1 24), om 9 25] [kp [1, 2, 8, 9, 15, 16, 17] []]) (.seq (.reg [om 26 2, om 27 8, om 28 9, od 29 (.callv (tm 26) [(tm 27), (tm 28)]), od 30 (.un .not
 (tm 29))] [kp [1, 2, 15, 16, 17, 30] []]) (.cond (tm 30) (.seq (.reg [od 6 (.mv kF)] [kp [6] []]) .ret) .skip))))) (.reg [od 31 (.bin .add (tm 17) (ki 1)), om 17 31] [kp [1, 2, 15, 16, 17] []])))) [kp [1, 2, 15, 16, 17] []]
def D5 : IC := .loop Hy
abbrev Hz : IC := (.seq (.reg [od 6 (.mv kF)] [kp [0, 1, 2] []]) (.seq (.seq (.reg [om 10 0, od 11 (le 0 10), om 12 1, od 13 (le 0 12), od 14 (.bin .neq (tm 11) (tm 13))] [kp [0, 1, 2, 14] []]) (.cond (tm 14) (.seq (.reg [od 6 (.mv kF)] [kp [6] []])
 .ret) .skip)) (.seq (.seq (.reg [om 15 0, od 16 (le 0 15), od 17 (.mv (ki 0))] [kp [1, 2, 15, 16, 17] []]) (.block 0 D5)) (.seq (.reg [od 6 (.mv kT)] [kp [6] []]) .ret))))
theorem G6 (h : ∀ K : St → Prop, K = run P Γ D5 Q → run P Γ Hy (An K Q) s) : run P Γ D5 Q s := Af h
def I0 : List RV := [.tmp 6]
end
end Go.Lg
namespace Go.Lg
open Go Go.Proofs
theorem q6g : Au Tryz.prog 65 q0t 33 3 q0u = true := by kernel_rfl
theorem q4X : Au Tryz.prog 134 Xx 10 3 Xy = true := by kernel_rfl
theorem q4Y : Au Tryz.prog 136 Xz 10 3 Y0 = true := by kernel_rfl
theorem q7m : Au Tryz.prog 19 q23 8 2 q24 = true := by kernel_rfl
theorem q5D : Au Tryz.prog 66 q01 8 2 q02 = true := by kernel_rfl
theorem V2 : Au Tryz.prog 135 Iy 32 3 Iz = true := by kernel_rfl
theorem Tj : Au Tryz.prog 137 Ik 32 3 Il = true := by kernel_rfl
theorem Ss : Au Tryz.prog 138 Hz 32 3 I0 = true := by kernel_rfl
end Go.Lg
namespace Go.Lg
open Go Go.Proofs
variable {Γ : Tables}
theorem q2f {hp : List (Nat × Bn)} {f : FuncId} {K : T → Prop} {cs : List T} {t u res : T} (h : Ah Tryz.prog Γ f (t :: u :: cs) res ∨ A6 Tryz.prog Γ f (t :: u :: cs) res) (hk : K res) : q5G Tryz.prog Γ hp f (.t t :: .t u :: cs.map .t) K ⟨⟩ := by
 rcases h with h | h
 ·exact Ae h (by simp only [List.map_cons, List.map_map, Function.comp_def, As, toT]; rw [Qc]; rfl) hk
 ·exact A4 h (by simp only [List.map_cons, List.map_map, Function.comp_def, As, Am]; rw [Qc]; rfl) hk
theorem qIw {Q : AX → St → Prop} (a b : List Int) (ac bc : Option Nat) (an bn : Option Bool) (hl : a.length ≤ 1000000) (hab : a.length = b.length) (f : FuncId) (cs : List T)
  (hf : ∀ i, i < a.length → Ah Tryz.prog Γ f (tK (a.getD i 0) :: tK (b.getD i 0) :: cs) (tB true) ∨ A6 Tryz.prog Γ f (tK (a.getD i 0) :: tK (b.getD i 0) :: cs) (tB true))
  (h0 : Q (.exit 0) ⟨[(1, .t (.sl (Aj tK b) bc bn)), (2, .t (.fn f cs)), (15, .t (.sl (Aj tK a) ac an)), (16, .t (tI a.length)), (17, .t (tI a.length)), (18, .t (tB false))], []⟩) :
  ∀ (k i : Nat), k + i = a.length → run Tryz.prog Γ Dm Q ⟨[(1, .t (.sl (Aj tK b) bc bn)), (2, .t (.fn f cs)), (15, .t (.sl (Aj tK a) ac an)), (16, .t (tI a.length)), (17, .t (tI i))], []⟩
 | 0, i, h => by
  refine H3 fun K hK => ?_
  have h2 : i = a.length := by omega
  subst h2
  simp
  simpa using h0
 | k + 1, i, h => by
  refine H3 fun K hK => ?_
  have h2 : i < a.length := by omega
  have h3 : i < b.length := by omega
  have ih := qIw a b ac bc an bn hl hab f cs hf h0 k (i + 1) (by omega)
  have hq := hf i h2
  have e1 := gE (f := tK) 0 h2
  have e1' := Jv (f := tK) 0 h2
  have e2 := gE (f := tK) 0 h3
  have e2' := Jv (f := tK) 0 h3
  generalize a.getD i 0 = x at *
  generalize b.getD i 0 = y at *
  have w1 := Bl (i := i) (by omega)
  simp [A5, A8, h2, h3, e1, e1', e2, e2']
  refine q2f hq ?_
  simp [w1]
  rw [hK]
  simpa using ih
theorem qIx (a b : List Int) (ac bc : Option Nat) (an bn : Option Bool) (hl : a.length ≤ 1000000) (hab : a.length = b.length) (f : FuncId) (cs : List T)
  (hf : ∀ i, i < a.length → Ah Tryz.prog Γ f (tK (a.getD i 0) :: tK (b.getD i 0) :: cs) (tB true) ∨ A6 Tryz.prog Γ f (tK (a.getD i 0) :: tK (b.getD i 0) :: cs) (tB true)) :
  A6 Tryz.prog Γ 135 [.sl (Aj tK a) ac an, .sl (Aj tK b) bc bn, .fn f cs] (tB true) := by
 refine Aa V2 rfl ?_
 have g := fun Q h0 => qIw (Γ := Γ) (Q := Q) a b ac bc an bn hl hab f cs hf h0 a.length 0 (by omega)
 simp at g
 simp [Iy, A5, hab]
 rw [hab] at g
 refine g _ ?_
 simp [Iz]
theorem qIy {Q : AX → St → Prop} (a b : List (Sl Int)) (ac bc : Option Nat) (an bn : Option Bool) (hl : a.length ≤ 1000000) (hab : a.length = b.length) (f : FuncId) (cs : List T)
  (hf : ∀ i, i < a.length → Ah Tryz.prog Γ f (tV (a.getD i Sl.z) :: tV (b.getD i Sl.z) :: cs) (tB true) ∨ A6 Tryz.prog Γ f (tV (a.getD i Sl.z) :: tV (b.getD i Sl.z) :: cs) (tB true))
  (h0 : Q (.exit 0) ⟨[(1, .t (.sl (Aj tV b) bc bn)), (2, .t (.fn f cs)), (15, .t (.sl (Aj tV a) ac an)), (16, .t (tI a.length)), (17, .t (tI a.length)), (18, .t (tB false))], []⟩) :
  ∀ (k i : Nat), k + i = a.length → run Tryz.prog Γ Df Q ⟨[(1, .t (.sl (Aj tV b) bc bn)), (2, .t (.fn f cs)), (15, .t (.sl (Aj tV a) ac an)), (16, .t (tI a.length)), (17, .t (tI i))], []⟩
 | 0, i, h => by
  refine Gu fun K hK => ?_
  have h2 : i = a.length := by omega
  subst h2
  simp
  simpa using h0
 | k + 1, i, h => by
  refine Gu fun K hK => ?_
  have h2 : i < a.length := by omega
  have h3 : i < b.length := by omega
  have ih := qIy a b ac bc an bn hl hab f cs hf h0 k (i + 1) (by omega)
  have hq := hf i h2
  have e1 := gE (f := tV) Sl.z h2
  have e1' := Jv (f := tV) Sl.z h2
  have e2 := gE (f := tV) Sl.z h3
  have e2' := Jv (f := tV) Sl.z h3
  generalize a.getD i Sl.z = x at *
  generalize b.getD i Sl.z = y at *
  have w1 := Bl (i := i) (by omega)
  simp [A5, A8, h2, h3, e1, e1', e2, e2']
  refine q2f hq ?_
  simp [w1]
  rw [hK]
  simpa using ih
theorem qIz (a b : List (Sl Int)) (ac bc : Option Nat) (an bn : Option Bool) (hl : a.length ≤ 1000000) (hab : a.length = b.length) (f : FuncId) (cs : List T)
  (hf : ∀ i, i < a.length → Ah Tryz.prog Γ f (tV (a.getD i Sl.z) :: tV (b.getD i Sl.z) :: cs) (tB true) ∨ A6 Tryz.prog Γ f (tV (a.getD i Sl.z) :: tV (b.getD i Sl.z) :: cs) (tB true)) :
  A6 Tryz.prog Γ 137 [.sl (Aj tV a) ac an, .sl (Aj tV b) bc bn, .fn f cs] (tB true) := by
 refine Aa Tj rfl ?_
 have g := fun Q h0 => qIy (Γ := Γ) (Q := Q) a b ac bc an bn hl hab f cs hf h0 a.length 0 (by omega)
 simp at g
 simp [Ik, A5, hab]
 rw [hab] at g
 refine g _ ?_
 simp [Il]
theorem qJ0 {Q : AX → St → Prop} (a b : List (Sl (Sl Int))) (ac bc : Option Nat) (an bn : Option Bool) (hl : a.length ≤ 1000000) (hab : a.length = b.length) (f : FuncId) (cs : List T)
  (hf : ∀ i, i < a.length → Ah Tryz.prog Γ f (tW (a.getD i Sl.zz) :: tW (b.getD i Sl.zz) :: cs) (tB true) ∨ A6 Tryz.prog Γ f (tW (a.getD i Sl.zz) :: tW (b.getD i Sl.zz) :: cs) (tB true))
  (h0 : Q (.exit 0) ⟨[(1, .t (.sl (Aj tW b) bc bn)), (2, .t (.fn f cs)), (15, .t (.sl (Aj tW a) ac an)), (16, .t (tI a.length)), (17, .t (tI a.length)), (18, .t (tB false))], []⟩) :
  ∀ (k i : Nat), k + i = a.length → run Tryz.prog Γ D5 Q ⟨[(1, .t (.sl (Aj tW b) bc bn)), (2, .t (.fn f cs)), (15, .t (.sl (Aj tW a) ac an)), (16, .t (tI a.length)), (17, .t (tI i))], []⟩
 | 0, i, h => by
  refine G6 fun K hK => ?_
  have h2 : i = a.length := by omega
  subst h2
  simp
  simpa using h0
 | k + 1, i, h => by
  refine G6 fun K hK => ?_
  have h2 : i < a.length := by omega
  have h3 : i < b.length := by omega
  have ih := qJ0 a b ac bc an bn hl hab f cs hf h0 k (i + 1) (by omega)
  have hq := hf i h2
  have e1 := gE (f := tW) Sl.zz h2
  have e1' := Jv (f := tW) Sl.zz h2
  have e2 := gE (f := tW) Sl.zz h3
  have e2' := Jv (f := tW) Sl.zz h3
  generalize a.getD i Sl.zz = x at *
  generalize b.getD i Sl.zz = y at *
  have w1 := Bl (i := i) (by omega)
  simp [A5, A8, h2, h3, e1, e1', e2, e2']
  refine q2f hq ?_
  simp [w1]
  rw [hK]
  simpa using ih
theorem qJ1 (a b : List (Sl (Sl Int))) (ac bc : Option Nat) (an bn : Option Bool) (hl : a.length ≤ 1000000) (hab : a.length = b.length) (f : FuncId) (cs : List T)
  (hf : ∀ i, i < a.length → Ah Tryz.prog Γ f (tW (a.getD i Sl.zz) :: tW (b.getD i Sl.zz) :: cs) (tB true) ∨ A6 Tryz.prog Γ f (tW (a.getD i Sl.zz) :: tW (b.getD i Sl.zz) :: cs) (tB true)) :
  A6 Tryz.prog Γ 138 [.sl (Aj tW a) ac an, .sl (Aj tW b) bc bn, .fn f cs] (tB true) := by
 refine Aa Ss rfl ?_
 have g := fun Q h0 => qJ0 (Γ := Γ) (Q := Q) a b ac bc an bn hl hab f cs hf h0 a.length 0 (by omega)
 simp at g
 simp [Hz, A5, hab]
 rw [hab] at g
 refine g _ ?_
 simp [I0]
def qJ2 (rel : Int → Int → Prop) (l m : List Int) : Prop := l.length = m.length ∧ ∀ i, i < l.length → rel (l.getD i 0) (m.getD i 0)
structure qJ3 (rel : Int → Int → Prop) (a b : Stt) : Prop where
 d : qJ2 rel a.dff.l b.dff.l
 rl : a.read.l.length = b.read.l.length
 r : ∀ i, i < a.read.l.length → qJ2 rel (a.read.l.getD i Sl.z).l (b.read.l.getD i Sl.z).l
 wl : a.words.l.length = b.words.l.length
 w : ∀ i, i < a.words.l.length → (a.words.l.getD i Sl.zz).l.length = (b.words.l.getD i Sl.zz).l.length ∧ ∀ j, j < (a.words.l.getD i Sl.zz).l.length → qJ2 rel ((a.words.l.getD i Sl.zz).l.getD j Sl.z).l ((b.words.l.getD i Sl.zz).l.getD j Sl.z).l
structure qME (a : Stt) : Prop where
 d : a.dff.l.length ≤ 1000000
 r : a.read.l.length ≤ 1000000 ∧ ∀ x ∈ a.read.l, x.l.length ≤ 1000000
 w : a.words.l.length ≤ 1000000 ∧ ∀ x ∈ a.words.l, x.l.length ≤ 1000000 ∧ ∀ y ∈ x.l, y.l.length ≤ 1000000
theorem q9E (a b : Sl Int) (hl : a.l.length ≤ 1000000) (f : FuncId) (rel : Int → Int → Prop) (hf : ∀ x y, rel x y → A6 Tryz.prog Γ f [tK x, tK y] (tB true)) (h : qJ2 rel a.l b.l) :
  A6 Tryz.prog Γ 134 [tV a, tV b, .ip [.fn f []] 0] (tB true) := by
 refine Aa q4X rfl ?_
 have e := qIx (Γ := Γ) a.l b.l a.cap b.cap a.nl b.nl hl h.1 f [] (fun i hi => .inr (hf _ _ (h.2 i hi)))
 simp [Xx, tV]
 refine A4 e rfl ?_
 simp [Xy]
theorem q9F (a b : Sl (Sl Int)) (hl : a.l.length ≤ 1000000) (hl2 : ∀ x ∈ a.l, x.l.length ≤ 1000000) (f : FuncId) (rel : Int → Int → Prop) (hf : ∀ x y, rel x y → A6 Tryz.prog Γ f [tK x, tK y] (tB true)) (hab : a.l.length = b.l.length)
  (h : ∀ i, i < a.l.length → qJ2 rel (a.l.getD i Sl.z).l (b.l.getD i Sl.z).l) :
  A6 Tryz.prog Γ 136 [tW a, tW b, .ip [.fn 134 [.ip [.fn f []] 0]] 0] (tB true) := by
 refine Aa q4Y rfl ?_
 have e := qIz (Γ := Γ) a.l b.l a.cap b.cap a.nl b.nl hl hab 134 [.ip [.fn f []] 0] (fun i hi => .inr (q9E _ _ (hl2 _ (Ns hi)) f rel hf (h i hi)))
 simp [Xz, tW]
 refine A4 e rfl ?_
 simp [Y0]
theorem qFc (a b : Stt) (hs : qME a) (f : FuncId) (rel : Int → Int → Prop) (hf : ∀ x y, rel x y → A6 Tryz.prog Γ f [tK x, tK y] (tB true)) (h : qJ3 rel a b) :
  Ah Tryz.prog Γ 65 [.agg (E6 a), .agg (E6 b), .fn f []] (tB true) := by
 refine B7 q6g rfl ?_
 have e1 := q9E (Γ := Γ) a.dff b.dff hs.d f rel hf h.d
 have e2 := q9F (Γ := Γ) a.read b.read hs.r.1 hs.r.2 f rel hf h.rl h.r
 have e3 := qJ1 (Γ := Γ) a.words.l b.words.l a.words.cap b.words.cap a.words.nl b.words.nl hs.w.1 h.wl 136 [.ip [.fn 134 [.ip [.fn f []] 0]] 0]
  (fun i hi => .inr (q9F _ _ (hs.w.2 _ (Ns hi)).1 (fun x hx => (hs.w.2 _ (Ns hi)).2 x hx) f rel hf (h.w i hi).1 (h.w i hi).2))
 simp [tV, tW] at e1 e2
 simp [q0t, E6, tV, tW, tWs]
 refine A4 e1 (by simp [Am, As]) ?_
 simp
 refine A4 e2 (by simp [Am, As]) ?_
 simp
 refine A4 e3 (by simp [Am, As]) ?_
 simp [q0u]
theorem qFd (x : Int) : A6 Tryz.prog Γ 66 [tK x, tK x] (tB true) := by
 refine Aa q5D rfl ?_
 simp [q01, q02]
theorem qFe (a b : Stt) (hs : qME a) (h : qJ3 (· = ·) a b) : Ah Tryz.prog Γ 19 [.agg (E6 a), .agg (E6 b)] (tB true) := by
 refine B7 q7m rfl ?_
 have e := qFc (Γ := Γ) a b hs 66 (· = ·) (fun x y h => by subst h; exact qFd x) h
 simp [E6, tV, tW, tWs] at e
 simp [q23, E6, tV, tW, tWs]
 refine Ae e rfl ?_
 simp [q24]
end Go.Lg
namespace Go.Lg
open Go
section
variable {P : Program} {Γ : Tables} {Q : AX → St → Prop} {s : St}
/- probecard/probecardlaw09.taken (function 80) -/
abbrev q4Z : IC := .gh (.seq (.seq (.reg [om 9 8, om 10 2, od 11 (.bin .lss (tm 9) (tm 10))] [kp [0, 1, 2, 7, 8, 11] [19]]) (.cond (tm 11) .skip (.exit 0))) (.seq (.block 1 (.seq (.reg [om 14 0, od 15 (le 0 14), od 16 (.bin .eql (tm 15) (ki 0))] [kp
 [0, 1, 2, 7, 8, 16] [19]]) (.cond (tm 16) (.reg [om 17 7, od 18 (.bsl true 64 1 [(ku 2)]), od 19 (.app false 64 1 (tm 17) (tm 18)), om 7 19] [kp [0, 1, 2, 7, 8] [19]]) (.reg [om 20 7, om 21 0, om 22 1, om 23 8, od 24 (.bin .add (tm
 22) (tm 23)), om 25 0, od 26 (le 0 25), od 27 (.bin .rem (tm 24) (tm 26)), od 28 (ia 1 21 27), od 29 (ld 1 28), od 30 (.bin .rem (tm 29) (ku 3)), od 31 (.bsl true 64 1 [(tm 30)]), oz 32 (.app false 64 1 (tm 20) (tm 31)) 19, om 7
 32] [kp [0, 1, 2, 7, 8] [19]])))) (.reg [om 12 8, od 13 (.bin .add (tm 12) (ki 1)), om 8 13] [kp [0, 1, 2, 7, 8] [19]]))) [kp [0, 1, 2, 7, 8] [19]]
def Su : IC := .loop q4Z
abbrev q4a : IC := (.seq (.reg [od 6 (.mv kN)] [kp [0, 1, 2] []]) (.seq (.reg [od 7 (.mv kN)] [.nl 7 19 64 1, kp [0, 1, 2, 7] [19]]) (.seq (.seq (.reg [od 8 (.mv (ki 0))] [kp [0, 1, 2, 7, 8] [19]]) (.block 0 Su)) (.seq (.reg [om 33 7, om
 6 33] [kp [6] [19]]) .ret))))
theorem q03 (h : ∀ K : St → Prop, K = run P Γ Su Q → run P Γ q4Z (An K Q) s) : run P Γ Su Q s := Af h
def q4b : List RV := [.tmp 6]
/- (probecard/probecardlaw09.S).Of (function 27) -/
abbrev q5t : IC := .gh (.seq (.seq (.reg [om 33 10, od 34 (fa 2 3), od 35 (ld 1 34), om 36 7, od 37 (ia 3 35 36), od 38 (fa 0 37), od 39 (ld 1 38), od 40 (le 0 39), od 41 (.mmx false [(tm 40), (ki 8)]), od 42 (.bin .shl (ki 1) (tm 41)), od 43 (.bin
 .lss (tm 33) (tm 42))] [kp [2, 3, 4, 5, 6, 7, 8, 9, 10, 43] [4, 5, 53, 61, 71]]) (.cond (tm 43) .skip (.exit 2))) (.seq (.block 3 (.seq (.reg [om 46 9, od 47 (fa 0 2), od 48 (ld 1 47), om 49 6, om 50 8, od 51 (.call 80 [(tm 48),
 (tm 49), (tm 50)]), od 52 (.bsl true 41 1 [(tm 51)]), od 53 (.app false 41 1 (tm 46) (tm 52)), om 9 53] [kp [2, 3, 4, 5, 6, 7, 8, 9, 10] [4, 5, 53, 61, 71]]) (.reg [om 54 6, om 55 8, od 56 (.bin .add (tm 54) (tm 55)), om 6 56] [kp
 [2, 3, 4, 5, 6, 7, 8, 9, 10] [4, 5, 53, 61, 71]]))) (.reg [om 44 10, od 45 (.bin .add (tm 44) (ki 1)), om 10 45] [kp [2, 3, 4, 5, 6, 7, 8, 9, 10] [4, 5, 53, 61, 71]]))) [kp [2, 3, 4, 5, 6, 7, 8, 9, 10] [4, 5, 53, 61, 71]]
def Vo : IC := .loop q5t
abbrev q5u : IC := .gh (.seq (.seq (.reg [om 19 7, od 20 (fa 2 3), od 21 (ld 1 20), od 22 (le 0 21), od 23 (.bin .lss (tm 19) (tm 22))] [kp [2, 3, 4, 5, 6, 7, 23] [4, 5, 61, 71]]) (.cond (tm 23) .skip (.exit 0))) (.seq (.block 1 (.seq (.reg [od 26
 (fa 2 3), od 27 (ld 1 26), om 28 7, od 29 (ia 3 27 28), od 30 (fa 1 29), od 31 (ld 1 30), od 32 (le 0 31), om 8 32] [kp [2, 3, 4, 5, 6, 7, 8] [4, 5, 61, 71]]) (.seq (.reg [od 9 (.mv kN)] [.nl 9 53 41 1, kp [2, 3, 4, 5, 6, 7, 8, 9]
 [4, 5, 53, 61, 71]]) (.seq (.seq (.reg [od 10 (.mv (ki 0))] [kp [2, 3, 4, 5, 6, 7, 8, 9, 10] [4, 5, 53, 61, 71]]) (.gh (.block 2 Vo) [.frz 53])) (.seq (.reg [od 57 (fa 1 5), od 58 (ld 1 57), om 59 9, od 60 (.bsl true 43
 1 [(tm 59)]), od 61 (.app false 43 1 (tm 58) (tm 60)), od 62 (fa 1 5), on (.store 1 (tm 62) (tm 61))] [kp [2, 3, 4, 5, 6, 7, 8] [4, 5, 61, 71]]) (.seq (.reg [od 63 (fa 2 5), od 64 (.ldR 5 1 false (tm 63)), od 65 (fa 0 2), od 66
 (.ldT 1 false (tm 65)), om 67 6, om 68 8, od 69 (.call 80 [(tm 66), (tm 67), (tm 68)]), od 70 (.bsl true 41 1 [(tm 69)]), od 71 (.app false 41 1 (tm 64) (tm 70)), od 72 (fa 2 5), on (.stR 5 1 (tm 72) (tm 71))] [kp [2, 3, 4, 5, 6,
 7, 8] [4, 5, 61, 71]]) (.reg [om 73 6, om 74 8, od 75 (.bin .add (tm 73) (tm 74)), om 6 75] [kp [2, 3, 4, 5, 6, 7] [4, 5, 61, 71]]))))))) (.reg [om 24 7, od 25 (.bin .add (tm 24) (ki 1)), om 7 25] [kp [2, 3, 4, 5, 6, 7] [4, 5, 61,
 71]]))) [kp [2, 3, 4, 5, 6, 7] [4, 5, 61, 71]]
def Vp : IC := .loop q5u
abbrev q5v : IC := (.seq (.reg [od 2 (.box true (tm 0)), od 3 (.box true (tm 1)), od 4 (.alloc false [(.slice none 0 0), (.slice none 0 0), (.slice none 0 0)])] [kp [2, 3, 4] [4, 61, 71]]) (.seq (.reg [od 5 (.alloc false [(.slice none 0 0), (.slice
 none 0 0), (.slice none 0 0)])] [.nlb 5 1 61 43 1, .nlb 5 2 71 41 1, kp [2, 3, 4, 5] [4, 5, 61, 71]]) (.seq (.reg [od 11 (lG 4 3), od 12 (.call 60 [(tm 11), (ku 14)]), od 13 (le 0 12), om 6 13] [kp [2, 3, 4, 5, 6] [4, 5, 61, 71]])
 (.seq (.reg [od 14 (fa 0 2), od 15 (ld 1 14), om 16 6, od 17 (.call 80 [(tm 15), (ki 0), (tm 16)]), od 18 (fa 0 5), on (.store 1 (tm 18) (tm 17))] [kp [2, 3, 4, 5, 6] [4, 5, 61, 71]]) (.seq (.seq (.reg [od 7 (.mv (ki 0))] [kp [2,
 3, 4, 5, 6, 7] [4, 5, 61, 71]]) (.gh (.block 0 Vp) [.frz 61, .frz 71])) (.seq (.reg [od 76 (lG 3 5), on (.store 3 (tm 4) (tm 76))] [kp [4] [4, 61, 71]]) .ret))))))
theorem q0v (h : ∀ K : St → Prop, K = run P Γ Vo Q → run P Γ q5t (An K Q) s) : run P Γ Vo Q s := Af h
theorem q0w (h : ∀ K : St → Prop, K = run P Γ Vp Q → run P Γ q5u (An K Q) s) : run P Γ Vp Q s := Af h
def q5w : List RV := [.cell 4 3 true]
/- probecard/probecardlaw09.values (function 73) -/
abbrev q35 : IC := (.seq (.reg [od 2 (.mv kN)] [kp [0] []]) (.seq (.reg [om 6 0, od 7 (.call 139 [(tm 6)]), om 5 7, od 8 (ex 5 0), od 9 (ex 5 1), om 3 8, om 4 9] [kp [3] []]) (.seq (.reg [om 10 3, om 2 10] [kp [2] []]) .ret)))
def q36 : List RV := [.tmp 2]
/- probecard/probecardlaw09.text (function 18) -/
abbrev q5x : IC := .gh (.seq (.seq (.reg [om 5 4, om 6 0, od 7 (le 0 6), od 8 (.bin .lss (tm 5) (tm 7))] [kp [0, 3, 4, 8] []]) (.cond (tm 8) .skip (.exit 0))) (.seq (.block 1 (.reg [om 11 3, om 12 0, om 13 4, od 14 (ia 1 12 13), od 15 (ld 1 14), od
 16 (.call 64 [(tm 15)]), od 17 (.bin .add (tm 11) (tm 16)), od 18 (.bin .add (tm 17) (.const (sV [44]))), om 3 18] [kp [0, 3, 4] []])) (.reg [om 9 4, od 10 (.bin .add (tm 9) (ki 1)), om 4 10] [kp [0, 3, 4] []]))) [kp [0, 3, 4] []]
def Vq : IC := .loop q5x
abbrev q5y : IC := (.seq (.reg [od 2 (.mv (.const (sV [])))] [kp [0] []]) (.seq (.reg [od 3 (.mv (.const (sV [])))] [kp [0, 3] []]) (.seq (.seq (.reg [od 4 (.mv (ki 0))] [kp [0, 3, 4] []]) (.block 0 Vq)) (.seq (.reg [om 19 3, om 2 19] [kp
 [2] []]) .ret))))
theorem q0x (h : ∀ K : St → Prop, K = run P Γ Vq Q → run P Γ q5x (An K Q) s) : run P Γ Vq Q s := Af h
def q5z : List RV := [.tmp 2]
/- probecard/probecardlaw09.lives (function 21) -/
abbrev q4c : IC := (.seq (.reg [od 0 (.mv kF)] [kp [] []]) (.seq (.reg [od 3 (.call 73 [(.const (sV [48, 48]))]), od 4 (.call 73 [(.const (sV [48, 49]))]), od 5 (.call 73 [(.const (sV [49, 48]))]), od 6 (.call 73 [(.const (sV [49, 49]))]), od 7 (.bsl
 true 41 1 [(tm 3), (tm 4), (tm 5), (tm 6)]), om 1 7] [kp [1] []]) (.seq (.reg [om 8 1, od 9 (.call 73 [(.const (sV [49, 48]))]), od 10 (.call 54 [(tm 8), (tm 9)]), od 11 (.call 64 [(tm 10)]), od 12 (.bin .eql (tm 11) (.const (sV
 [48, 49]))), om 13 12, oT 14 (.mv (tm 1)) 13, oT 15 (.call 73 [(.const (sV [88, 48]))]) 13, oT 16 (.call 54 [(tm 14), (tm 15)]) 13, oT 17 (.call 64 [(tm 16)]) 13, oT 18 (.bin .eql (tm 17) (.const (sV [48, 88]))) 13, od 19 (.pick
 (tm 13) (tm 18) kF), om 20 19, oT 21 (.mv (tm 1)) 20, oT 22 (.call 73 [(.const (sV [88, 88]))]) 20, oT 23 (.call 54 [(tm 21), (tm 22)]) 20, oT 24 (.call 64 [(tm 23)]) 20, oT 25 (.bin .eql (tm 24) (.const (sV [88, 88]))) 20, od 26
 (.pick (tm 20) (tm 25) kF), om 2 26] [kp [1, 2] []]) (.seq (.reg [om 27 2, om 28 27, oT 29 (.mv (tm 1)) 28, oT 30 (.call 73 [(.const (sV [49, 88]))]) 28, oT 31 (.call 73 [(.const (sV [49, 49]))]) 28, oT 32 (.call 55 [(tm 29), (tm
 30), (tm 31), (ku 1)]) 28, oT 33 (.call 18 [(tm 32)]) 28, oT 34 (.bin .eql (tm 33) (.const (sV [48, 48, 44, 88, 49, 44, 49, 48, 44, 49, 49, 44]))) 28, od 35 (.pick (tm 28) (tm 34) kF), om 36 35, oT 37 (.mv (tm 1)) 36, oT 38 (.call
 73 [(.const (sV [49, 48]))]) 36, oT 39 (.call 73 [(.const (sV [49, 49]))]) 36, oT 40 (.call 55 [(tm 37), (tm 38), (tm 39), (ku 1)]) 36, oT 41 (.call 18 [(tm 40)]) 36, oT 42 (.bin .eql (tm 41) (.const (sV [48, 48, 44, 49, 49, 44,
 49, 48, 44, 49, 49, 44]))) 36, od 43 (.pick (tm 36) (tm 42) kF), om 44 43, oT 45 (.mv (tm 1)) 44, oT 46 (.call 73 [(.const (sV [49, 48]))]) 44, oT 47 (.call 73 [(.const (sV [49, 49]))]) 44, oT 48 (.call 55 [(tm 45), (tm 46), (tm
 47), (ku 2)]) 44, oT 49 (.call 18 [(tm 48)]) 44, oT 50 (.bin .eql (tm 49) (.const (sV [48, 48, 44, 88, 49, 44, 49, 48, 44, 49, 49, 44]))) 44, od 51 (.pick (tm 44) (tm 50) kF), om 0 51] [kp [0] []]) .ret))))
def q4d : List RV := [.tmp 0]
/- (probecard/probecardlaw09.Two).Step (function 12) -/
abbrev q0y : IC := (.seq (.reg [od 2 (.box true (tm 0)), od 3 (.box true (tm 1)), od 4 (.alloc false [(.slice none 0 0), (.slice none 0 0), (.slice none 0 0)]), od 5 (.mv kN)] [kp [2, 3, 4] [4]]) (.seq (.reg [od 6 (fa 0 2), od 7 (.ldT 1 true (tm 6)),
 od 8 (.ldT 4 true (tm 3)), od 9 (.call 27 [(tm 7), (tm 8)]), od 10 (fa 1 2), od 11 (.ldT 2 true (tm 10)), od 12 (.ldT 4 true (tm 3)), od 13 (.call 44 [(tm 11), (tm 12)]), od 14 (.fld 0 1 false (tm 13)), on (.stR 4 3 (tm 4) (tm 9)),
 om 5 14] [kp [4, 5] [4]]) .ret))
def q0z : List RV := [.cell 4 3 true, .tmp 5]
/- probecard/probecardlaw09.above (function 22) -/
end
end Go.Lg
namespace Go.Lg
open Go Go.Proofs
theorem q9Z : Au Tryz.prog 80 q4a 34 3 q4b = true := by kernel_rfl
theorem qB4 : Au Tryz.prog 27 q5v 77 2 q5w = true := by kernel_rfl
theorem q8e : Au Tryz.prog 73 q35 11 1 q36 = true := by kernel_rfl
theorem qB5 : Au Tryz.prog 18 q5y 20 1 q5z = true := by kernel_rfl
theorem q9a : Au Tryz.prog 21 q4c 52 0 q4d = true := by kernel_rfl
theorem q6h : Au Tryz.prog 12 q0y 15 2 q0z = true := by kernel_rfl
end Go.Lg
namespace Go.Lg
open Go Go.Proofs
variable {Γ : Tables}
def qBU (l : List Int) (at' i : Nat) : Int := if l = [] then 2 else (l.getD ((at' + i) % l.length) 0).tmod 3
def Ws (l : List Int) (at' n : Nat) : List Int := (List.range' 0 n).map (qBU l at')
theorem q7n {l : List Int} {a n : Nat} : (Ws l a n).length = n := by simp [Ws]
theorem qJ4 {Q : AX → St → Prop} (l : Sl Int) (at' n : Nat) (hn : n ≤ 1000000) (ha : at' ≤ 1000000000) (R : List Int)
  (h0 : Q (.exit 0) ⟨[(0, .t (tV l)), (1, .t (tI at')), (2, .t (tI n)), (7, .ls 19 0 n none), (8, .t (tI n)), (11, .t (tB false))], [(19, .sl 64 1 (Ai R))]⟩) : ∀ (k i : Nat) (out : List Int), k + i = n → out.length = i → out ++ (List.range' i k).map (qBU l.l at') = R →
  run Tryz.prog Γ Su Q ⟨[(0, .t (tV l)), (1, .t (tI at')), (2, .t (tI n)), (7, .ls 19 0 i none), (8, .t (tI i))], [(19, .sl 64 1 (Ai out))]⟩
 | 0, i, out, h, hi, hR => by
  refine q03 fun K hK => ?_
  have h2 : i = n := by omega
  subst h2
  simp only [List.range'_zero, List.map_nil, List.append_nil] at hR
  subst hR
  simp
  exact h0
 | k + 1, i, out, h, hi, hR => by
  refine q03 fun K hK => ?_
  have h2 : i < n := by omega
  rw [List.range'_succ, List.map_cons] at hR
  have vt : (Ai out).take i = Ai out := by rw [← hi]; exact Bh
  have w1 := Bl (i := i) (by omega)
  have wa : IntKind.i64.wrap ((at' : Int) + i) = ((at' + i : Nat) : Int) := by rw [A9] <;> omega
  have ih := qJ4 l at' n hn ha R h0 k (i + 1) (out ++ [qBU l.l at' i]) (by omega) (by simp [hi]) (by rw [← hR]; simp)
  have vs := Ha (l := out) (v := qBU l.l at' i)
  by_cases h1 : l.l = []
  ·have hv : qBU l.l at' i = 2 := by unfold qBU; rw [if_pos h1]
   rw [hv] at ih vs
   simp [tV, h1] at ih
   simp [h2, tV, A5, h1, w1, vt, vs, hi]
   refine ⟨by omega, ?_⟩
   rw [hK]
   simpa using ih
  ·have hpos : 0 < l.l.length := List.length_pos_iff.2 h1
   have hlt : (at' + i) % l.l.length < l.l.length := Nat.mod_lt _ hpos
   have hmod : ((at' + i : Nat) : Int).tmod (l.l.length : Int) = (((at' + i) % l.l.length : Nat) : Int) := by rw [Int.natCast_emod]; exact Int.tmod_eq_emod_of_nonneg (by omega)
   have hv : qBU l.l at' i = (l.l.getD ((at' + i) % l.l.length) 0).tmod 3 := by unfold qBU; rw [if_neg h1]
   rw [hv] at ih vs
   have e1 := gE (f := tK) 0 hlt
   have e1' := Jv (f := tK) 0 hlt
   generalize (at' + i) % l.l.length = j at *
   generalize l.l.getD j 0 = v at *
   have hne : ¬ (l.l.length : Int) = 0 := by omega
   have hj0 : (j : Int) < l.l.length := by omega
   simp [tV] at ih
   simp [h2, tV, A5, A8, h1, hne, wa, hmod, hlt, e1, e1', vt, vs, hi, w1, -Int.natCast_emod, -Int.natCast_add]
   refine ⟨by omega, ?_⟩
   rw [hK]
   simpa using ih
theorem q4e (l : Sl Int) (at' n : Nat) (hn : n ≤ 1000000) (ha : at' ≤ 1000000000) : A6 Tryz.prog Γ 80 [tV l, tI at', tI n] (.sl (Ai (Ws l.l at' n)) none none) := by
 refine Aa q9Z rfl ?_
 have g := fun Q h0 => qJ4 (Γ := Γ) (Q := Q) l at' n hn ha (Ws l.l at' n) h0 n 0 [] (by omega) rfl (by simp [Ws])
 have ht : (Ai (Ws l.l at' n)).take n = Ai (Ws l.l at' n) := List.take_of_length_le (by rw [A5, q7n]; exact Nat.le_refl _)
 generalize Ws l.l at' n = R at *
 simp [tV, Cf] at g
 simp [q4a, tV]
 refine g _ ?_
 simp [q4b, Am, ht]
def Sv (v : List Int) (n : Nat) : Nat → Nat → List (Sl Int)
 | 0, _ => []
 | k + 1, a => ⟨Ws v a n, none, none⟩ :: Sv v n k (a + n)
def ofW (v : List Int) : List Mm → Nat → List (Sl (Sl Int))
 | [], _ => []
 | m :: ms, a => ⟨Sv v m.data.l.length (2 ^ m.addr.l.length) a, none, none⟩ :: ofW v ms (a + 2 ^ m.addr.l.length * m.data.l.length + m.data.l.length)
def ofR (v : List Int) : List Mm → Nat → List (Sl Int)
 | [], _ => []
 | m :: ms, a => ⟨Ws v (a + 2 ^ m.addr.l.length * m.data.l.length) m.data.l.length, none, none⟩ :: ofR v ms (a + 2 ^ m.addr.l.length * m.data.l.length + m.data.l.length)
def qBV (v : List Int) (c : Bd) : Stt := ⟨⟨Ws v 0 (Be c).length, none, none⟩, ⟨ofW v c.mems.l (Be c).length, none, none⟩, ⟨ofR v c.mems.l (Be c).length, none, none⟩⟩
def soH (d : T) (ws : List (Sl (Sl Int))) (rs : List (Sl Int)) : List (Nat × Bn) := [(4, .bx [Ol, Ol, Ol]), (5, .bx [.t d, .ls 61 0 ws.length none, .ls 71 0 rs.length none])]
def soT (ws : List (Sl (Sl Int))) (rs : List (Sl Int)) : List (Nat × Bn) := [(61, .sl 43 1 (Aj tW ws)), (71, .sl 41 1 (Aj tV rs))]
def soE (v : Sl Int) (c : Bd) (a m : Nat) : List (Nat × AV) := [(2, .t (.ip [tV v] 0)), (3, .t (.ip (tC c) 0)), (4, .lp 4 0 0), (5, .lp 5 0 0), (6, .t (tI a)), (7, .t (tI m))]
theorem qNq {Q : AX → St → Prop} (v : Sl Int) (c : Bd) (m : Nat) (hm : m < c.mems.l.length) (n K : Nat) (hn : n ≤ 32) (hk : (c.mems.l.getD m Mm.d).addr.l.length ≤ 8) (hK : K = 2 ^ (c.mems.l.getD m Mm.d).addr.l.length) (hcm : c.mems.l.length ≤ 16) (d : T) (ws : List (Sl (Sl Int))) (rs : List (Sl Int)) (A : Nat) (R : List (Sl Int))
  (h0 : Q (.exit 2) ⟨soE v c A m ++ [(8, .t (tI n)), (9, .ls 53 0 R.length none), (10, .t (tI K)), (43, .t (tB false))], soH d ws rs ++ (53, .sl 41 1 (Aj tV R)) :: soT ws rs⟩) :
  ∀ (k i a : Nat) (out : List (Sl Int)), k + i = K → out.length = i → a ≤ 2000000 + 32 * i → a + k * n = A → out ++ Sv v.l n k a = R →
  run Tryz.prog Γ Vo Q ⟨soE v c a m ++ [(8, .t (tI n)), (9, .ls 53 0 i none), (10, .t (tI i))], soH d ws rs ++ (53, .sl 41 1 (Aj tV out)) :: soT ws rs⟩ := by
 have e1 : (B1 Ug c.mems.l)[m]?.getD [] = Ug (c.mems.l.getD m Mm.d) := by simp [B1, hm]
 have e1' : ∀ h, (B1 Ug c.mems.l)[m]'h = Ug (c.mems.l.getD m Mm.d) := fun h => by simp [B1, hm]
 generalize c.mems.l.getD m Mm.d = mm at *
 have sh := qNn hk
 rw [← hK] at sh
 have hK256 : K ≤ 256 := by rw [hK]; exact Nat.pow_le_pow_right (by omega) hk
 have hmin : ¬ (8 : Int) < mm.addr.l.length := by omega
 have hmin' : ¬ 8 < mm.addr.l.length := by omega
 simp only [Ug, Av] at e1 e1'
 intro k
 induction k with
 | zero =>
  intro i a out h ho hb ha hR
  refine q0v fun KK hKK => ?_
  have h2 : i = K := by omega
  subst h2
  simp only [Sv, List.append_nil] at hR
  subst hR
  have ha' : a = A := by omega
  subst ha'
  simp [soE, soH, soT, Ol, tC, Ab, Ad, Ag, Av, ho] at h0
  simp [soE, soH, soT, Ol, tC, Ab, Ad, Ag, Av, P0, Ac, A5, hm, e1, e1', hmin, hmin', sh]
  simpa using h0
 | succ k ih =>
  intro i a out h ho hb ha hR
  refine q0v fun KK hKK => ?_
  have h2 : i < K := by omega
  simp only [Sv] at hR
  have ht := q4e (Γ := Γ) v a n (by omega) (by omega)
  have ih := ih (i + 1) (a + n) (out ++ [⟨Ws v.l a n, none, none⟩]) (by omega) (by simp [ho]) (by omega) (by rw [← ha, Nat.succ_mul]; omega) (by rw [← hR]; simp)
  have vs : Aj tV out ++ [[T.sl (Ai (Ws v.l a n)) none none]] = Aj tV (out ++ [⟨Ws v.l a n, none, none⟩]) := D2 (f := tV) (x := ⟨Ws v.l a n, none, none⟩)
  have vt : (Aj tV out).take i = Aj tV out := by rw [← ho]; exact Ar
  have w1 := Bl (i := i) (by omega)
  have wa : IntKind.i64.wrap ((a : Int) + n) = (a : Int) + n := by rw [A9] <;> omega
  generalize Ws v.l a n = row at *
  simp only [tV] at ht
  simp [soE, soH, soT, Ol, tC, Ab, Ad, Ag, Av, tV] at ih
  simp [soE, soH, soT, Ol, tC, Ab, Ad, Ag, Av, P0, Ac, A5, hm, e1, e1', hmin, hmin', sh, h2, tV]
  refine A4 ht rfl ?_
  simp [vt, vs, ho, A5, A8, w1, wa]
  refine ⟨by omega, ?_⟩
  rw [hKK]
  simpa using ih
theorem q8f {v : List Int} {n : Nat} : ∀ {k a : Nat}, (Sv v n k a).length = k
 | 0, _ => rfl
 | k + 1, a => by simp [Sv, q8f]
theorem qL6 {Q : AX → St → Prop} (v : Sl Int) (c : Bd) (hcm : c.mems.l.length ≤ 16) (hm : ∀ m ∈ c.mems.l, m.addr.l.length ≤ 8 ∧ m.data.l.length ≤ 32) (d : T) (RW : List (Sl (Sl Int))) (RR : List (Sl Int))
  (h0 : ∀ A : Nat, Q (.exit 0) ⟨soE v c A c.mems.l.length ++ [(23, .t (tB false))], soH d RW RR ++ soT RW RR⟩) :
  ∀ (k i a : Nat) (ws : List (Sl (Sl Int))) (rs : List (Sl Int)), k + i = c.mems.l.length → ws.length = i → rs.length = i → a ≤ 1000000 + 10000 * i → ws ++ ofW v.l (c.mems.l.drop i) a = RW → rs ++ ofR v.l (c.mems.l.drop i) a = RR →
  run Tryz.prog Γ Vp Q ⟨soE v c a i, soH d ws rs ++ soT ws rs⟩
 | 0, i, a, ws, rs, h, hw, hr, ha, hW, hR => by
  refine q0w fun K hK => ?_
  have h2 : i = c.mems.l.length := by omega
  subst h2
  rw [List.drop_length] at hW hR
  simp only [ofW, ofR, List.append_nil] at hW hR
  subst hW
  subst hR
  have := h0 a
  simp [soE, soH, soT, Ol, tC, Ab, Ad, Ag, Av] at this
  simp [soE, soH, soT, Ol, tC, Ab, Ad, Ag, Av, Ac]
  simpa using this
 | k + 1, i, a, ws, rs, h, hw, hr, ha, hW, hR => by
  refine q0w fun K hK => ?_
  have h2 : i < c.mems.l.length := by omega
  rw [List.drop_eq_getElem_cons h2] at hW hR
  simp only [ofW, ofR] at hW hR
  have e1 : (B1 Ug c.mems.l)[i]?.getD [] = Ug c.mems.l[i] := by simp [B1, h2]
  have e1' : ∀ h, (B1 Ug c.mems.l)[i]'h = Ug c.mems.l[i] := fun h => by simp [B1]
  obtain ⟨ma, md⟩ := hm _ (List.getElem_mem h2)
  have hge : c.mems.l.getD i Mm.d = c.mems.l[i] := by simp [List.getD_eq_getElem?_getD, h2]
  have g := fun Q n hn h1 h2' A R hA hR h0 => qNq (Γ := Γ) (Q := Q) v c i h2 n (2 ^ (c.mems.l.getD i Mm.d).addr.l.length) hn h1 rfl hcm d ws rs A R h0 (2 ^ (c.mems.l.getD i Mm.d).addr.l.length) 0 a [] (by omega) rfl h2' hA hR
  rw [hge] at g
  generalize c.mems.l[i] = m at *
  have hK256 : 2 ^ m.addr.l.length ≤ 256 := Nat.pow_le_pow_right (by omega) ma
  have hKn : 2 ^ m.addr.l.length * m.data.l.length ≤ 256 * 32 := Nat.mul_le_mul hK256 md
  have g := fun Q h0 => g Q m.data.l.length md ma (by omega) (a + 2 ^ m.addr.l.length * m.data.l.length) (Sv v.l m.data.l.length (2 ^ m.addr.l.length) a) rfl (by simp) h0
  have hrl : (Sv v.l m.data.l.length (2 ^ m.addr.l.length) a).length = 2 ^ m.addr.l.length := q8f
  generalize 2 ^ m.addr.l.length * m.data.l.length = KN at *
  generalize 2 ^ m.addr.l.length = K0 at *
  have ht := q4e (Γ := Γ) v (a + KN) m.data.l.length (by omega) (by omega)
  have ih := qL6 v c hcm hm d RW RR h0 k (i + 1) (a + KN + m.data.l.length) (ws ++ [⟨Sv v.l m.data.l.length K0 a, none, none⟩]) (rs ++ [⟨Ws v.l (a + KN) m.data.l.length, none, none⟩]) (by omega) (by simp [hw]) (by simp [hr]) (by omega) (by rw [← hW]; simp) (by rw [← hR]; simp)
  have vsw : Aj tW ws ++ [[T.sl (Aj tV (Sv v.l m.data.l.length K0 a)) none none]] = Aj tW (ws ++ [⟨Sv v.l m.data.l.length K0 a, none, none⟩]) := D2 (f := tW) (x := ⟨Sv v.l m.data.l.length K0 a, none, none⟩)
  have vsr : Aj tV rs ++ [[T.sl (Ai (Ws v.l (a + KN) m.data.l.length)) none none]] = Aj tV (rs ++ [⟨Ws v.l (a + KN) m.data.l.length, none, none⟩]) := D2 (f := tV) (x := ⟨Ws v.l (a + KN) m.data.l.length, none, none⟩)
  have vt : (Aj tV (Sv v.l m.data.l.length K0 a)).take (Sv v.l m.data.l.length K0 a).length = Aj tV (Sv v.l m.data.l.length K0 a) := Ar
  have vtw : (Aj tW ws).take i = Aj tW ws := by rw [← hw]; exact Ar
  have vtr : (Aj tV rs).take i = Aj tV rs := by rw [← hr]; exact Ar
  generalize Sv v.l m.data.l.length K0 a = rows at *
  generalize Ws v.l (a + KN) m.data.l.length = rd at *
  have w1 := Bl (i := i) (by omega)
  have wa : IntKind.i64.wrap ((a : Int) + KN + m.data.l.length) = (a : Int) + KN + m.data.l.length := by rw [A9] <;> omega
  have hw1 : ∀ t : T, E2 1 [[t]] := fun t e he => by simp at he; subst he; rfl
  simp only [Ug, Av] at e1 e1'
  simp only [tV] at ht
  simp [soE, soH, soT, Ol, tC, Ab, Ad, Ag, Av, tV, Cf, hw, hr] at g ih
  simp [soE, soH, soT, Ol, tC, Ab, Ad, Ag, Av, P0, Ac, A5, h2, e1, e1', tV, hw, hr]
  refine g _ ?_
  simp [St.freeze, Bn.closed, Do, frz1, frz0, I8, del, Am, vt, vtw, vsw, hw1, A8, A5, hw]
  refine ⟨by omega, ?_⟩
  refine A4 ht rfl ?_
  simp [vtr, vsr, hw1, A8, A5, hr, wa, w1]
  refine ⟨by omega, ?_⟩
  rw [hK]
  simpa using ih
theorem qHN (v : Sl Int) (c : Bd) (hc : COk c) (hn : c.nodes.l.length ≤ 1000000) (hcm : c.mems.l.length ≤ 16) (hm : ∀ m ∈ c.mems.l, m.addr.l.length ≤ 8 ∧ m.data.l.length ≤ 32) : Ah Tryz.prog Γ 27 [.agg [tV v], .agg (tC c)] (.agg (E6 (qBV v.l c))) := by
 refine B7 qB4 rfl ?_
 have e1 := qAx (Γ := Γ) c hc 14 hn
 have hsl := Hl c
 have e2 := q4e (Γ := Γ) v 0 (Be c).length (by omega) (by omega)
 have g := fun Q d h0 => qL6 (Γ := Γ) (Q := Q) v c hcm hm d (ofW v.l c.mems.l (Be c).length) (ofR v.l c.mems.l (Be c).length) h0 c.mems.l.length 0 (Be c).length [] [] (by omega) rfl rfl (by omega) rfl rfl
 have hst : N5 [14] c.nodes.l 0 = Be c := rfl
 rw [hst] at e1
 have tw : (Aj tW (ofW v.l c.mems.l (Be c).length)).take (ofW v.l c.mems.l (Be c).length).length = Aj tW (ofW v.l c.mems.l (Be c).length) := Ar
 have tr : (Aj tV (ofR v.l c.mems.l (Be c).length)).take (ofR v.l c.mems.l (Be c).length).length = Aj tV (ofR v.l c.mems.l (Be c).length) := Ar
 unfold qBV
 generalize ofW v.l c.mems.l (Be c).length = W at *
 generalize ofR v.l c.mems.l (Be c).length = R at *
 generalize Ws v.l 0 (Be c).length = D at *
 simp [soE, soH, soT, Ol, tC, Ab, Ad, Ag, Av, tV, Cf] at e1 e2 g
 simp [q5v, tC, Ab, Ad, Ag, Av, tV]
 refine Ae e1 rfl ?_
 simp [A5]
 refine A4 e2 rfl ?_
 simp
 refine g _ _ fun A => ?_
 simp [St.freeze, Bn.closed, Do, frz1, frz0, I8, del, Am, tw, tr, q5w, E6, tV, tW, tWs]
end Go.Lg
namespace Go.Lg
open Go Go.Proofs
def V3 (v : Int) : Prop := 0 ≤ v ∧ v ≤ 2
theorem V3.four {v : Int} (h : V3 v) : V4 v := by unfold V3 V4 at *; omega
theorem qJ5 {l : List Int} (h : ∀ v ∈ l, V3 v) (i : Nat) : V3 (l.getD i 0) := by
 by_cases hi : i < l.length
 ·rw [B5 hi]; exact h _ (List.getElem_mem hi)
 ·rw [List.getD_eq_getElem?_getD, List.getElem?_eq_none (by omega)]; exact ⟨by simp, by simp⟩
theorem qMF {l : List Int} (hl : ∀ v ∈ l, 0 ≤ v) (a i : Nat) : V3 (qBU l a i) := by
 unfold qBU
 split
 ·exact ⟨by omega, by omega⟩
 ·rename_i h
  have hpos : 0 < l.length := List.length_pos_iff.2 h
  have h0 : 0 ≤ l.getD ((a + i) % l.length) 0 := by
   rw [B5 (Nat.mod_lt _ hpos)]; exact hl _ (List.getElem_mem _)
  generalize l.getD ((a + i) % l.length) 0 = u at *
  rw [Int.tmod_eq_emod_of_nonneg h0]
  have := Int.emod_nonneg u (show (3 : Int) ≠ 0 by omega)
  have := Int.emod_lt_of_pos u (show (0 : Int) < 3 by omega)
  exact ⟨by omega, by omega⟩
theorem qFf {l : List Int} (hl : ∀ v ∈ l, 0 ≤ v) {a n : Nat} : ∀ v ∈ Ws l a n, V3 v := by
 intro v hv
 obtain ⟨i, _, rfl⟩ := List.mem_map.1 hv
 exact qMF hl a i
theorem q8g {v : List Int} {n : Nat} {r : Sl Int} : ∀ {k a : Nat}, r ∈ Sv v n k a → ∃ a', r = ⟨Ws v a' n, none, none⟩
 | 0, _, h => by cases h
 | k + 1, a, h => by
  rcases List.mem_cons.1 h with rfl | h
  ·exact ⟨a, rfl⟩
  ·exact q8g h
theorem qCz {v : List Int} : ∀ {ms : List Mm} {a : Nat}, (ofW v ms a).length = ms.length
 | [], _ => rfl
 | m :: ms, a => by simp [ofW, qCz]
theorem qD0 {v : List Int} : ∀ {ms : List Mm} {a : Nat}, (ofR v ms a).length = ms.length
 | [], _ => rfl
 | m :: ms, a => by simp [ofR, qD0]
theorem q9r {v : List Int} : ∀ {ms : List Mm} {a i : Nat}, i < ms.length → ∃ a', (ofW v ms a).getD i Sl.zz = ⟨Sv v (ms.getD i Mm.d).data.l.length (2 ^ (ms.getD i Mm.d).addr.l.length) a', none, none⟩
 | m :: ms, a, 0, _ => ⟨a, rfl⟩
 | m :: ms, a, i + 1, h => q9r (ms := ms) (by simpa using h)
theorem qD1 {v : List Int} : ∀ {ms : List Mm} {a i : Nat}, i < ms.length → ∃ a', (ofR v ms a).getD i Sl.z = ⟨Ws v a' (ms.getD i Mm.d).data.l.length, none, none⟩
 | m :: ms, a, 0, _ => ⟨a + 2 ^ m.addr.l.length * m.data.l.length, rfl⟩
 | m :: ms, a, i + 1, h => qD1 (ms := ms) (by simpa using h)
theorem q4f {α : Type} {l : List α} {x : α} (d : α) (h : x ∈ l) : ∃ i, i < l.length ∧ l.getD i d = x := by
 obtain ⟨i, hi, rfl⟩ := List.getElem_of_mem h
 exact ⟨i, hi, by simp [List.getD_eq_getElem?_getD, hi]⟩
theorem qKG {v : List Int} (hv : ∀ x ∈ v, 0 ≤ x) (c : Bd) : Ou c (qBV v c) := by
 refine ⟨q7n, qCz, qD0, fun i hi => ?_, fun i hi w hw => ?_, fun i hi => ?_, qFf hv, fun w hw r hr => ?_, fun r hr => ?_⟩
 ·obtain ⟨a, e⟩ := q9r (v := v) (a := (Be c).length) hi
  show ((ofW v c.mems.l _).getD i Sl.zz).l.length = _
  rw [e]; exact q8f
 ·obtain ⟨a, e⟩ := q9r (v := v) (a := (Be c).length) hi
  have hw : w ∈ ((ofW v c.mems.l (Be c).length).getD i Sl.zz).l := hw
  rw [e] at hw
  obtain ⟨a', rfl⟩ := q8g hw
  exact q7n
 ·obtain ⟨a, e⟩ := qD1 (v := v) (a := (Be c).length) hi
  show ((ofR v c.mems.l _).getD i Sl.z).l.length = _
  rw [e]; exact q7n
 ·obtain ⟨i, hi, rfl⟩ := q4f Sl.zz hw
  have hi' : i < c.mems.l.length := by have : (qBV v c).words.l.length = c.mems.l.length := qCz; omega
  obtain ⟨a, e⟩ := q9r (v := v) (a := (Be c).length) hi'
  have hr : r ∈ ((ofW v c.mems.l (Be c).length).getD i Sl.zz).l := hr
  rw [e] at hr
  obtain ⟨a', rfl⟩ := q8g hr
  exact qFf hv
 ·obtain ⟨i, hi, rfl⟩ := q4f Sl.z hr
  have hi' : i < c.mems.l.length := by have : (qBV v c).read.l.length = c.mems.l.length := qD0; omega
  obtain ⟨a, e⟩ := qD1 (v := v) (a := (Be c).length) hi'
  have e : (qBV v c).read.l.getD i Sl.z = ⟨Ws v a (c.mems.l.getD i Mm.d).data.l.length, none, none⟩ := e
  rw [e]
  exact qFf hv
theorem qD2 {w : List Int} (h : ∀ v ∈ w, V3 v) (b : Nat) : V3 (q1D w b) := by
 unfold q1D
 split
 ·have := qJ5 h b
  unfold Dk V3 at *
  split <;> omega
 ·exact ⟨by omega, by omega⟩
theorem qGU {w : List Int} (h : ∀ v ∈ w, V4 v) (b : Nat) : V3 (q1D w b) := by
 unfold q1D
 split
 ·have := Ul h b
  unfold Dk V3 V4 at *
  split <;> omega
 ·exact ⟨by omega, by omega⟩
theorem qGV {a b : Int} (ha : V3 a) (hb : V3 b) : V3 (q2r a b) := by
 unfold q2r
 split
 ·exact ha
 ·exact ⟨by omega, by omega⟩
theorem qCJ {w : List Int} {f : Bool} : ∀ {k b : Nat} {o : List Int}, (Xs w f k b o).length = o.length
 | 0, _, _ => rfl
 | k + 1, b, o => by simp only [Xs]; rw [qCJ, List.length_set]
theorem qGW {w : List Int} (hw : ∀ v ∈ w, V3 v) {f : Bool} : ∀ {k b : Nat} {o : List Int}, (∀ v ∈ o, V3 v) → ∀ v ∈ Xs w f k b o, V3 v
 | 0, _, _, h => h
 | k + 1, b, o, h => by
  simp only [Xs]
  refine qGW hw fun v hv => ?_
  rcases List.mem_or_eq_of_mem_set hv with hv | rfl
  ·exact h v hv
  ·split
   ·exact qD2 hw b
   ·exact qGV (qJ5 h b) (qD2 hw b)
theorem qD3 {addr : List Int} : ∀ {ws : List (List Int)} {i : Nat} {s : List Int × Bool}, (∀ w ∈ ws, ∀ v ∈ w, V3 v) → (∀ v ∈ s.1, V3 v) → (q4D addr i ws s).1.length = s.1.length ∧ ∀ v ∈ (q4D addr i ws s).1, V3 v
 | [], _, _, _, h => ⟨rfl, h⟩
 | w :: ws, i, s, hw, h => by
  simp only [q4D]
  have hw' : ∀ x ∈ ws, ∀ v ∈ x, V3 v := fun x hx => hw x (List.mem_cons_of_mem _ hx)
  by_cases hm : Rx i addr = true
  ·rw [if_pos hm]
   have := qD3 (addr := addr) (i := i + 1) (s := (Xs w s.2 s.1.length 0 s.1, false)) hw' (qGW (hw w List.mem_cons_self) h)
   exact ⟨this.1.trans qCJ, this.2⟩
  ·rw [if_neg hm]
   exact qD3 (addr := addr) (i := i + 1) hw' h
theorem qEV {words : List (List Int)} {addr : List Int} (hw : ∀ w ∈ words, ∀ v ∈ w, V3 v) : (Qk words addr).length = (words.headD []).length ∧ ∀ v ∈ Qk words addr, V3 v := by
 cases words with
 | nil => exact ⟨rfl, fun v h => by cases h⟩
 | cons w ws =>
  have := qD3 (addr := addr) (i := 0) (s := (List.replicate w.length 2, true)) hw (fun v hv => by rw [List.eq_of_mem_replicate hv]; exact ⟨by omega, by omega⟩)
  exact ⟨this.1.trans (by simp), this.2⟩
theorem q6i {addr data : List Int} {en : Int} {r : List Int} : ∀ {ws : List (List Int)} {i : Nat}, r ∈ En addr data en i ws → ∃ i' w, w ∈ ws ∧ r = Ux i' addr data en w w.length 0
 | [], _, h => by cases h
 | w :: ws, i, h => by
  rcases List.mem_cons.1 h with rfl | h
  ·exact ⟨i, w, List.mem_cons_self, rfl⟩
  ·obtain ⟨i', w', h1, h2⟩ := q6i h
   exact ⟨i', w', List.mem_cons_of_mem _ h1, h2⟩
theorem qJ6 {addr data w : List Int} {en : Int} {i : Nat} (hw : ∀ v ∈ w, V3 v) (hd : ∀ v ∈ data, V4 v) : ∀ v ∈ Ux i addr data en w w.length 0, V3 v := by
 intro v hv
 obtain ⟨j, hj, rfl⟩ := q4f 0 hv
 rw [q2Y] at hj
 rw [q6a hj]
 unfold q4E
 split
 ·exact qD2 hw _
 split
 ·exact qGU hd _
 ·exact qGV (qD2 hw _) (qGU hd _)
theorem q4v {nets : List Int} {ms : List Mm} {ws : List (Sl (Sl Int))} (h : ws.length = ms.length) : (Jr nets ms ws).length = ms.length := by unfold Jr; rw [List.length_zipWith, h, Nat.min_self]
theorem q4w {nets : List Int} {ms : List Mm} {ws : List (Sl (Sl Int))} (h : ws.length = ms.length) : (N1 nets ms ws).length = ms.length := by unfold N1; rw [List.length_zipWith, h, Nat.min_self]
theorem q4x {α : Type} {l : List α} {i : Nat} {d : α} (h : i < l.length) : l.getD i d = l[i] := by simp [List.getD_eq_getElem?_getD, h]
theorem q8h {nets : List Int} {ms : List Mm} {ws : List (Sl (Sl Int))} (h : ws.length = ms.length) {i : Nat} (hi : i < ms.length) :
  (Jr nets ms ws).getD i Sl.zz = H8 (En (B8 nets (ms.getD i Mm.d).addr.l) (B8 nets (ms.getD i Mm.d).data.l) (nets.getD (ms.getD i Mm.d).write.toNat 0) 0 ((ws.getD i Sl.zz).l.map (·.l))) := by
 have h1 : i < ws.length := by omega
 have h2 : i < (Jr nets ms ws).length := by rw [q4v h]; exact hi
 rw [q4x h2, q4x hi, q4x h1]
 simp only [Jr, List.getElem_zipWith]
theorem qCK {nets : List Int} {ms : List Mm} {ws : List (Sl (Sl Int))} (h : ws.length = ms.length) {i : Nat} (hi : i < ms.length) :
  (N1 nets ms ws).getD i Sl.z = ⟨Qk ((ws.getD i Sl.zz).l.map (·.l)) (B8 nets (ms.getD i Mm.d).addr.l), none, none⟩ := by
 have h1 : i < ws.length := by omega
 have h2 : i < (N1 nets ms ws).length := by rw [q4w h]; exact hi
 rw [q4x h2, q4x hi, q4x h1]
 simp only [N1, List.getElem_zipWith]
theorem qJ7 {nets l : List Int} (h : ∀ v ∈ nets, V4 v) : ∀ v ∈ B8 nets l, V4 v := by
 intro v hv
 obtain ⟨q, _, rfl⟩ := List.mem_map.1 hv
 exact Ul h _
theorem qJ8 {c : Bd} {nets : List Int} (h : ∀ v ∈ nets, V4 v) : ∀ v ∈ D8 c nets, V3 v := by
 intro v hv
 obtain ⟨n, _, rfl⟩ := List.mem_map.1 hv
 unfold q2q Hw
 split
 ·split
  ·exact ⟨by unfold Dk; omega, by unfold Dk; omega⟩
  ·have := Ul h ((F4 c n.toNat).getD 0 0).toNat
   generalize nets.getD ((F4 c n.toNat).getD 0 0).toNat 0 = u at *
   unfold V4 at this
   unfold V3 Dk Du
   constructor <;> (split <;> split <;> omega)
 ·exact ⟨by omega, by omega⟩
theorem qJ9 {c : Bd} (h : MOk c) {s : Stt} (H : Ou c s) {nets : List Int} (hv : ∀ v ∈ nets, V4 v) : Ou c (q0p c s nets) := by
 have hwm : ∀ i, i < c.mems.l.length → ∀ r ∈ ((s.words.l.getD i Sl.zz).l.map (·.l)), ∀ v ∈ r, V3 v := fun i hi r hr v hvv => by
  obtain ⟨x, hx, rfl⟩ := List.mem_map.1 hr
  exact H.vw _ (Ns (by rw [H.w]; exact hi)) x hx v hvv
 have hsw := H.w
 refine ⟨by simp [q0p, D8], q4v hsw, q4w hsw, fun i hi => ?_, fun i hi w hw => ?_, fun i hi => ?_, qJ8 hv, fun w hw r hr => ?_, fun r hr => ?_⟩
 ·show ((Jr nets c.mems.l s.words.l).getD i Sl.zz).l.length = _
  rw [q8h hsw hi]
  simp only [H8, List.length_map, q6c]
  exact H.wl i hi
 ·have hw : w ∈ ((Jr nets c.mems.l s.words.l).getD i Sl.zz).l := hw
  rw [q8h hsw hi] at hw
  simp only [H8] at hw
  obtain ⟨r, hr, rfl⟩ := List.mem_map.1 hw
  obtain ⟨i', w', hw', rfl⟩ := q6i hr
  obtain ⟨x, hx, rfl⟩ := List.mem_map.1 hw'
  show (Ux _ _ _ _ _ _ _).length = _
  rw [q2Y]
  exact H.wr i hi x hx
 ·show ((N1 nets c.mems.l s.words.l).getD i Sl.z).l.length = _
  rw [qCK hsw hi]
  simp only
  rw [(qEV (hwm i hi)).1]
  have hlen := H.wl i hi
  have hwr := H.wr i hi
  cases hW : (s.words.l.getD i Sl.zz).l with
  | nil =>
   rw [hW] at hlen
   have := Nat.pow_pos (n := (c.mems.l.getD i Mm.d).addr.l.length) (show 0 < 2 by omega)
   simp only [List.length_nil] at hlen
   omega
  | cons x xs =>
   rw [hW] at hwr
   exact hwr x List.mem_cons_self
 ·obtain ⟨i, hi, rfl⟩ := q4f Sl.zz hw
  have hi' : i < c.mems.l.length := by have : (q0p c s nets).words.l.length = c.mems.l.length := q4v hsw; omega
  have hr : r ∈ ((Jr nets c.mems.l s.words.l).getD i Sl.zz).l := hr
  rw [q8h hsw hi'] at hr
  simp only [H8] at hr
  obtain ⟨q, hq, rfl⟩ := List.mem_map.1 hr
  obtain ⟨i', w', hw', rfl⟩ := q6i hq
  exact qJ6 (hwm i hi' w' hw') (qJ7 hv)
 ·obtain ⟨i, hi, rfl⟩ := q4f Sl.z hr
  have hi' : i < c.mems.l.length := by have : (q0p c s nets).read.l.length = c.mems.l.length := q4w hsw; omega
  have e : (q0p c s nets).read.l.getD i Sl.z = _ := qCK hsw hi'
  rw [e]
  exact (qEV (hwm i hi')).2
theorem qJA {c : Bd} : ∀ {o nets : List Int}, (∀ v ∈ nets, V4 v) → ∀ v ∈ q55 c o nets, V4 v
 | [], nets, h => h
 | n :: o, nets, h => qJA (o := o) (nets := Qf c nets n) (qCj h)
theorem qD4 {c : Bd} {s : Stt} (H : Ou c s) {inn : List Int} (hv : ∀ v ∈ inn, V4 v) : ∀ v ∈ M4 c inn s.dff.l s.rd, V4 v := by
 refine q9o (fun v hvm => ?_) (q9o (fun v h => (show V3 v from H.vd v h).four) (q9o hv fun v hv => by rw [(List.mem_replicate.1 hv).2]; simp [V4]))
 obtain ⟨n, _, rfl⟩ := List.mem_map.1 hvm
 by_cases hm : (nd c n).mem.toNat < s.rd.length
 ·refine Ul (fun v hv => ?_) _
  have hmem := Ns (d := ([] : List Int)) hm
  obtain ⟨r, hr, e⟩ := List.mem_map.1 hmem
  rw [← e] at hv
  exact (show V3 v from H.vr r hr v hv).four
 ·have e : s.rd.getD (nd c n).mem.toNat [] = [] := by rw [List.getD_eq_getElem?_getD, List.getElem?_eq_none (by omega)]; rfl
  rw [e]
  exact ⟨by simp, by simp⟩
theorem qGX {c : Bd} {s : Stt} (H : Ou c s) {inn : List Int} (hv : ∀ v ∈ inn, V4 v) : ∀ v ∈ Bz c s inn, V4 v := qJA (qD4 H hv)
theorem qEW {c : Bd} (h : E9 c = 0) : ∀ x ∈ mems c, 0 ≤ (nd c x).mem ∧ (nd c x).mem < c.mems.l.length ∧ 0 ≤ (nd c x).bit ∧ (nd c x).bit < (c.mems.l.getD (nd c x).mem.toNat Mm.d).data.l.length := by
 intro x hx
 obtain ⟨h0, h1, h2⟩ := Jw x hx
 have hi : x.toNat < c.nodes.l.length := by omega
 have hne := (Is (Qe h).1).2.2.1 _ (qCi h0 h1)
 have hk : (nd c x).k = 15 := by
  have := q76 [15] c.nodes.l 0 x hx
  simpa [nd] using this.2.2
 unfold Dv at hne
 rw [if_neg (by omega)] at hne
 split at hne
 ·cases hne
 split at hne
 ·cases hne
 split at hne
 ·cases hne
 split at hne
 ·cases hne
 rename_i hb
 simp [q1Y, hk] at hb
 exact hb
theorem qJB {Γ : Tables} (hΓ : GOk Γ) {c : Bd} (h : MOk c) (hn : c.nodes.l.length ≤ 19) {s : Stt} (H : Ou c s) (inn : Sl Int) (hi : inn.l.length = (E1 c).length) (hv : ∀ v ∈ inn.l, V4 v) :
  Ah Tryz.prog Γ 13 [.agg (tC c), .agg (E6 s), tV inn] (.tup [.agg (E6 (q0p c s (Bz c s inn.l))), .agg [tVs (X1 c (Bz c s inn.l)), tVs (D8 c (Bz c s inn.l))], .sl (Ai (Bz c s inn.l)) (some c.nodes.l.length) none, tI 0]) :=
 qFb hΓ c h hn s H inn hi hv (qEW h.lev) (qGX H hv) (qD4 H hv)
end Go.Lg
