/- Circuits from plain data are valid. Conditions: none. -/
import Derived.Test.YtgnomdkcimglbaaGreatDoorPkE
import Derived.Test.YtgnomdkcimglbaaGreatDoorPkD
import Derived.Test.YtgnomdkcimglbaaGreatDoorPkC
import Derived.Test.YtgnomdkcimglbaaGreatDoorProg
import Derived.KernelRfl
set_option linter.unusedSimpArgs false
set_option linter.unusedVariables false
set_option maxRecDepth 100000
namespace Go.Lg
open Go Go.Proofs
structure NG (B : Bool) (ns : List Nd) (i : Nat) (x : Nd) : Prop where
  k : 0 ≤ x.k ∧ x.k ≤ 15
  f : (Uz x.k).1 ≤ x.inn.l.length ∧ (x.inn.l.length : Int) ≤ (Uz x.k).2
  inn : ∀ p ∈ x.inn.l, 0 ≤ p ∧ p < ns.length
  top : 1 ≤ x.k ∧ x.k ≤ 13 → ∀ p ∈ x.inn.l, p < i
  bus : x.k = 13 → ∀ p ∈ x.inn.l, (ns.getD p.toNat Nd.d).k = 12
  mm : (x.k ≠ 15 → x.mem = 0 ∧ x.bit = 0) ∧ (x.k = 15 → B = true ∧ x.mem = 0 ∧ 0 ≤ x.bit ∧ x.bit ≤ 1)
theorem NG.mono {B : Bool} {ns ys : List Nd} {i : Nat} {x : Nd} (h : NG B ns i x) : NG B (ns ++ ys) i x :=
  ⟨h.k, h.f, fun p hp => by have := h.inn p hp; simp; omega, h.top, fun hk p hp => by
    have h1 := h.inn p hp
    rw [List.getD_eq_getElem?_getD, List.getElem?_append_left (by omega), ← List.getD_eq_getElem?_getD]
    exact h.bus hk p hp, h.mm⟩
def GNs (B : Bool) (ns : List Nd) : Prop := ∀ i (h : i < ns.length), NG B ns i ns[i]
theorem GNs.add {B : Bool} {ns : List Nd} {y : Nd} (h : GNs B ns) (hy : NG B (ns ++ [y]) ns.length y) : GNs B (ns ++ [y]) := by
  intro i hi
  by_cases h1 : i < ns.length
  · rw [List.getElem_append_left h1]; exact (h i h1).mono
  · have : i = ns.length := by simp at hi; omega
    subst this
    simpa using hy
theorem Um : Uz 0 = (0, 0) ∧ Uz 1 = (0, 0) ∧ Uz 2 = (0, 0) ∧ Uz 3 = (1, 1) ∧ Uz 4 = (1, 1) ∧ Uz 5 = (2, 16) ∧ Uz 6 = (2, 16) ∧ Uz 7 = (2, 16) ∧ Uz 8 = (2, 16) ∧ Uz 9 = (2, 16) ∧ Uz 10 = (2, 16) ∧ Uz 11 = (3, 3) ∧ Uz 12 = (2, 2) ∧ Uz 13 = (1, 16) ∧ Uz 14 = (1, 1) ∧ Uz 15 = (0, 0) := by decide
theorem qHg {B : Bool} {ns : List Nd} {i : Nat} : NG B ns i H5 := ⟨by decide, by decide, by simp [H5], by simp [H5], by simp [H5], by simp [H5]⟩
theorem qKk {B : Bool} {ns : List Nd} {i : Nat} {v : Int} (h : 0 ≤ v ∧ v < ns.length) : NG B ns i (q6H v) := ⟨by simp [q6H], by simp [q6H, Um], by simp [q6H]; exact h, by simp [q6H], by simp [q6H], by simp [q6H]⟩
theorem qHh {ns : List Nd} {i : Nat} {b : Int} (h : b = 0 ∨ b = 1) : NG true ns i (q5W b) := ⟨by simp [q5W], by simp [q5W, Um], by simp [q5W], by simp [q5W], by simp [q5W], by simp [q5W]; omega⟩
theorem qKl {ns : List Nd} : ∀ p ∈ q4a ns, 0 ≤ p ∧ p < ns.length ∧ (ns.getD p.toNat Nd.d).k = 12 := by
  intro p hp
  obtain ⟨h1, h2, h3⟩ := q3R [12] ns 0 p hp
  refine ⟨by omega, by omega, ?_⟩
  simpa using h3
theorem qFC {l : List Int} {q : Nat} (h : q < l.length) : l.getD q 0 ∈ l := by
  rw [List.getD_eq_getElem?_getD, List.getElem?_eq_getElem h]; exact List.getElem_mem h
theorem qJ4 {B bus : Bool} {g : Gd} {ns : List Nd} (hg : q9N g) (h0 : 1 ≤ ns.length) : NG B (ns ++ [q0J bus g ns]) ns.length (q0J bus g ns) := by
  have a := Bv (n := ns.length) hg.2.1.1 (by omega)
  have b := Bv (n := ns.length) hg.2.2.1.1 (by omega)
  have d := Bv (n := ns.length) hg.2.2.2.1 (by omega)
  have m13 : 0 ≤ g.k.tmod 13 ∧ g.k.tmod 13 < 13 := Bv (n := 13) hg.1.1 (by omega)
  have m9 : 0 ≤ g.k.tmod 9 ∧ g.k.tmod 9 < 9 := Bv (n := 9) hg.1.1 (by omega)
  have ma : 0 ≤ g.a.tmod 2 ∧ g.a.tmod 2 < 2 := Bv (n := 2) hg.2.1.1 (by omega)
  have hkk : 0 ≤ (if bus then g.k.tmod 13 else g.k.tmod 9) ∧ (if bus then g.k.tmod 13 else g.k.tmod 9) < 13 := by cases bus <;> simp <;> omega
  have ht := qKl (ns := ns)
  obtain ⟨y, hy⟩ : ∃ y, y = q0J bus g ns := ⟨_, rfl⟩
  rw [← hy]
  have hlen : (ns ++ [y]).length = ns.length + 1 := by simp
  have old : ∀ p : Int, 0 ≤ p → p < ns.length → ((ns ++ [y]).getD p.toNat Nd.d).k = (ns.getD p.toNat Nd.d).k := fun p h1 h2 => by
    rw [List.getD_eq_getElem?_getD, List.getElem?_append_left (by omega), ← List.getD_eq_getElem?_getD]
  -- what suffices of a plain gate
  have mk : ∀ (k : Int) (l : List Int) (cap : Option Nat) (nl : Option Bool), 0 ≤ k → k ≤ 15 → k ≠ 13 → k ≠ 15 → (Uz k).1 ≤ l.length → (l.length : Int) ≤ (Uz k).2 → (∀ p ∈ l, 0 ≤ p ∧ p < ns.length) → NG B (ns ++ [y]) ns.length ⟨k, ⟨l, cap, nl⟩, 0, 0⟩ := fun k l cap nl h1 h2 h3 h4 h5 h6 h7 =>
    ⟨⟨h1, h2⟩, ⟨h5, h6⟩, fun p hp => by have := h7 p hp; omega, fun _ p hp => (h7 p hp).2, fun e => absurd e h3, fun _ => ⟨rfl, rfl⟩, fun e => absurd e h4⟩
  unfold q0J q9O at hy
  simp only at hy
  generalize g.a.tmod ns.length = a' at *
  generalize g.b.tmod ns.length = b' at *
  generalize g.d.tmod ns.length = d' at *
  generalize (if bus = true then g.k.tmod 13 else g.k.tmod 9) = kk at *
  have two : ∀ p ∈ [a', b'], 0 ≤ p ∧ p < ns.length := by intro p hp; simp at hp; rcases hp with rfl | rfl; exact a; exact b
  have three : ∀ p ∈ [a', b', d'], 0 ≤ p ∧ p < ns.length := by intro p hp; simp at hp; rcases hp with rfl | rfl | rfl; exact a; exact b; exact d
  have one : ∀ p ∈ [a'], 0 ≤ p ∧ p < ns.length := by intro p hp; simp at hp; rcases hp with rfl; exact a
  split at hy
  · rename_i h6
    have hc : kk = 0 ∨ kk = 1 ∨ kk = 2 ∨ kk = 3 ∨ kk = 4 ∨ kk = 5 := by omega
    split at hy
    · rw [hy]
      have hf : (Uz (5 + kk)).1 = 2 ∧ (Uz (5 + kk)).2 = 16 := by rcases hc with rfl | rfl | rfl | rfl | rfl | rfl <;> decide
      rw [← hy]
      have := mk (5 + kk) [a', b', d'] none none (by omega) (by omega) (by omega) (by omega) (by rw [hf.1]; simp) (by rw [hf.2]; simp) three
      rw [← hy] at this; exact this
    · have hf : (Uz (5 + kk)).1 = 2 ∧ (Uz (5 + kk)).2 = 16 := by rcases hc with rfl | rfl | rfl | rfl | rfl | rfl <;> decide
      have := mk (5 + kk) [a', b'] none none (by omega) (by omega) (by omega) (by omega) (by rw [hf.1]; simp) (by rw [hf.2]; simp) two
      rw [← hy] at this; exact this
  split at hy
  · have := mk 4 [a'] none none (by omega) (by omega) (by omega) (by omega) (by simp [Um]) (by simp [Um]) one
    rw [← hy] at this; exact this
  split at hy
  · have := mk 11 [a', b', d'] none none (by omega) (by omega) (by omega) (by omega) (by simp [Um]) (by simp [Um]) three
    rw [← hy] at this; exact this
  split at hy
  · have := mk 12 [a', b'] none none (by omega) (by omega) (by omega) (by omega) (by simp [Um]) (by simp [Um]) two
    rw [← hy] at this; exact this
  split at hy
  · rename_i ht2
    generalize q4a ns = t at *
    have mt := Bv (n := t.length) hg.2.1.1 ht2.2
    have mt2 := Bv (a := g.a.tmod t.length + 1) (n := t.length) (by omega) ht2.2
    have q1 := ht _ (qFC (l := t) (q := (g.a.tmod t.length).toNat) (by omega))
    have q2 := ht _ (qFC (l := t) (q := ((g.a.tmod t.length + 1).tmod t.length).toNat) (by omega))
    generalize t.getD (g.a.tmod t.length).toNat 0 = u1 at *
    generalize t.getD ((g.a.tmod t.length + 1).tmod t.length).toNat 0 = u2 at *
    have mkb : ∀ (l : List Int) (cap : Option Nat) (nl : Option Bool), 1 ≤ l.length → l.length ≤ 16 → (∀ p ∈ l, 0 ≤ p ∧ p < ns.length ∧ (ns.getD p.toNat Nd.d).k = 12) → NG B (ns ++ [y]) ns.length ⟨13, ⟨l, cap, nl⟩, 0, 0⟩ := fun l cap nl h5 h6 h7 =>
      ⟨by simp, ⟨by simp [Um]; omega, by simp [Um]; omega⟩, fun p hp => by have := h7 p hp; omega, fun _ p hp => (h7 p hp).2.1, fun _ p hp => by rw [old p (h7 p hp).1 (h7 p hp).2.1]; exact (h7 p hp).2.2, fun _ => ⟨rfl, rfl⟩, fun e => by simp at e⟩
    split at hy
    · have := mkb [u1, u2] none none (by simp) (by simp) (by intro p hp; simp at hp; rcases hp with rfl | rfl; exact q1; exact q2)
      rw [← hy] at this; exact this
    · have := mkb [u1] none none (by simp) (by simp) (by intro p hp; simp at hp; rcases hp with rfl; exact q1)
      rw [← hy] at this; exact this
  split at hy
  · have hc : g.a.tmod 2 = 0 ∨ g.a.tmod 2 = 1 := by omega
    have hf : (Uz (1 + g.a.tmod 2)).1 = 0 ∧ (Uz (1 + g.a.tmod 2)).2 = 0 := by rcases hc with e | e <;> rw [e] <;> decide
    have := mk (1 + g.a.tmod 2) [] (some 0) (some true) (by omega) (by omega) (by omega) (by omega) (by rw [hf.1]; simp) (by rw [hf.2]; simp) (by simp)
    rw [← hy] at this; exact this
  · have := mk 3 [a'] none none (by omega) (by omega) (by omega) (by omega) (by simp [Um]) (by simp [Um]) one
    rw [← hy] at this; exact this
theorem qB9 {B bus : Bool} : ∀ {l : List Gd} {ns : List Nd}, (∀ g ∈ l, q9N g) → 1 ≤ ns.length → GNs B ns → GNs B (Ly bus l ns)
  | [], ns, _, _, h => h
  | g :: l, ns, hg, h0, h => by
    simp only [Ly]
    exact qB9 (fun y hy => hg y (List.mem_cons_of_mem _ hy)) (by simp) (h.add (qJ4 (hg g List.mem_cons_self) h0))
theorem qJ5 {B : Bool} {ns : List Nd} {j : Nat} {v : Int} (h : GNs B ns) (hj : j < ns.length) (hk : ns[j].k = 14) (hv : 0 ≤ v ∧ v < ns.length) : GNs B (Ia ns j v) := by
  have hm := (h j hj).mm.1 (by rw [hk]; decide)
  have hgd : ns.getD j Nd.d = ns[j] := by simp [List.getD_eq_getElem?_getD, hj]
  have kinds : ∀ q : Nat, ((Ia ns j v).getD q Nd.d).k = (ns.getD q Nd.d).k := fun q => by
    unfold Ia
    simp only [List.getD_eq_getElem?_getD, List.getElem?_set]
    split
    · rename_i e; subst e; simp [hj]
    · rfl
  intro i hi
  have hi' : i < ns.length := by rw [Qe] at hi; exact hi
  by_cases hij : i = j
  · subst hij
    have : (Ia ns i v)[i] = ⟨14, ⟨[v], some 1, some false⟩, 0, 0⟩ := by
      simp only [Ia, hgd, hk, hm.1, hm.2, List.getElem_set_self]
    rw [this]
    exact ⟨by simp, by simp [Um], by simp [Qe]; exact hv, by simp, by simp, by simp⟩
  · have : (Ia ns j v)[i] = ns[i] := by
      simp only [Ia]
      rw [List.getElem_set_ne (fun e => hij e.symm)]
    rw [this]
    have hn := h i hi'
    exact ⟨hn.k, hn.f, fun p hp => by rw [Qe]; exact hn.inn p hp, hn.top, fun hk p hp => by rw [kinds]; exact hn.bus hk p hp, hn.mm⟩
theorem q9j {ns : List Nd} {j q : Nat} {v : Int} : ((Ia ns j v).getD q Nd.d).k = (ns.getD q Nd.d).k := by
  unfold Ia
  simp only [List.getD_eq_getElem?_getD, List.getElem?_set]
  split
  · rename_i e; subst e
    split
    · simp
    · rename_i h; simp [List.getElem?_eq_none (Nat.le_of_not_lt h)]
  · rfl
theorem qD2 {B : Bool} {x : CD} {first : Nat} (h0 : T9 x.d0) (h1 : T9 x.d1) : ∀ {k i : Nat} {ns : List Nd}, GNs B ns → (∀ q, q < i + k → first + q < ns.length ∧ (ns.getD (first + q) Nd.d).k = 14) → GNs B (Wu x first k i ns)
  | 0, _, _, h, _ => h
  | k + 1, i, ns, h, hq => by
    simp only [Wu]
    obtain ⟨hl, hk⟩ := hq i (by omega)
    have hd : 0 ≤ ddN x i := by unfold ddN; split; exact h0.1; exact h1.1
    have hv := Bv (n := ns.length) hd (by omega)
    refine qD2 h0 h1 (qJ5 h hl (by simpa [List.getD_eq_getElem?_getD, hl] using hk) hv) fun q hq' => ?_
    rw [Qe, q9j]
    exact hq q (by omega)
theorem q3v {bus : Bool} : ∀ {l : List Gd} {ns : List Nd} {q : Nat}, q < ns.length → ((Ly bus l ns).getD q Nd.d) = (ns.getD q Nd.d)
  | [], _, _, _ => rfl
  | g :: l, ns, q, h => by
    simp only [Ly]
    rw [q3v (by simp; omega)]
    rw [List.getD_eq_getElem?_getD, List.getElem?_append_left h, ← List.getD_eq_getElem?_getD]
theorem qBv {B : Bool} {x : Nd} (h : ∀ ns : List Nd, 1 ≤ ns.length → ∀ i, NG B ns i x) : ∀ (k : Nat) {ns : List Nd}, GNs B ns → GNs B (ns ++ List.replicate k x)
  | 0, ns, hn => by simpa using hn
  | k + 1, ns, hn => by
    rw [List.replicate_succ, List.append_cons]
    exact qBv h k (hn.add (h _ (by simp) _))
theorem q0c {x : CD} (hx : q2p x) : GNs x.mem (C0 x) := by
  have m4 : 0 ≤ x.i.tmod 4 ∧ x.i.tmod 4 < 4 := Bv (n := 4) hx.i.1 (by omega)
  have m3 : 0 ≤ x.f.tmod 3 ∧ x.f.tmod 3 < 3 := Bv (n := 3) hx.f.1 (by omega)
  have g0 : GNs x.mem [] := fun i h => by simp at h
  have g1 : GNs x.mem (E5 x) := by
    have := qBv (B := x.mem) (x := H5) (fun ns _ i => qHg) (x.i.tmod 4 + 1).toNat g0
    simpa [E5] using this
  have l1 : 1 ≤ (E5 x).length := by simp [E5]; omega
  have g2 : GNs x.mem (Ci x) := qBv (fun ns h i => qKk ⟨by omega, by omega⟩) _ g1
  have l2 : (Ci x).length = (E5 x).length + (x.f.tmod 3).toNat := by simp [Ci]
  have g3 : GNs x.mem (Ce x) := by
    unfold Ce
    split
    · rename_i hm
      rw [hm] at g2 ⊢
      have a1 := g2.add (y := q5W 0) (qHh (.inl rfl))
      have a2 := a1.add (y := q5W 1) (qHh (.inr rfl))
      rw [List.append_assoc] at a2
      exact a2
    · exact g2
  have l3 : (Ci x).length ≤ (Ce x).length := by unfold Ce; split <;> simp
  have g4 : GNs x.mem (Bm x) := qB9 (fun g hg => hx.gates g (List.mem_of_mem_take hg)) (by omega) g3
  have l4 : (Ce x).length ≤ (Bm x).length := by unfold Bm; rw [Pi]; omega
  refine qD2 hx.d0 hx.d1 g4 fun q hq => ⟨by omega, ?_⟩
  unfold Bm
  rw [q3v (by omega)]
  have e : (Ce x).getD ((E5 x).length + q) Nd.d = (Ci x).getD ((E5 x).length + q) Nd.d := by
    unfold Ce
    split
    · rw [List.getD_eq_getElem?_getD, List.getElem?_append_left (by omega), ← List.getD_eq_getElem?_getD]
    · rfl
  rw [e]
  unfold Ci
  rw [List.getD_eq_getElem?_getD, List.getElem?_append_right (by omega)]
  simp only [Nat.add_sub_cancel_left]
  rw [List.getElem?_replicate, if_pos (by omega)]
  rfl
theorem Xp {α : Type} {f : α → Int} : ∀ {l : List α}, (∀ x ∈ l, f x = 0) → Di (l.map f) = 0
  | [], _ => rfl
  | x :: l, h => by
    simp only [List.map_cons, Di, h x List.mem_cons_self, ne_eq, not_true_eq_false, if_false]
    exact Xp fun y hy => h y (List.mem_cons_of_mem _ hy)
theorem qEU : ∀ n, n ≤ 16 → Gg [] ((List.range' 0 n).map Hq) = 0 := by
  intro n hn
  have : n = 0 ∨ n = 1 ∨ n = 2 ∨ n = 3 ∨ n = 4 ∨ n = 5 ∨ n = 6 ∨ n = 7 ∨ n = 8 ∨ n = 9 ∨ n = 10 ∨ n = 11 ∨ n = 12 ∨ n = 13 ∨ n = 14 ∨ n = 15 ∨ n = 16 := by omega
  rcases this with rfl | rfl | rfl | rfl | rfl | rfl | rfl | rfl | rfl | rfl | rfl | rfl | rfl | rfl | rfl | rfl | rfl <;> decide +kernel
theorem qGE {x : CD} (hx : q2p x) : Dy (Ld x) = 0 := by
  have hl := q1v hx
  have h5 := q5Y hx
  have hg := q0c hx
  have hN : (Ld x).nodes.l = C0 x := rfl
  have hmods : ∀ b, T9 b → 0 ≤ b.tmod (Bm x).length ∧ b.tmod (Bm x).length < (C0 x).length := fun b hb => by
    have := Bv (n := (Bm x).length) hb.1 (by omega); omega
  have hout : ∀ n, 0 ≤ n ∧ n < ((C0 x).length : Int) → Oh (Ld x) n = false := fun n h => by simp [Oh, hN]; omega
  have hnode : ∀ y ∈ C0 x, Dm (Ld x) y = 0 := by
    intro y hy
    obtain ⟨i, hi, rfl⟩ := List.getElem_of_mem hy
    have hn := hg i hi
    unfold Dm
    rw [if_neg (by have := hn.k; omega), if_neg (by have := hn.f; omega)]
    have h1 : (C0 x)[i].inn.l.any (Oh (Ld x)) = false := List.any_eq_false.2 fun p hp => by rw [hout p (hn.inn p hp)]; simp
    rw [h1]
    have h2 : ¬ ((C0 x)[i].k = 13 ∧ (C0 x)[i].inn.l.any (q0q (Ld x)) = true) := by
      rintro ⟨hk, ha⟩
      obtain ⟨p, hp, hq⟩ := List.any_eq_true.1 ha
      have := hn.bus hk p hp
      simp [q0q, hN] at hq
      rw [List.getD_eq_getElem?_getD] at this
      exact hq this
    rw [if_neg (by simp), if_neg h2]
    have h3 : q0B (Ld x) (C0 x)[i] = true := by
      unfold q0B
      by_cases hk : (C0 x)[i].k = 15
      · obtain ⟨hm, e1, e2, e3⟩ := hn.mm.2 hk
        simp only [hk, ne_eq, not_true_eq_false, if_false, decide_eq_true_eq]
        simp [Ld, qAK, hm, e1]
        omega
      · have := hn.mm.1 hk
        simp [hk, this]
    rw [h3]; simp
  unfold Dy
  have e1 : ¬ (16384 < (Ld x).nodes.l.length ∨ 16 < (Ld x).mems.l.length ∨ 16384 < (Ld x).outs.l.length) := by
    have : (Ld x).mems.l.length ≤ 1 := by simp only [Ld, qAK]; split <;> simp
    have : (Ld x).outs.l.length ≤ 4 := by simp [Ld]; omega
    rw [hN]; omega
  have e2 : (Ld x).names.l.length = (Ld x).nodes.l.length := by rw [hN]; simp [Ld]; omega
  rw [if_neg e1, if_neg (by simp [e2]), if_neg (by rw [hN, Xp hnode]; simp), if_neg (by
    rw [show (Ld x).names.l = (List.range' 0 (Bm x).length).map Hq from rfl, qEU _ hl.2]; simp), if_neg (by
    rw [Xp]
    · simp
    · intro m hm
      simp only [Ld, qAK] at hm
      split at hm
      · simp at hm; subst hm
        unfold Rx
        have a0 := hout _ (hmods _ hx.p0)
        have a1 := hout _ (hmods _ hx.p1)
        have a2 := hout _ (hmods _ hx.p2)
        have a3 := hout _ (hmods _ hx.p3)
        simp [Yz, a0, a1, a2, a3]
      · cases hm)]
  have ho : (Ld x).outs.l.any (Oh (Ld x)) = false := by
    refine List.any_eq_false.2 fun p hp => ?_
    have : 0 ≤ p ∧ p < ((C0 x).length : Int) := by
      simp only [Ld, List.mem_append, List.mem_map, List.mem_singleton] at hp
      rcases hp with ⟨b, hb, rfl⟩ | rfl
      · exact hmods b (hx.outs b (List.mem_of_mem_take hb))
      · omega
    rw [hout p this]; simp
  rw [ho]; rfl
theorem qBA {x : CD} (hx : q2p x) : Bi (Ld x) = 0 := by
  have hs := qGE hx
  have hg := q0c hx
  have hN : (Ld x).nodes.l = C0 x := rfl
  have hin : ∀ y ∈ (Ld x).nodes.l, ∀ p ∈ y.inn.l, 0 ≤ p ∧ p < (Ld x).nodes.l.length := by
    intro y hy p hp
    rw [hN] at hy ⊢
    obtain ⟨i, hi, rfl⟩ := List.getElem_of_mem hy
    exact (hg i hi).inn p hp
  have hd := q7q (Ld x) (Lx hs).2.1 hin (by
    intro i hi hc p hp
    rw [hN] at hi
    have e : (Ld x).nodes.l.getD i Nd.d = (C0 x)[i] := by rw [hN]; simp [List.getD_eq_getElem?_getD, hi]
    simp only [Aq, E0, e] at hc hp
    exact (hg i hi).top (by simpa [E3] using hc) p hp)
  unfold Bi
  rw [if_neg (by simp [hs]), if_neg hd]
theorem q7M {x : CD} (hx : q2p x) (hm : x.mem = false) : Ei (Ld x) = 0 := by
  have hv := qBA hx
  have hg := q0c hx
  have h1 : (Ld x).mems.l = [] := by simp [Ld, qAK, hm]
  have h2 : mems (Ld x) = [] := by
    refine List.eq_nil_iff_forall_not_mem.2 fun n hn => ?_
    obtain ⟨a, b, h3⟩ := q3R [15] (Ld x).nodes.l 0 n hn
    have hi : n.toNat < (C0 x).length := by have : (Ld x).nodes.l = C0 x := rfl; rw [this] at b; omega
    have hk : (C0 x)[n.toNat].k = 15 := by
      have : (Ld x).nodes.l = C0 x := rfl
      rw [this] at h3
      simpa [List.getD_eq_getElem?_getD, hi] using h3
    have := ((hg _ hi).mm.2 hk).1
    rw [hm] at this; cases this
  unfold Ei
  rw [if_neg (by simp [hv]), h1, h2]; simp
end Go.Lg
namespace Go.Lg
open Go Go.Proofs
variable {Γ : Tables}
structure JS where
  nodes : List Nd
  names : List (List UInt8)
  muxes : List Int
def Vt (e d b : Int) : Nd := ⟨11, ⟨[e, d, b], some 3, some false⟩, 0, 0⟩
def in0 (c : B9) (n : Int) : Int := (E0 c n.toNat).getD 0 0
def K1 (c : B9) (en : Int) (bef : List (Int × Int)) (i : Nat) (n : Int) (J : JS) : JS :=
  ⟨Ia (J.nodes ++ [Vt en (in0 c n) (Ej bef n)]) n.toNat J.nodes.length, J.names ++ [smN i], J.muxes ++ [(J.nodes.length : Int)]⟩
def q4h (c : B9) (en : Int) (bef : List (Int × Int)) : Nat → List Int → JS → JS
  | _, [], J => J
  | i, n :: l, J => q4h c en bef (i + 1) l (K1 c en bef i n J)
structure qMP (c : B9) (i : Nat) (n : Int) (J : JS) : Prop where
  nodes : J.nodes.length ≤ 100000
  names : J.names.length ≤ 100000
  muxes : J.muxes.length ≤ 100000
  nm : smN i ∉ J.names
  i100 : i < 100
  n0 : 0 ≤ n
  n1 : n < c.nodes.l.length
  n2 : n < J.nodes.length
  inn : E0 c n.toNat ≠ []
def qJ6 (c : B9) (en : Int) (bef : List (Int × Int)) : Nat → List Int → JS → Prop
  | _, [], _ => True
  | i, n :: l, J => qMP c i n J ∧ qJ6 c en bef (i + 1) l (K1 c en bef i n J)
def i8E (c : B9) (st : List Int) (sc : Option Nat) (sn : Option Bool) (i : Nat) : List (Nat × AV) :=
  [(2, .t (.ip (tC c) 0)), (4, .lp 4 0 0), (8, .lp 46 0 0), (11, .lp 11 0 0), (12, .lm 64), (116, .t (.sl (Ao st) sc sn)), (117, .t (tI st.length)), (118, .t (tI i))]
def i8R (en : Int) (S : IS) (J : JS) : List (Nat × Bl) :=
  i3G (r11 en S.cl.length J.muxes.length) (.mp (Ry J.names)) (r46 J.nodes.length J.names.length (.ls 111 0 S.outs.length none)) (.sl 33 1 (Ae Aw S.cl)) (.sl 3 1 (Ao S.ins)) (.sl 3 1 (Ao S.outs)) (.sl 3 1 (Ao J.muxes)) (.sl 104 4 (As C4 J.nodes)) (.sl 9 1 (Ae tS J.names)) S.bef
theorem qMQ {c : B9} {n : Int} (h0 : 0 ≤ n) (h : n < c.nodes.l.length) : (As C4 c.nodes.l)[n.toNat]?.getD [] = C4 (c.nodes.l.getD n.toNat Nd.d) := gN (by omega)
set_option maxHeartbeats 2000000 in
theorem qHi {Q : AX → St → Prop} (c : B9) (hcn : c.nodes.l.length ≤ 100000) (st : List Int) (hst : st.length ≤ 100) (sc : Option Nat) (sn : Option Bool) (en : Int) (S : IS) (R : JS)
    (h0 : Q (.exit 6) ⟨i8E c st sc sn st.length ++ [(119, .t (tB false))], i8R en S R⟩) :
    ∀ (k i : Nat) (J : JS), k + i = st.length → qJ6 c en S.bef i (st.drop i) J → q4h c en S.bef i (st.drop i) J = R →
    run Tryz.prog Γ Oz Q ⟨i8E c st sc sn i, i8R en S J⟩
  | 0, i, J, h, hk, hR => by
    refine O4 fun K hK => ?_
    have h3 : i = st.length := by omega
    subst h3
    rw [List.drop_of_length_le (Nat.le_refl _)] at hR
    simp only [q4h] at hR
    subst hR
    simp [i8E, i8R, i3G, Z8]
    simpa [i8E, i8R, i3G, Z8] using h0
  | k + 1, i, J, h, hk, hR => by
    refine O4 fun K hK => ?_
    have h2 : i < st.length := by omega
    rw [List.drop_eq_getElem_cons h2] at hR hk
    have e := gi1 (f := tI) h2
    rw [B2 h2] at e
    generalize st[i] = n at *
    obtain ⟨h1, h5⟩ := hk
    simp only [q4h] at hR
    have ih := qHi c hcn st hst sc sn en S R h0 k (i + 1) (K1 c en S.bef i n J) (by omega) h5 hR
    have e' : ∀ h : i < (Ao st).length, (Ao st)[i] = [tI n] := fun h => by rw [← e]; simp [h]
    have n0 := h1.n0
    have n1 := h1.n1
    have n2 := h1.n2
    have n3 : n.toNat < c.nodes.l.length := by omega
    have n4 : n.toNat < J.nodes.length := by omega
    have en1 := qMQ (c := c) n0 n1
    have en1' : ∀ h : n.toNat < (As C4 c.nodes.l).length, (As C4 c.nodes.l)[n.toNat] = C4 (c.nodes.l.getD n.toNat Nd.d) := fun h => by rw [← en1]; simp [h]
    have hin : E0 c n.toNat = (c.nodes.l.getD n.toNat Nd.d).inn.l := rfl
    have hne := h1.inn
    have hd : (Ao (c.nodes.l.getD n.toNat Nd.d).inn.l)[0]?.getD [] = [tI (in0 c n)] := by
      rw [← hin]
      cases hl : E0 c n.toNat with
      | nil => exact absurd hl hne
      | cons a l => simp [in0, hl, Ae]
    rw [hin] at hne
    have hlp : 0 < (c.nodes.l.getD n.toNat Nd.d).inn.l.length := List.length_pos_iff.2 hne
    generalize c.nodes.l.getD n.toNat Nd.d = x at *
    have hd' : ∀ h : 0 < (Ao x.inn.l).length, (Ao x.inn.l)[0] = [tI (in0 c n)] := fun h => by rw [← hd]; simp [h]
    have hb := qB8 n S.bef
    have hbf := q9g S.bef
    have c3 := q7H (Γ := Γ) i h1.i100
    have z1 := h1.nodes
    have z2 := h1.names
    have c4 := qHa (Γ := Γ) J.names J.nodes J.names S.outs (Vt en (in0 c n) (Ej S.bef n)) (smN i) (by omega) (by omega) h1.nm qJ2
    have hil : 2 + (Tv i).length ≤ 9223372036854775807 := by unfold Tv; split <;> simp
    have q1 : Ao J.muxes ++ [[tI J.nodes.length]] = Ao (J.muxes ++ [(J.nodes.length : Int)]) := By
    have tk1 : (Ao J.muxes).take J.muxes.length = Ao J.muxes := Bf
    simp [i8E, i8R, i3G, r11, r46, h2, A0, Aa, e, e', tC, Ac, Af, Bh, n0, n1, en1, en1', C4, Aw, hd, hd', hlp, hb, hbf, KT.fits]
    refine A6 c3 rfl ?_
    simp [tS, sV, qET, List.idxOf_cons, Z8]
    refine ⟨hil, ?_⟩
    simp [C4, Vt, Aw, Dh, tS, sV, smN] at c4
    have hm : (⟨11, ⟨[en, in0 c n, Ej S.bef n], some 3, some false⟩, 0, 0⟩ : Nd) = Vt en (in0 c n) (Ej S.bef n) := rfl
    rw [hm] at c4
    have hLl : (J.nodes ++ [Vt en (in0 c n) (Ej S.bef n)]).length = J.nodes.length + 1 := by simp
    have y1 := gN (l := J.nodes ++ [Vt en (in0 c n) (Ej S.bef n)]) (i := n.toNat) (by omega)
    have y2 : ∀ y : Nd, (J.nodes ++ [Vt en (in0 c n) (Ej S.bef n)]).getD n.toNat Nd.d = y → (As C4 (J.nodes ++ [Vt en (in0 c n) (Ej S.bef n)])).set n.toNat [tK y.k, .sl [[tI J.nodes.length]] (some 1) (some false), tI y.mem, tI y.bit] = As C4 (Ia (J.nodes ++ [Vt en (in0 c n) (Ej S.bef n)]) n.toNat J.nodes.length) := fun y hy => by
      unfold Ia
      rw [hy]
      exact qD1 (f := C4) (x := ⟨y.k, ⟨[(J.nodes.length : Int)], some 1, some false⟩, y.mem, y.bit⟩)
    have ihn : (K1 c en S.bef i n J).nodes = Ia (J.nodes ++ [Vt en (in0 c n) (Ej S.bef n)]) n.toNat J.nodes.length := rfl
    have ihl : (Ia (J.nodes ++ [Vt en (in0 c n) (Ej S.bef n)]) n.toNat J.nodes.length).length = J.nodes.length + 1 := by unfold Ia; simp
    simp [i8E, i8R, i3G, r11, r46, Z8, ihn, ihl, tC, Ac] at ih
    generalize J.nodes ++ [Vt en (in0 c n) (Ej S.bef n)] = L at *
    generalize Ia L n.toNat J.nodes.length = L2 at *
    have y3 := y2 _ rfl
    generalize L.getD n.toNat Nd.d = y at *
    have y1' : ∀ h : n.toNat < (As C4 L).length, (As C4 L)[n.toNat] = C4 y := fun h => by rw [← y1]; simp [h]
    have n5 : n < (J.nodes.length : Int) + 1 := by omega
    have n6 : n.toNat < J.nodes.length + 1 := by omega
    refine ⟨_, _, c4, ?_⟩
    simp [List.idxOf_cons, q14, q9i, tk1, q1, A0, Af, hLl, n0, n5, n6, y1, y1', y3, Bh, C4, Aw]
    refine ⟨by have := h1.muxes; omega, ?_⟩
    rw [A7 (by omega) (by omega), hK]
    simpa [K1, q1d, smN, Aw] using ih
def seN : List UInt8 := [115, 101]
def Vu (c : B9) : IS := ⟨c.nodes.l.map q0t ++ [H5], c.names.l ++ [seN], [], [], [], c.outs.l⟩
def Td (c : B9) (chs : List (Sl Int)) : IS := q8P 0 chs (Vu c)
def scJ (c : B9) (chs : List (Sl Int)) : JS := q4h c c.nodes.l.length (Td c chs).bef 0 (A5 c) ⟨(Td c chs).nodes, (Td c chs).names, []⟩
def C7 (c : B9) (chs : List (Sl Int)) : B9 :=
  ⟨⟨(scJ c chs).nodes, some (scJ c chs).nodes.length, none⟩, ⟨(scJ c chs).names, some (scJ c chs).names.length, none⟩, ⟨[], some 0, some true⟩, ⟨(Td c chs).outs, some (Td c chs).outs.length, if chs = [] then (if c.outs.nl = some true then some true else none) else none⟩⟩
structure qD3 (c : B9) (chs : Sl (Sl Int)) : Prop where
  ok : COk c
  cp : qKh c
  names : c.names.l.Nodup
  se : seN ∉ c.names.l
  len : chs.l.length ≤ 100
  lens : ∀ s ∈ chs.l, s.l.length ≤ 1000000000
  n16 : c.nodes.l.length ≤ 1000
  n1 : c.names.l.length ≤ 1000
  s100 : (A5 c).length ≤ 100
  ch : qHe 0 chs.l (Vu c)
  st : qJ6 c c.nodes.l.length (Td c chs.l).bef 0 (A5 c) ⟨(Td c chs.l).nodes, (Td c chs.l).names, []⟩
  both : chs.l = [] → A5 c = []
  err : Vr c chs.l = 0
def qFD (c : B9) (chs : List (Sl Int)) : T :=
  .agg (tC (C7 c chs) ++ [.sl (Ae Aw (Td c chs).cl) (some (Td c chs).cl.length) none, tI c.nodes.l.length, .sl (Ao (Td c chs).ins) (some (Td c chs).ins.length) none, .sl (Ao (scJ c chs).muxes) (some (scJ c chs).muxes.length) none])
theorem qBB (es : List (List T)) (cap : Option Nat) (nl : Option Bool) (hw : Ec 4 es) : Ai Tryz.prog Γ 88 [.sl es cap nl] (.sl es (some es.length) nl) := by
  refine Ap Oo rfl ?_
  simp [Ih, Ii, hw]
theorem q7y (es : List (List T)) (cap : Option Nat) (nl : Option Bool) (hw : Ec 1 es) : Ai Tryz.prog Γ 89 [.sl es cap nl] (.sl es (some es.length) nl) := by
  refine Ap Sm rfl ?_
  simp [Jx, Jy, hw]
theorem qD4 : ∀ {l : List (Sl Int)} {i : Nat} {S : IS}, S.ins.length = S.cl.length → (q8P i l S).ins.length = (q8P i l S).cl.length
  | [], _, _, h => h
  | s :: l, i, S, h => qD4 (l := l) (by simp [K0, h])
set_option maxHeartbeats 4000000 in
theorem q7z (hΓ : GOk Γ) (c : B9) (chs : Sl (Sl Int)) (h : qD3 c chs) : Ai Tryz.prog Γ 29 [.agg (tC c), Bn chs] (.tup [qFD c chs.l, tI 0]) := by
  refine Ap q7F rfl ?_
  have e1 := qCz hΓ c h.ok chs (by have := h.len; omega) h.lens
  rw [h.err] at e1
  have e2 := D9 (Γ := Γ) c h.ok
  have e3 := qGD (Γ := Γ) c h.cp
  have hn := h.n16
  have hn1 := h.n1
  have hm := h.len
  have hs := h.s100
  simp [q2K]
  simp [tC, Ac, Ah, Am, Aw, Bn] at e1 e2 e3
  simp [tC, Ac, Ah, Am, Aw, Bn]
  refine A6 e1 rfl ?_
  simp
  refine A8 e2 rfl ?_
  have hlim : ¬ (16384 : Int) < (c.nodes.l.length : Int) + 1 + (chs.l.length : Int) + ((A5 c).length : Int) := by omega
  simp (disch := omega) [Af, A0, A7, hlim]
  refine A8 e3 rfl ?_
  have g1 := fun Q N M O h0 => qHb (Γ := Γ) (Q := Q) (.sl (Ae Aw chs.l) chs.cap chs.nl) (.sl (Ao (A5 c)) (some (A5 c).length) none) c c.names (by omega) h.names N M O h0 c.names.l.length 0 (by omega)
  simp [tC, Ac, Ah, Am, Aw, Z8, q1d, show Ry [] = [] from rfl] at g1
  simp [qHZ, A0, cpS, show As tMm [] = [] from rfl, Dh]
  refine g1 _ _ _ _ ?_
  simp [List.idxOf_cons, sV]
  have c4 := qKi (Γ := Γ) c.names.l (c.nodes.l.map q0t) c.names.l c.outs.l (some c.outs.l.length) (if c.outs.nl = some true then some true else none) H5 seN (by simp; omega) (by omega) h.se (by simp [seN])
  simp [C4, H5, Aw, Dh, tS, sV, seN] at c4
  refine ⟨_, _, c4, ?_⟩
  simp [List.idxOf_cons, q14]
  have g5 := fun Q h0 h0t => qJ3 (Γ := Γ) (Q := Q) c (.sl (Ao (A5 c)) (some (A5 c).length) none) chs h.len c.nodes.l.length (Td c chs.l) (if c.outs.nl = some true then some true else none) (Vu c) h0 h0t rfl h.ch rfl
  have hst := h.st
  have hJ : scJ c chs.l = q4h c c.nodes.l.length (Td c chs.l).bef 0 (A5 c) ⟨(Td c chs.l).nodes, (Td c chs.l).names, []⟩ := rfl
  have hC : C7 c chs.l = ⟨⟨(scJ c chs.l).nodes, some (scJ c chs.l).nodes.length, none⟩, ⟨(scJ c chs.l).names, some (scJ c chs.l).names.length, none⟩, ⟨[], some 0, some true⟩, ⟨(Td c chs.l).outs, some (Td c chs.l).outs.length, if chs.l = [] then (if c.outs.nl = some true then some true else none) else none⟩⟩ := rfl
  unfold qFD
  rw [hC]
  have hS0 : Vu c = Td c [] := rfl
  have hSe : chs.l = [] → Td c chs.l = Vu c := fun e => by rw [e]; rfl
  have hil : (Td c chs.l).ins.length = (Td c chs.l).cl.length := qD4 rfl
  generalize Td c chs.l = S at *
  generalize scJ c chs.l = J at *
  have g7 := fun Q h0 => qHi (Γ := Γ) (Q := Q) c (by omega) (A5 c) hs (some (A5 c).length) none c.nodes.l.length S J h0 (A5 c).length 0 ⟨S.nodes, S.names, []⟩ (by omega) hst hJ.symm
  simp [i6E, i6T, i6R, i3H, i3G, r11, r46, Vu, Z8, q1d, tC, Ac, Ah, Am, Aw, Dh, H5, seN, show qBu [] = [] from rfl] at g5
  simp [i8E, i8R, i3G, r11, r46, Z8, q1d, tC, Ac, Ah, Am, Aw, Dh] at g7
  simp [A0]
  refine g5 _ (fun hne => ?_) (fun he => ?_)
  · simp [A0]
    refine g7 _ ?_
    have k1 : (Ae Aw S.cl).take S.cl.length = Ae Aw S.cl := Bf
    have k2 : (Ao S.ins).take S.cl.length = Ao S.ins := by rw [← hil]; exact Bf
    have k3 : (Ao S.outs).take S.outs.length = Ao S.outs := Bf
    have k4 : (Ao J.muxes).take J.muxes.length = Ao J.muxes := Bf
    have k5 : (As C4 J.nodes).take J.nodes.length = As C4 J.nodes := Uy
    have k6 : (Ae tS J.names).take J.names.length = Ae tS J.names := Bf
    simp [St.freeze, Bl.closed, D3, frz1, frz0, Eo, del, Ak, k1, k2, k3, k4, k5, k6]
    refine A8 (qBB (As C4 J.nodes) none none Bh) rfl ?_
    simp
    refine A8 (q7y (Ae tS J.names) none none Aa) rfl ?_
    simp
    refine A8 (Lr (Ao S.outs) none none Aa) rfl ?_
    simp
    refine A8 (qAn (Ae Aw S.cl) none none Aa) rfl ?_
    simp
    refine A8 (Lr (Ao S.ins) none none Aa) rfl ?_
    simp
    refine A8 (Lr (Ao J.muxes) none none Aa) rfl ?_
    simp [W5, tC, Ac, Ah, Am, Aw, Af, A0, hne, show As tMm [] = [] from rfl]
  · have hse : A5 c = [] := h.both he
    have hS := hSe he
    have hJe : J = ⟨S.nodes, S.names, []⟩ := by rw [hJ, hse]; rfl
    have hl0 : chs.l.length = 0 := by rw [he]; rfl
    subst hJe
    subst hS
    have k5 : (As C4 (Vu c).nodes).take (c.nodes.l.length + 1) = As C4 (Vu c).nodes := List.take_of_length_le (by simp [Vu, As])
    have k6 : (Ae tS (Vu c).names).take (c.names.l.length + 1) = Ae tS (Vu c).names := List.take_of_length_le (by simp [Vu, Ae])
    simp [Vu, H5, seN] at k5 k6
    simp [A0, hse]
    refine O4 fun K hK => ?_
    simp [A0, hse, St.freeze, Bl.closed, D3, frz1, frz0, Eo, del, Ak, k5, k6]
    refine A8 (qBB _ none none Bh) rfl ?_
    simp
    refine A8 (q7y _ none none Aa) rfl ?_
    simp
    refine A8 (Lr (Ao c.outs.l) (some c.outs.l.length) (if c.outs.nl = some true then some true else none) Aa) rfl ?_
    simp
    refine A8 (qAn [] none none q8a) rfl ?_
    simp
    refine A8 (Lr [] none none q8a) rfl ?_
    simp
    refine A8 (Lr [] none none q8a) rfl ?_
    simp [W5, tC, Ac, Ah, Am, Aw, Af, A0, he, Dh, show As tMm [] = [] from rfl]
    simp [Vu, H5, seN, Dh]
def E2 (l : List (Sl Int)) : List Int := (l.map fun s => s.l).flatten
theorem qBC : E2 [] = [] := rfl
theorem E9 {s : Sl Int} {l : List (Sl Int)} : E2 (s :: l) = s.l ++ E2 l := rfl
theorem q9k {c : B9} : ∀ {l done : List Int}, (∀ n ∈ l, 0 ≤ n ∧ n < c.nodes.l.length ∧ Aq c n.toNat = 14) → l.Nodup → (∀ n ∈ l, n ∉ done) → q0V c done l = some (done ++ l)
  | [], done, _, _, _ => by simp [q0V]
  | n :: l, done, h, hn, hd => by
    have h0 := h n List.mem_cons_self
    have hb : ¬ Na c done n = true := by
      simp [Na, h0.2.2, hd n List.mem_cons_self]; omega
    simp only [q0V, if_neg hb]
    rw [q9k (fun m hm => h m (List.mem_cons_of_mem _ hm)) (List.nodup_cons.1 hn).2 (fun m hm he => by
      rcases List.mem_append.1 he with he | he
      · exact hd m (List.mem_cons_of_mem _ hm) he
      · simp at he; subst he; exact (List.nodup_cons.1 hn).1 hm)]
    simp
theorem q80 {c : B9} : ∀ {l : List (Sl Int)} {done : List Int}, (∀ s ∈ l, s.l ≠ []) → (∀ n ∈ E2 l, 0 ≤ n ∧ n < c.nodes.l.length ∧ Aq c n.toNat = 14) → (E2 l).Nodup → (∀ n ∈ E2 l, n ∉ done) → Su c done l = some (done ++ E2 l)
  | [], done, _, _, _, _ => by simp [Su, qBC]
  | s :: l, done, hne, h, hn, hd => by
    simp only [E9] at h hn hd ⊢
    have hn' := List.nodup_append.1 hn
    simp only [Su, if_neg (hne s List.mem_cons_self)]
    rw [q9k (fun n hm => h n (List.mem_append_left _ hm)) hn'.1 (fun n hm => hd n (List.mem_append_left _ hm)), Option.bind_some]
    rw [q80 (fun t ht => hne t (List.mem_cons_of_mem _ ht)) (fun n hm => h n (List.mem_append_right _ hm)) hn'.2.1 (fun n hm he => by
      rcases List.mem_append.1 he with he | he
      · exact hd n (List.mem_append_right _ hm) he
      · exact hn'.2.2 n he n hm rfl)]
    simp
theorem qD5 {c : B9} : ∀ n ∈ A5 c, 0 ≤ n ∧ n < c.nodes.l.length ∧ Aq c n.toNat = 14 := by
  intro n hn
  obtain ⟨h1, h2, h3⟩ := q3R [14] c.nodes.l 0 n hn
  refine ⟨by omega, by omega, ?_⟩
  simpa [Aq] using h3
end Go.Lg
namespace Go.Lg
open Go Go.Proofs
theorem qEV {c : B9} {chs : List (Sl Int)} (hp : Ei c = 0) (h64 : chs.length ≤ 64) (hne : ∀ s ∈ chs, s.l ≠ []) (hperm : (E2 chs).Perm (A5 c)) : Vr c chs = 0 := by
  have hg := q80 (c := c) (l := chs) (done := []) hne (fun n hn => qD5 n (hperm.mem_iff.1 hn)) (hperm.nodup_iff.2 (qBt c)) (by simp)
  unfold Vr
  rw [if_neg (by simp [hp]), if_neg (by omega), hg]
  simp [hperm.length_eq]
end Go.Lg
namespace Go.Lg
open Go
section
variable {P : Program} {Γ : Tables} {Q : AX → St → Prop} {s : St}
/- (probecard/probecardlaw34.Case).Of (function 22) -/
abbrev q1e : IC := (.seq (.reg [od 1 (.box false (tm 0)), od 2 (.alloc false [(.slice none 0 0), (.slice none 0 0), (.slice none 0 0), (.slice none 0 0)]), od 3 (.mv kN)] [kp [1, 2] [1, 2]]) (.seq (.reg [od 5 (fa 0 1), od 6 (fa 5 5), on (.store 1 (tm
 6) kF)] [kp [1, 2] [1, 2]]) (.seq (.reg [od 7 (fa 0 1), od 8 (lG 12 7), od 9 (.call 13 [(tm 8)]), od 4 (.alloc false [(.slice none 0 0), (.slice none 0 0), (.slice none 0 0), (.slice none 0 0)]), on (.store 4 (tm 4) (tm 9))] [kp
 [1, 2, 4] [1, 2, 4]]) (.seq (.reg [od 10 (.ldR 4 4 true (tm 4)), od 11 (.ldR 4 4 true (tm 4)), od 12 (fa 12 1), od 13 (.ldR 1 1 false (tm 12)), od 14 (fa 13 1), od 15 (.ldR 1 1 false (tm 14)), od 16 (.call 72 [(tm 11), (tm 13), (tm
 15)]), on (.stR 2 4 (tm 2) (tm 10)), om 3 16] [kp [2, 3] [2]]) .ret))))
def q1f : List RV := [.cell 2 4 true, .tmp 3]
/- probecard/probecardlaw34.Chains (function 72) -/
abbrev q2b : IC := .gh (.seq (.seq (.reg [om 16 8, om 17 7, od 18 (le 0 17), od 19 (.bin .lss (tm 16) (tm 18)), om 20 19, oT 21 (.mv (tm 8)) 20, oT 22 (.mv (tm 1)) 20, oT 23 (le 0 22) 20, oT 24 (.bin .lss (tm 21) (tm 23)) 20, od 25 (.pick (tm 20) (tm
 24) kF)] [kp [1, 2, 7, 8, 25] [15]]) (.cond (tm 25) .skip (.exit 0))) (.seq (.block 1 (.seq (.reg [om 28 8, om 29 1, om 30 8, od 31 (ia 1 29 30), od 32 (ld 1 31), od 33 (.conv .i64 (tm 32)), om 34 7, od 35 (le 0 34), om 36 8, od 37
 (.bin .sub (tm 35) (tm 36)), od 38 (.bin .rem (tm 33) (tm 37)), od 39 (.bin .add (tm 28) (tm 38)), om 9 39] [kp [1, 2, 7, 8, 9] [15]]) (.reg [om 40 7, om 41 8, om 42 7, om 43 9, om 44 7, om 45 9, od 46 (ia 1 44 45), od 47 (.ldR 15
 1 false (tm 46)), om 48 7, om 49 8, od 50 (ia 1 48 49), od 51 (.ldR 15 1 false (tm 50)), od 52 (ia 1 40 41), on (.stR 15 1 (tm 52) (tm 47)), od 53 (ia 1 42 43), on (.stR 15 1 (tm 53) (tm 51))] [kp [1, 2, 7, 8] [15]]))) (.reg [om 26
 8, od 27 (.bin .add (tm 26) (ki 1)), om 8 27] [kp [1, 2, 7, 8] [15]]))) [kp [1, 2, 7, 8] [15]]
def P5 : IC := .loop q2b
abbrev q2c : IC := .gh (.seq (.seq (.reg [om 54 11, om 55 2, od 56 (le 0 55), od 57 (.bin .lss (tm 54) (tm 56)), om 58 57, oT 59 (.mv (tm 7)) 58, oT 60 (le 0 59) 58, oT 61 (.bin .gtr (tm 60) (ki 0)) 58, od 62 (.pick (tm 58) (tm 61) kF)] [kp [2, 7,
 10, 11, 62] [15, 80]]) (.cond (tm 62) .skip (.exit 2))) (.seq (.block 3 (.seq (.reg [om 65 2, om 66 11, od 67 (ia 1 65 66), od 68 (ld 1 67), od 69 (.conv .i64 (tm 68)), om 70 7, od 71 (le 0 70), od 72 (.bin .rem (tm 69) (tm 71)),
 od 73 (.bin .add (ki 1) (tm 72)), om 12 73] [kp [2, 7, 10, 11, 12] [15, 80]]) (.seq (.reg [om 74 10, om 75 7, om 76 12, od 77 (.slice 1 (tm 75) none (some (tm 76)) none), od 78 (.appT 3 1 kN (tm 77)), od 79 (.bsl true 33 1 [(tm
 78)]), od 80 (.app false 33 1 (tm 74) (tm 79)), om 10 80] [kp [2, 7, 10, 11, 12] [15, 80]]) (.reg [om 81 7, om 82 12, od 83 (.slice 1 (tm 81) (some (tm 82)) none none), om 7 83] [kp [2, 7, 10, 11] [15, 80]])))) (.reg [om 63 11, od
 64 (.bin .add (tm 63) (ki 1)), om 11 64] [kp [2, 7, 10, 11] [15, 80]]))) [kp [2, 7, 10, 11] [15, 80]]
def P6 : IC := .loop q2c
abbrev q2d : IC := (.seq (.reg [od 3 (.box true (tm 0)), od 6 (.mv kN)] [kp [1, 2, 3] []]) (.seq (.reg [od 13 (lG 4 3), od 14 (.call 27 [(tm 13)]), od 15 (.app false 3 1 kN (tm 14)), om 7 15] [kp [1, 2, 7] [15]]) (.seq (.seq (.reg [od 8 (.mv (ki 0))]
 [kp [1, 2, 7, 8] [15]]) (.block 0 P5)) (.seq (.reg [od 10 (.mv kN)] [.nl 10 80 33 1, kp [2, 7, 10] [15, 80]]) (.seq (.seq (.reg [od 11 (.mv (ki 0))] [kp [2, 7, 10, 11] [15, 80]]) (.block 2 P6)) (.seq (.seq
 (.reg [om 84 7, od 85 (le 0 84), od 86 (.bin .gtr (tm 85) (ki 0))] [kp [7, 10, 86] [15, 80]]) (.cond (tm 86) (.reg [om 87 10, om 88 7, od 89 (.appT 3 1 kN (tm 88)), od 90 (.bsl true 33 1 [(tm 89)]), oz 91 (.app false 33 1 (tm 87)
 (tm 90)) 80, om 10 91] [kp [10] [80]]) .skip)) (.seq (.reg [om 92 10, om 6 92] [kp [6] [80]]) .ret)))))))
theorem X8 (h : ∀ K : St → Prop, K = run P Γ P5 Q → run P Γ q2b (Ax K Q) s) : run P Γ P5 Q s := Aj h
theorem X9 (h : ∀ K : St → Prop, K = run P Γ P6 Q → run P Γ q2c (Ax K Q) s) : run P Γ P6 Q s := Aj h
def W8 : List RV := [.tmp 6]
end
end Go.Lg
namespace Go.Lg
open Go Go.Proofs
theorem q6c : B1 Tryz.prog 22 q1e 17 1 q1f = true := by kernel_rfl
theorem q7N : B1 Tryz.prog 72 q2d 93 3 W8 = true := by kernel_rfl
end Go.Lg
namespace Go.Lg
open Go Go.Proofs
variable {Γ : Tables}
def q56 : Nat → Nat → List Int → List Int → List Int
  | 0, _, _, l => l
  | f + 1, i, keys, l => q56 f (i + 1) keys (Ws l i (i + (keys.getD i 0).toNat % (l.length - i)))
def q21 : List Int → List Int → List (Sl Int)
  | [], l => if l = [] then [] else [⟨l, none, none⟩]
  | b :: cuts, l => if l = [] then [] else ⟨l.take (1 + b.toNat % l.length), none, none⟩ :: q21 cuts (l.drop (1 + b.toNat % l.length))
theorem q5j : ∀ (f i : Nat) (keys l : List Int), i + f ≤ l.length → (q56 f i keys l).Perm l
  | 0, _, _, l, _ => List.Perm.refl l
  | f + 1, i, keys, l, h => by
    simp only [q56]
    have hm := Nat.mod_lt (keys.getD i 0).toNat (show 0 < l.length - i by omega)
    exact (q5j f (i + 1) keys _ (by rw [q1F]; omega)).trans (q5V (by omega) (by omega))
theorem qGF {f i : Nat} {keys l : List Int} (h : i + f ≤ l.length) : (q56 f i keys l).length = l.length := (q5j f i keys l h).length_eq
theorem q9l : ∀ (cuts l : List Int), E2 (q21 cuts l) = l
  | [], l => by
    simp only [q21]
    split
    · rename_i h; rw [h]; rfl
    · simp [E2]
  | b :: cuts, l => by
    simp only [q21]
    split
    · rename_i h; rw [h]; rfl
    · rw [E9, q9l cuts]; exact List.take_append_drop _ _
theorem qFE : ∀ (cuts l : List Int), ∀ s ∈ q21 cuts l, s.l ≠ [] ∧ s.nl ≠ some true
  | [], l, s, hs => by
    simp only [q21] at hs
    split at hs
    · cases hs
    · rename_i h; simp at hs; subst hs; exact ⟨h, by simp⟩
  | b :: cuts, l, s, hs => by
    simp only [q21] at hs
    split at hs
    · cases hs
    · rename_i h
      rcases List.mem_cons.1 hs with rfl | hs
      · refine ⟨fun e => ?_, by simp⟩
        have := congrArg List.length e
        have hp : 0 < l.length := List.length_pos_iff.2 h
        rw [List.length_take, List.length_nil] at this; omega
      · exact qFE cuts _ s hs
theorem q1g : ∀ (l : List (Sl Int)), (∀ s ∈ l, s.l ≠ []) → l.length ≤ (E2 l).length ∧ ∀ s ∈ l, s.l.length ≤ (E2 l).length
  | [], _ => by simp [qBC]
  | x :: l, h => by
    obtain ⟨h1, h2⟩ := q1g l fun s hs => h s (List.mem_cons_of_mem _ hs)
    have h3 : 0 < x.l.length := List.length_pos_iff.2 (h x List.mem_cons_self)
    rw [E9, List.length_append]
    refine ⟨by simp only [List.length_cons]; omega, fun s hs => ?_⟩
    rcases List.mem_cons.1 hs with rfl | hs
    · omega
    · have := h2 s hs; omega
theorem qBD {Q : AX → St → Prop} (keys : Sl Int) (hk : ∀ b ∈ keys.l, T9 b) (a2 : T) (n : Nat) (hn : n ≤ 1000000000) (R : List Int)
    (h0 : Q (.exit 0) ⟨[(1, .t (.sl (Ae tK keys.l) keys.cap keys.nl)), (2, .t a2), (7, .ls 15 0 n none), (8, .t (tI (min n keys.l.length : Nat))), (25, .t (tB false))], [(15, .sl 3 1 (Ao R))]⟩) : ∀ (k i : Nat) (l : List Int), k + i = min n keys.l.length → q56 k i keys.l l = R → l.length = n →
    run Tryz.prog Γ P5 Q ⟨[(1, .t (.sl (Ae tK keys.l) keys.cap keys.nl)), (2, .t a2), (7, .ls 15 0 n none), (8, .t (tI i))], [(15, .sl 3 1 (Ao l))]⟩
  | 0, i, l, h, hR, hl => by
    refine X8 fun K hK => ?_
    simp only [q56] at hR
    subst hR
    have hi : i = min n keys.l.length := by omega
    by_cases h2 : i < n
    · have h3 : ¬ i < keys.l.length := by omega
      simp (disch := omega) [h2, h3, A0]
      subst hi
      simpa using h0
    · simp (disch := omega) [h2, A0]
      subst hi
      simpa using h0
  | k + 1, i, l, h, hR, hl => by
    refine X8 fun K hK => ?_
    have h2 : i < n := by omega
    have h3 : i < keys.l.length := by omega
    simp only [q56] at hR
    have ih := qBD keys hk a2 n hn R h0 k (i + 1) _ (by omega) hR (by rw [q1F]; exact hl)
    have hget := Bc (f := tK) 0 h3
    have hkg : keys.l[i]?.getD 0 = keys.l.getD i 0 := by simp [List.getD_eq_getElem?_getD]
    rw [hkg] at hget
    have hmem : keys.l.getD i 0 ∈ keys.l := by rw [B2 h3]; exact List.getElem_mem h3
    obtain ⟨b0, b1⟩ := hk _ hmem
    generalize keys.l.getD i 0 = b at *
    rw [hl] at ih
    have hm := Nat.mod_lt b.toNat (show 0 < n - i by omega)
    have hne : ¬ ((n : Int) - i = 0) := by omega
    have hmod : b.tmod ((n : Int) - i) = ((b.toNat % (n - i) : Nat) : Int) := by
      have e1 : b = (b.toNat : Int) := by omega
      have e2 : ((n : Int) - i) = ((n - i : Nat) : Int) := by omega
      rw [e2, Int.natCast_emod, ← e1]; exact Int.tmod_eq_emod_of_nonneg (by omega)
    generalize b.toNat % (n - i) = q at *
    have hj : i + q < n := by omega
    have la : i < l.length := by omega
    have lb : i + q < l.length := by omega
    have ga : l[i]?.getD 0 = l.getD i 0 := by simp [List.getD_eq_getElem?_getD]
    have gb : l[i + q]?.getD 0 = l.getD (i + q) 0 := by simp [List.getD_eq_getElem?_getD]
    have e1 := Bc (f := tI) 0 la
    have e2 := Bc (f := tI) 0 lb
    rw [ga] at e1
    rw [gb] at e2
    have hs : Ao (Ws l i (i + q)) = ((Ao l).set i [tI (l.getD (i + q) 0)]).set (i + q) [tI (l.getD i 0)] := by
      show Ae tI _ = ((Ae tI l).set _ _).set _ _
      rw [Gf, Gf]; rfl
    rw [hs] at ih
    generalize l.getD i 0 = va at *
    generalize l.getD (i + q) 0 = vb at *
    have hiq : ((i : Int) + q).toNat = i + q := by omega
    have hiq2 : (i : Int) + q < n := by omega
    simp (disch := omega) [h2, h3, A0, Aa, hget, hl, hne, hmod, e1, e2, hiq, hiq2, hj, A7]
    refine ⟨by omega, ?_⟩
    rw [hK]
    simpa using ih
theorem qD6 {Q : AX → St → Prop} (cuts : Sl Int) (hk : ∀ b ∈ cuts.l, T9 b) (L : List Int) (hL : L.length ≤ 1000000000) (R : List (Sl Int))
    (h0 : ∀ (i off len : Nat) (out : List (Sl Int)), out.length ≤ off → off + len = L.length → out ++ (if L.drop off = [] then [] else [⟨L.drop off, none, none⟩]) = R → Q (.exit 2) ⟨[(2, .t (.sl (Ae tK cuts.l) cuts.cap cuts.nl)), (7, .ls 15 off len none), (10, .ls 80 0 out.length none), (11, .t (tI i)), (62, .t (tB false))], [(15, .sl 3 1 (Ao L)), (80, .sl 33 1 (Ae Aw out))]⟩) : ∀ (k i off len : Nat) (out : List (Sl Int)), k + i = cuts.l.length → off + len = L.length → out ++ q21 (cuts.l.drop i) (L.drop off) = R → out.length ≤ off → i = out.length →
    run Tryz.prog Γ P6 Q ⟨[(2, .t (.sl (Ae tK cuts.l) cuts.cap cuts.nl)), (7, .ls 15 off len none), (10, .ls 80 0 out.length none), (11, .t (tI i))], [(15, .sl 3 1 (Ao L)), (80, .sl 33 1 (Ae Aw out))]⟩
  | 0, i, off, len, out, h, ho, hR, hl, hio => by
    refine X9 fun K hK => ?_
    have h2 : ¬ i < cuts.l.length := by omega
    rw [List.drop_of_length_le (by omega)] at hR
    simp only [q21] at hR
    simp [h2, A0]
    exact h0 i off len out hl ho hR
  | k + 1, i, off, len, out, h, ho, hR, hl, hio => by
    refine X9 fun K hK => ?_
    have h2 : i < cuts.l.length := by omega
    by_cases hlen : len = 0
    · subst hlen
      have hd : L.drop off = [] := List.drop_of_length_le (by omega)
      rw [hd] at hR
      have hR' : out ++ (if L.drop off = [] then [] else [⟨L.drop off, none, none⟩]) = R := by
        rw [hd]
        rw [List.drop_eq_getElem_cons h2] at hR
        simpa [q21] using hR
      simp [h2, A0]
      exact h0 i off 0 out hl ho hR'
    have hdl : (L.drop off).length = len := by simp; omega
    have hdn : ¬ L.drop off = [] := fun e => by rw [e] at hdl; simp at hdl; omega
    rw [List.drop_eq_getElem_cons h2] at hR
    simp only [q21, if_neg hdn, hdl] at hR
    have hget := Bc (f := tK) 0 h2
    have hkg : cuts.l[i]?.getD 0 = cuts.l[i] := by simp [h2]
    rw [hkg] at hget
    obtain ⟨b0, b1⟩ := hk _ (List.getElem_mem h2)
    generalize cuts.l[i] = b at *
    have hm := Nat.mod_lt b.toNat (show 0 < len by omega)
    have hne : ¬ (len : Int) = 0 := by omega
    have hmod : b.tmod (len : Int) = ((b.toNat % len : Nat) : Int) := by
      have e1 : b = (b.toNat : Int) := by omega
      rw [Int.natCast_emod, ← e1]; exact Int.tmod_eq_emod_of_nonneg (by omega)
    generalize b.toNat % len = q at *
    have ih := qD6 cuts hk L hL R h0 k (i + 1) (off + (1 + q)) (len - (1 + q)) (out ++ [⟨(L.drop off).take (1 + q), none, none⟩]) (by omega) (by omega) (by rw [← hR, List.append_assoc, List.drop_drop]; rfl) (by simp; omega) (by simp; omega)
    have ht : ∀ n, (Ao L).drop n = Ao (L.drop n) := fun n => qAm
    have ht2 : ∀ n (l : List Int), (Ao l).take n = Ao (l.take n) := fun n l => q72
    have htk : (Ae Aw out).take out.length = Ae Aw out := List.take_of_length_le (by rw [A0]; exact Nat.le_refl _)
    have hw : Ec 1 [[T.sl (Ao ((L.drop off).take (1 + q))) none none]] := by intro e he; simp at he; subst he; rfl
    have hsn : Ae Aw out ++ [[T.sl (Ao ((L.drop off).take (1 + q))) none none]] = Ae Aw (out ++ [⟨(L.drop off).take (1 + q), none, none⟩]) := By (f := Aw) (x := ⟨(L.drop off).take (1 + q), none, none⟩)
    have hlt : 0 < len := by omega
    have hq1 : (1 + (q : Int)).toNat = 1 + q := by omega
    simp (disch := omega) [h2, A0, Aa, hget, hne, hlen, hlt, hmod, hq1, ht, ht2, htk, hw, hsn, A7]
    refine ⟨by omega, by omega, by omega, by omega, ?_⟩
    rw [hK]
    have hq1' : (1 : Int) + q = ((1 + q : Nat) : Int) := by omega
    simpa using ih
end Go.Lg
namespace Go.Lg
open Go Go.Proofs
theorem qBE : ∀ i, i < 100 → ∀ j, j < 100 → Tv i = Tv j → i = j := by decide +kernel
theorem qFF {i j : Nat} (hi : i < 100) (hj : j < 100) (h : siN i = siN j) : i = j := qBE i hi j hj (by simpa [siN] using h)
theorem qFG {i j : Nat} (hi : i < 100) (hj : j < 100) (h : smN i = smN j) : i = j := qBE i hi j hj (by simpa [smN] using h)
def q1h : Int → List (Sl Int) → List (Int × Int)
  | _, [] => []
  | n, s :: l => Vs n s.l ++ q1h (n + 1) l
def q81 : Int → List (Sl Int) → List Int
  | _, [] => []
  | n, s :: l => U2 n s.l :: q81 (n + 1) l
def Zk (n : Nat) (k : Nat) : List Int := (List.range' n k).map fun q : Nat => (q : Int)
theorem q5k (n k : Nat) : Zk n (k + 1) = (n : Int) :: Zk (n + 1) k := by simp [Zk, List.range'_succ]
theorem qFH : ∀ (l : List (Sl Int)) (i : Nat) (S : IS), q8P i l S = ⟨S.nodes ++ List.replicate l.length H5, S.names ++ (List.range' i l.length).map siN, S.cl ++ l.map (fun s => ⟨s.l, some s.l.length, none⟩), S.ins ++ Zk S.nodes.length l.length, S.bef ++ q1h S.nodes.length l, S.outs ++ q81 S.nodes.length l⟩
  | [], i, S => by simp [q8P, Zk, q1h, q81]
  | s :: l, i, S => by
    simp only [q8P]
    rw [qFH l (i + 1)]
    simp [K0, List.replicate_succ, List.range'_succ, q5k, q1h, q81]
theorem qD7 : ∀ (l : List (Sl Int)) (i : Nat) (S : IS) (base : List (List UInt8)), S.names = base ++ (List.range' 0 i).map siN → (∀ j, j < 100 → siN j ∉ base) → i + l.length ≤ 100 → S.nodes.length ≤ 2000 + i → S.names.length ≤ 2000 + i → S.cl.length = i → S.ins.length = i → S.outs.length ≤ 2000 + i →
    (S.bef.map (·.1) ++ E2 l).Nodup → (∀ s ∈ l, s.l ≠ [] ∧ s.nl ≠ some true ∧ s.l.length ≤ 1000000) → qHe i l S
  | [], _, _, _, _, _, _, _, _, _, _, _, _, _ => trivial
  | s :: l, i, S, base, hn, hb, hi, h1, h2, h3, h4, h5, hnd, hs => by
    simp only [List.length_cons] at hi
    rw [E9, ← List.append_assoc] at hnd
    have hnd2 := hnd
    rw [List.append_assoc] at hnd2
    obtain ⟨d1, d2, d3⟩ := List.nodup_append.1 hnd2
    obtain ⟨e1, e2, e3⟩ := List.nodup_append.1 d2
    obtain ⟨s1, s2, s3⟩ := hs s List.mem_cons_self
    refine ⟨⟨⟨by omega, by omega, by omega, by omega, by omega⟩, ?_, by omega, s1, s2, s3, e1, fun n hnl hm => d3 n hm n (List.mem_append_left _ hnl) rfl⟩, ?_⟩
    · rw [hn, List.mem_append]
      rintro (h | h)
      · exact hb i (by omega) h
      · obtain ⟨j, hj, e⟩ := List.mem_map.1 h
        simp at hj
        have := qFF (by omega) (by omega) e
        omega
    · refine qD7 l (i + 1) (K0 i s S) base ?_ hb (by omega) (by simp [K0]; omega) (by simp [K0]; omega) (by simp [K0]; omega) (by simp [K0]; omega) (by simp [K0]; omega) ?_ fun x hx => hs x (List.mem_cons_of_mem _ hx)
      · simp only [K0, hn, List.append_assoc]
        rw [List.range'_concat]
        simp
      · simp only [K0, List.map_append, q5i]
        exact hnd
theorem qD8 (c : B9) (en : Int) (bef : List (Int × Int)) : ∀ (l : List Int) (i : Nat) (J : JS) (base : List (List UInt8)), J.names = base ++ (List.range' 0 i).map smN → (∀ j, j < 100 → smN j ∉ base) → i + l.length ≤ 100 → J.nodes.length ≤ 3000 + i → J.names.length ≤ 3000 + i → J.muxes.length = i →
    (∀ n ∈ l, 0 ≤ n ∧ n < c.nodes.l.length ∧ n < J.nodes.length ∧ E0 c n.toNat ≠ []) → qJ6 c en bef i l J
  | [], _, _, _, _, _, _, _, _, _, _ => trivial
  | n :: l, i, J, base, hn, hb, hi, h1, h2, h3, hs => by
    simp only [List.length_cons] at hi
    obtain ⟨s1, s2, s3, s4⟩ := hs n List.mem_cons_self
    have hlen : (K1 c en bef i n J).nodes.length = J.nodes.length + 1 := by simp [K1, Ia]
    refine ⟨⟨by omega, by omega, by omega, ?_, by omega, s1, s2, s3, s4⟩, ?_⟩
    · rw [hn, List.mem_append]
      rintro (h | h)
      · exact hb i (by omega) h
      · obtain ⟨j, hj, e⟩ := List.mem_map.1 h
        simp at hj
        have := qFG (by omega) (by omega) e
        omega
    · refine qD8 c en bef l (i + 1) (K1 c en bef i n J) base ?_ hb (by omega) (by omega) (by simp [K1]; omega) (by simp [K1]; omega) fun x hx => ?_
      · simp only [K1, hn, List.append_assoc]
        rw [List.range'_concat]
        simp
      · obtain ⟨a1, a2, a3, a4⟩ := hs x (List.mem_cons_of_mem _ hx)
        exact ⟨a1, a2, by omega, a4⟩
theorem qGG {x : CD} (hx : q2p x) : (C0 x).length ≤ 16 := by
  have m4 : 0 ≤ x.i.tmod 4 ∧ x.i.tmod 4 < 4 := Bv (n := 4) hx.i.1 (by omega)
  have m3 : 0 ≤ x.f.tmod 3 ∧ x.f.tmod 3 < 3 := Bv (n := 3) hx.f.1 (by omega)
  have l2 : (Ci x).length = (x.i.tmod 4 + 1).toNat + (x.f.tmod 3).toNat := by simp [Ci, E5]
  have l3 : (Ci x).length ≤ (Ce x).length ∧ (Ce x).length ≤ 8 := by unfold Ce; split <;> simp <;> omega
  have l4 : (Bm x).length = (Ce x).length + min 8 x.gates.l.length := by unfold Bm; rw [Pi]; simp
  have l5 : (C0 x).length = (Bm x).length := Qf
  omega
end Go.Lg
namespace Go.Lg
open Go Go.Proofs
variable {Γ : Tables}
theorem qD9 (c : B9) (hc : COk c) (keys cuts : Sl Int) (hk : ∀ b ∈ keys.l, T9 b) (hcu : ∀ b ∈ cuts.l, T9 b) :
    Ai Tryz.prog Γ 72 [.agg (tC c), .sl (Ae tK keys.l) keys.cap keys.nl, .sl (Ae tK cuts.l) cuts.cap cuts.nl] (Bn ⟨q21 cuts.l (q56 (min (A5 c).length keys.l.length) 0 keys.l (A5 c)), none, none⟩) := by
  refine Ap q7N rfl ?_
  have hsl := qER c
  have hcn := hc.nodes
  have hpl := qGF (f := min (A5 c).length keys.l.length) (i := 0) (keys := keys.l) (l := A5 c) (by omega)
  have g1 := fun Q h0 => qBD (Γ := Γ) (Q := Q) keys hk (.sl (Ae tK cuts.l) cuts.cap cuts.nl) (A5 c).length (by omega) _ h0 (min (A5 c).length keys.l.length) 0 (A5 c) (by omega) rfl rfl
  generalize q56 (min (A5 c).length keys.l.length) 0 keys.l (A5 c) = L at *
  have g2 := fun Q h0 => qD6 (Γ := Γ) (Q := Q) cuts hcu L (by omega) (q21 cuts.l L) h0 cuts.l.length 0 0 L.length [] (by omega) (by omega) (by simp) (by simp) rfl
  simp [q2d, tC, Ac, Ah, Am, Aw]
  refine A8 (D9 c hc) rfl ?_
  simp [A0, Aa]
  simp only [hpl] at g2
  refine ⟨by omega, g1 _ ?_⟩
  simp
  refine g2 _ fun i off len out h1 h2 h3 => ?_
  have hdl : (L.drop off).length = len := by rw [List.length_drop]; omega
  by_cases hlen : len = 0
  · have hd : L.drop off = [] := List.drop_of_length_le (by omega)
    rw [hd, if_pos rfl, List.append_nil] at h3
    generalize q21 cuts.l L = R at *
    subst h3
    have htk : (Ae Aw out).take out.length = Ae Aw out := Bf
    simp [hlen, W8, Ak, htk, Bn]
  · have hdn : ¬ L.drop off = [] := fun e => by rw [e] at hdl; simp at hdl; omega
    rw [if_neg hdn] at h3
    have hlt : 0 < len := by omega
    have htk : (Ae Aw out).take out.length = Ae Aw out := Bf
    have ht : (Ao L).drop off = Ao (L.drop off) := qAm
    have ht2 : (Ao (L.drop off)).take len = Ao (L.drop off) := List.take_of_length_le (by rw [A0, hdl]; exact Nat.le_refl _)
    have hw : Ec 1 [[T.sl (Ao (L.drop off)) none none]] := by intro e he; simp at he; subst he; rfl
    have hsn : Ae Aw out ++ [[T.sl (Ao (L.drop off)) none none]] = Ae Aw (out ++ [⟨L.drop off, none, none⟩]) := By (f := Aw) (x := ⟨L.drop off, none, none⟩)
    have hww : Ec 1 (Ao (L.drop off)) := Aa
    rw [h3] at hsn
    have hRl : (q21 cuts.l L).length = out.length + 1 := by rw [← h3]; simp
    have htk2 : (Ae Aw (q21 cuts.l L)).take (out.length + 1) = Ae Aw (q21 cuts.l L) := by rw [← hRl]; exact Bf
    have hol : out.length ≤ 1000000000 := by omega
    have hol1 : (out.length : Int) + 1 = ((out.length + 1 : Nat) : Int) := by omega
    clear h3
    generalize q21 cuts.l L = R at *
    simp [hlen, hlt, A0, ht, ht2, htk, hw, hww, hsn, hdl]
    refine ⟨by omega, by omega, ?_⟩
    simp [W8, Ak, htk2, Bn]
structure q0d where
  x : CD
  keys : Sl Int
  cuts : Sl Int
def La (y : q0d) : List T := I9 y.x ++ [.sl (Ae tK y.keys.l) y.keys.cap y.keys.nl, .sl (Ae tK y.cuts.l) y.cuts.cap y.cuts.nl]
structure q22 (y : q0d) : Prop where
  x : q2p y.x
  keys : ∀ b ∈ y.keys.l, T9 b
  cuts : ∀ b ∈ y.cuts.l, T9 b
def Ji (x : CD) : CD := { x with mem := false }
def Fa (y : q0d) : B9 := Ld (Ji y.x)
def q23 (y : q0d) : List (Sl Int) := q21 y.cuts.l (q56 (min (A5 (Fa y)).length y.keys.l.length) 0 y.keys.l (A5 (Fa y)))
theorem q1i {x : CD} (h : q2p x) : q2p (Ji x) := ⟨h.i, h.f, h.d0, h.d1, h.p0, h.p1, h.p2, h.p3, h.gates, h.outs⟩
theorem q82 (y : q0d) (hy : q22 y) : Ai Tryz.prog Γ 22 [.agg (La y)] (.tup [.agg (tC (Fa y)), Bn ⟨q23 y, none, none⟩]) := by
  refine Ap q6c rfl ?_
  have hx := q1i hy.x
  have e1 := qIu (Γ := Γ) (Ji y.x) hx
  have hc := qBn hx
  have e2 := qD9 (Γ := Γ) (Fa y) hc y.keys y.cuts hy.keys hy.cuts
  unfold q23
  have hcc : Ld (Ji y.x) = Fa y := rfl
  rw [hcc] at e1
  generalize Fa y = c at *
  simp [q1e, La, I9]
  simp [I9, Ji] at e1
  refine A8 e1 rfl ?_
  simp [tC, Ac, Ah, Am, Aw]
  simp [tC, Ac, Ah, Am, Aw] at e2
  refine A8 e2 rfl ?_
  simp [q1f, Ak]
end Go.Lg
namespace Go.Lg
open Go Go.Proofs
theorem q6d {a b : List Nd} {q : Nat} (h : q < a.length) : (a ++ b).getD q Nd.d = a.getD q Nd.d := by
  rw [List.getD_eq_getElem?_getD, List.getElem?_append_left h, ← List.getD_eq_getElem?_getD]
theorem qBF {a b : List Nd} {q : Nat} (h : a.length ≤ q) : (a ++ b).getD q Nd.d = b.getD (q - a.length) Nd.d := by
  rw [List.getD_eq_getElem?_getD, List.getElem?_append_right h, ← List.getD_eq_getElem?_getD]
theorem qHj {a : List Nd} {j q : Nat} {v : Int} (h : j < a.length) : (Ia a j v).getD q Nd.d = if q = j then ⟨(a.getD j Nd.d).k, ⟨[v], some 1, some false⟩, (a.getD j Nd.d).mem, (a.getD j Nd.d).bit⟩ else a.getD q Nd.d := by
  unfold Ia
  rw [List.getD_eq_getElem?_getD, List.getElem?_set]
  by_cases e : j = q
  · subst e; simp [h]
  · rw [if_neg e, if_neg (fun h => e h.symm), ← List.getD_eq_getElem?_getD]
theorem qFI (c : B9) (en : Int) (bef : List (Int × Int)) : ∀ (l : List Int) (i : Nat) (J : JS), l.Nodup → (∀ n ∈ l, 0 ≤ n ∧ n < J.nodes.length) →
    (q4h c en bef i l J).nodes.length = J.nodes.length + l.length ∧ (q4h c en bef i l J).names = J.names ++ (List.range' i l.length).map smN ∧ (q4h c en bef i l J).muxes = J.muxes ++ Zk J.nodes.length l.length ∧
    (∀ q, q < J.nodes.length → (q : Int) ∉ l → (q4h c en bef i l J).nodes.getD q Nd.d = J.nodes.getD q Nd.d) ∧
    (∀ k, k < l.length → (q4h c en bef i l J).nodes.getD (l.getD k 0).toNat Nd.d = ⟨(J.nodes.getD (l.getD k 0).toNat Nd.d).k, ⟨[((J.nodes.length + k : Nat) : Int)], some 1, some false⟩, (J.nodes.getD (l.getD k 0).toNat Nd.d).mem, (J.nodes.getD (l.getD k 0).toNat Nd.d).bit⟩) ∧
    (∀ k, k < l.length → (q4h c en bef i l J).nodes.getD (J.nodes.length + k) Nd.d = Vt en (in0 c (l.getD k 0)) (Ej bef (l.getD k 0)))
  | [], i, J, _, _ => ⟨rfl, by simp [q4h], by simp [q4h, Zk], fun q _ _ => rfl, fun k h => by simp at h, fun k h => by simp at h⟩
  | n :: l, i, J, hnd, hs => by
    obtain ⟨hn1, hn2⟩ := List.nodup_cons.1 hnd
    obtain ⟨n0, n1⟩ := hs n List.mem_cons_self
    have hlen : (K1 c en bef i n J).nodes.length = J.nodes.length + 1 := by simp [K1, Ia]
    obtain ⟨a1, a2, a3, a4, a5, a6⟩ := qFI c en bef l (i + 1) (K1 c en bef i n J) hn2 fun x hx => by
      have := hs x (List.mem_cons_of_mem _ hx)
      exact ⟨this.1, by omega⟩
    have hlt : n.toNat < (J.nodes ++ [Vt en (in0 c n) (Ej bef n)]).length := by simp; omega
    have hst : ∀ q, (K1 c en bef i n J).nodes.getD q Nd.d = if q = n.toNat then ⟨(J.nodes.getD n.toNat Nd.d).k, ⟨[(J.nodes.length : Int)], some 1, some false⟩, (J.nodes.getD n.toNat Nd.d).mem, (J.nodes.getD n.toNat Nd.d).bit⟩ else (J.nodes ++ [Vt en (in0 c n) (Ej bef n)]).getD q Nd.d := fun q => by
      simp only [K1]
      rw [qHj hlt, q6d (by omega)]
    simp only [q4h]
    refine ⟨by rw [a1, hlen]; simp; omega, ?_, ?_, ?_, ?_, ?_⟩
    · rw [a2]; simp [K1, List.range'_succ]
    · rw [a3, hlen]; simp only [K1, List.append_assoc, List.length_cons, q5k]; rfl
    · intro q hq hm
      rw [a4 q (by omega) fun h => hm (List.mem_cons_of_mem _ h), hst, if_neg (fun e => hm (by have : (q : Int) = n := (by omega); rw [this]; exact List.mem_cons_self)), q6d hq]
    · intro k hk
      cases k with
      | zero =>
        simp only [List.getD_cons_zero]
        rw [a4 n.toNat (by omega) fun h => hn1 (by have : ((n.toNat : Nat) : Int) = n := (by omega); rw [this] at h; exact h), hst, if_pos rfl]
        rfl
      | succ k =>
        simp only [List.getD_cons_succ]
        have hk' : k < l.length := by simpa using hk
        have hin : l.getD k 0 ∈ l := by rw [B2 hk']; exact List.getElem_mem _
        have hb := hs _ (List.mem_cons_of_mem _ hin)
        have hne : ¬ (l.getD k 0).toNat = n.toNat := fun e => hn1 (by have : l.getD k 0 = n := (by omega); rw [← this]; exact hin)
        rw [a5 k hk', hst, if_neg hne, q6d (by omega), hlen]
        congr 4
        omega
    · intro k hk
      cases k with
      | zero =>
        simp only [List.getD_cons_zero, Nat.add_zero]
        rw [a4 J.nodes.length (by omega) fun h => by have := (hs _ (List.mem_cons_of_mem _ h)).2; omega, hst, if_neg (by omega), qBF (Nat.le_refl _)]
        simp
      | succ k =>
        simp only [List.getD_cons_succ]
        have hk' : k < l.length := by simpa using hk
        rw [← a6 k hk', hlen]
        congr 1
        omega
theorem qHk {c : B9} (hg : GNs false c.nodes.l) (hm : c.mems.l = []) (hn : c.nodes.l.length ≤ 16384) (ho : c.outs.l.length ≤ 16384 ∧ ∀ p ∈ c.outs.l, 0 ≤ p ∧ p < c.nodes.l.length) (hnm : c.names.l.length = c.nodes.l.length) (hne : Gg [] c.names.l = 0) : Bi c = 0 := by
  have hout : ∀ n, 0 ≤ n ∧ n < (c.nodes.l.length : Int) → Oh c n = false := fun n h => by simp [Oh]; omega
  have hnode : ∀ y ∈ c.nodes.l, Dm c y = 0 := by
    intro y hy
    obtain ⟨i, hi, rfl⟩ := List.getElem_of_mem hy
    have hn := hg i hi
    unfold Dm
    rw [if_neg (by have := hn.k; omega), if_neg (by have := hn.f; omega)]
    have h1 : c.nodes.l[i].inn.l.any (Oh c) = false := List.any_eq_false.2 fun p hp => by rw [hout p (hn.inn p hp)]; simp
    rw [h1]
    have h2 : ¬ (c.nodes.l[i].k = 13 ∧ c.nodes.l[i].inn.l.any (q0q c) = true) := by
      rintro ⟨hk, ha⟩
      obtain ⟨p, hp, hq⟩ := List.any_eq_true.1 ha
      have := hn.bus hk p hp
      simp only [q0q, decide_eq_true_eq] at hq
      exact hq this
    rw [if_neg (by simp), if_neg h2]
    have h3 : q0B c c.nodes.l[i] = true := by
      unfold q0B
      by_cases hk : c.nodes.l[i].k = 15
      · have := (hn.mm.2 hk).1
        cases this
      · have := hn.mm.1 hk
        simp [hk, this]
    rw [h3]; simp
  have hs : Dy c = 0 := by
    unfold Dy
    rw [if_neg (by rw [hm]; simp; omega), if_neg (by simp [hnm]), if_neg (by rw [Xp hnode]; simp), if_neg (by rw [hne]; simp), if_neg (by rw [hm]; simp [Di])]
    have : c.outs.l.any (Oh c) = false := List.any_eq_false.2 fun p hp => by rw [hout p (ho.2 p hp)]; simp
    rw [this]; rfl
  have hd := q7q c (Lx hs).2.1 (q9R hs) (by
    intro i hi hc p hp
    have e : c.nodes.l.getD i Nd.d = c.nodes.l[i] := by simp [List.getD_eq_getElem?_getD, hi]
    simp only [Aq, E0, e] at hc hp
    exact (hg i hi).top (by simpa [E3] using hc) p hp)
  unfold Bi
  rw [if_neg (by simp [hs]), if_neg hd]
structure Em (c : B9) (ch : List (Sl Int)) : Prop where
  ok : COk c
  cp : qKh c
  good : GNs false c.nodes.l
  n1 : 1 ≤ c.nodes.l.length
  n2 : c.nodes.l.length ≤ 16
  nms : c.names.l = (List.range' 0 c.nodes.l.length).map Hq
  outs : c.outs.l.length ≤ 4 ∧ ∀ p ∈ c.outs.l, 0 ≤ p ∧ p < c.nodes.l.length
  perm : (E2 ch).Perm (A5 c)
  ne : ∀ s ∈ ch, s.l ≠ [] ∧ s.nl ≠ some true
theorem qDA {B : Bool} {ns : List Nd} (h : GNs B ns) {i : Nat} (hi : i < ns.length) : NG B ns i (ns.getD i Nd.d) := by
  have := h i hi
  rwa [show ns.getD i Nd.d = ns[i] by simp [List.getD_eq_getElem?_getD, hi]]
/-! The nodes are lists that tell whether they are nil. -/
def SNs (ns : List Nd) : Prop := ∀ x ∈ ns, q0s x.inn
theorem Nc {l : List Int} (h : l ≠ []) (h2 : l.length ≤ 1000000) : q0s (⟨l, none, none⟩ : Sl Int) := ⟨(fun h => nomatch h), (fun _ => h), h2⟩
theorem qBG {l : List Int} {c : Option Nat} (h2 : l.length ≤ 1000000) : q0s (⟨l, c, some false⟩ : Sl Int) := ⟨(fun h => nomatch h), (fun h => nomatch h), h2⟩
theorem qDB {c : Option Nat} : q0s (⟨[], c, some true⟩ : Sl Int) := ⟨(fun _ => rfl), (fun h => nomatch h), by simp⟩
theorem qHl {bus : Bool} {g : Gd} {ns : List Nd} : q0s (q0J bus g ns).inn := by
  unfold q0J q9O
  generalize (if bus = true then g.k.tmod 13 else g.k.tmod 9) = kk
  by_cases h1 : kk < 6
  · simp only [h1, if_true]
    split
    · exact Nc (by simp) (by simp)
    · exact Nc (by simp) (by simp)
  · simp only [h1, if_false]
    split
    · exact Nc (by simp) (by simp)
    split
    · exact Nc (by simp) (by simp)
    split
    · exact Nc (by simp) (by simp)
    split
    · by_cases h2 : 1 < (q4a ns).length
      · simp only [h2, if_true]
        exact Nc (by simp) (by simp)
      · simp only [h2, if_false]
        exact Nc (by simp) (by simp)
    split
    · exact qDB
    · exact Nc (by simp) (by simp)
theorem qBH {bus : Bool} : ∀ {l : List Gd} {ns : List Nd}, SNs ns → SNs (Ly bus l ns)
  | [], ns, h => h
  | g :: l, ns, h => by
    simp only [Ly]
    refine qBH fun x hx => ?_
    rcases List.mem_append.1 hx with hx | hx
    · exact h x hx
    · simp at hx; subst hx; exact qHl
theorem qDC {x : CD} {first : Nat} : ∀ {k i : Nat} {ns : List Nd}, SNs ns → SNs (Wu x first k i ns)
  | 0, _, _, h => h
  | k + 1, i, ns, h => by
    simp only [Wu]
    refine qDC fun y hy => ?_
    rcases List.mem_or_eq_of_mem_set hy with hy | rfl
    · exact h y hy
    · exact qBG (by simp)
theorem qGH {x : CD} (hm : x.mem = false) : SNs (C0 x) := by
  unfold C0 Bm Ce
  rw [hm]
  refine qDC (qBH fun y hy => ?_)
  simp only [Bool.false_eq_true, if_false, Ci, E5, List.mem_append, List.mem_replicate] at hy
  rcases hy with ⟨_, rfl⟩ | ⟨_, rfl⟩
  · exact qDB
  · exact qBG (by simp)
theorem q7O {y : q0d} (hy : q22 y) : Em (Fa y) (q23 y) := by
  have hx := q1i hy.x
  have hN : (Fa y).nodes.l = C0 (Ji y.x) := rfl
  have hl4 := q1v hx
  have h54 : (C0 (Ji y.x)).length = (Bm (Ji y.x)).length := Qf
  have h16 : (C0 (Ji y.x)).length ≤ 16 := qGG hx
  have hpe := q5j (min (A5 (Fa y)).length y.keys.l.length) 0 y.keys.l (A5 (Fa y)) (by omega)
  have hmods : ∀ b, T9 b → 0 ≤ b.tmod (Bm (Ji y.x)).length ∧ b.tmod (Bm (Ji y.x)).length < ((C0 (Ji y.x)).length : Int) := fun b hb => by
    have := Bv (n := (Bm (Ji y.x)).length) hb.1 (by omega); omega
  have hout : ∀ p ∈ (Fa y).outs.l, 0 ≤ p ∧ p < ((Fa y).nodes.l.length : Int) := fun p hp => by
    rw [hN]
    simp only [Fa, Ld, List.mem_append, List.mem_map, List.mem_singleton] at hp
    rcases hp with ⟨b, hb, rfl⟩ | rfl
    · exact hmods b (hx.outs b (List.mem_of_mem_take hb))
    · omega
  have hol : (Fa y).outs.l.length ≤ 4 := by simp [Fa, Ld]; omega
  have hne : (C0 (Ji y.x)) ≠ [] := List.length_pos_iff.1 (by omega)
  have hnl : (Fa y).names.l.length = (Bm (Ji y.x)).length := by simp [Fa, Ld]
  refine ⟨qBn hx, ⟨hne, by rw [hN]; omega, (fun h => nomatch h), List.length_pos_iff.1 (by omega), by omega, (fun h => nomatch h), rfl, ?_, Nc (by simp) (by simp; omega)⟩, q0c hx, by rw [hN]; omega, by rw [hN]; omega, ?_, ⟨hol, hout⟩, ?_, qFE _ _⟩
  · exact qGH (x := Ji y.x) rfl
  · show (List.range' 0 (Bm (Ji y.x)).length).map Hq = (List.range' 0 (C0 (Ji y.x)).length).map Hq
    rw [h54]
  · unfold q23; rw [q9l]; exact hpe
theorem qBI : ∀ (l : List Int) (a : Int), ∀ p ∈ Vs a l, p.2 = a ∨ p.2 ∈ l
  | [], a, p, h => by cases h
  | n :: l, a, p, h => by
    simp only [Vs, List.mem_cons] at h
    rcases h with rfl | h
    · exact .inl rfl
    · rcases qBI l n p h with e | e
      · exact .inr (by rw [e]; exact List.mem_cons_self)
      · exact .inr (List.mem_cons_of_mem _ e)
theorem qDD : ∀ (l : List (Sl Int)) (b : Int), ∀ p ∈ q1h b l, (b ≤ p.2 ∧ p.2 < b + l.length) ∨ p.2 ∈ E2 l
  | [], b, p, h => by cases h
  | s :: l, b, p, h => by
    simp only [q1h, List.mem_append] at h
    rw [E9]
    rcases h with h | h
    · rcases qBI s.l b p h with e | e
      · exact .inl ⟨by omega, by simp; omega⟩
      · exact .inr (List.mem_append_left _ e)
    · rcases qDD l (b + 1) p h with e | e
      · exact .inl ⟨by omega, by simp; omega⟩
      · exact .inr (List.mem_append_right _ e)
theorem qGI (l : List (Int × Int)) (n : Int) : Ej l n = 0 ∨ ∃ p ∈ l, Ej l n = p.2 := by
  unfold Ej
  cases h : l.find? (fun p => p.1 == n) with
  | none => exact .inl rfl
  | some p => exact .inr ⟨p, List.mem_of_find?_eq_some h, rfl⟩
def m0 (c : B9) (ch : List (Sl Int)) : Nat := c.nodes.l.length + 1 + ch.length
theorem qHm {l : List Nd} {q : Nat} (h : q < l.length) : (l.map q0t).getD q Nd.d = q0t (l.getD q Nd.d) := by
  simp [List.getD_eq_getElem?_getD, h]
structure ScF (c : B9) (ch : List (Sl Int)) : Prop where
  chl : ch.length ≤ 16
  stl : (A5 c).length ≤ 16
  sn : (Td c ch).nodes = c.nodes.l.map q0t ++ [H5] ++ List.replicate ch.length H5
  snl : (Td c ch).nodes.length = m0 c ch
  snm : (Td c ch).names = c.names.l ++ [seN] ++ (List.range' 0 ch.length).map siN
  cl : (Td c ch).cl = ch.map (fun s => ⟨s.l, some s.l.length, none⟩)
  ins : (Td c ch).ins = Zk (c.nodes.l.length + 1) ch.length
  bef : (Td c ch).bef = q1h (c.nodes.l.length + 1 : Nat) ch
  outs : (Td c ch).outs = c.outs.l ++ q81 (c.nodes.l.length + 1 : Nat) ch
  len : (scJ c ch).nodes.length = m0 c ch + (A5 c).length
  nm : (scJ c ch).names = c.names.l ++ [seN] ++ (List.range' 0 ch.length).map siN ++ (List.range' 0 (A5 c).length).map smN
  mux : (scJ c ch).muxes = Zk (m0 c ch) (A5 c).length
  old : ∀ q, q < c.nodes.l.length → Aq c q ≠ 14 → (scJ c ch).nodes.getD q Nd.d = q0t (c.nodes.l.getD q Nd.d)
  dff : ∀ q, q < c.nodes.l.length → Aq c q = 14 → (scJ c ch).nodes.getD q Nd.d = ⟨14, ⟨[((m0 c ch + M3 14 c q : Nat) : Int)], some 1, some false⟩, (c.nodes.l.getD q Nd.d).mem, (c.nodes.l.getD q Nd.d).bit⟩
  inp : ∀ q, c.nodes.l.length ≤ q → q < m0 c ch → (scJ c ch).nodes.getD q Nd.d = H5
  mx : ∀ k, k < (A5 c).length → (scJ c ch).nodes.getD (m0 c ch + k) Nd.d = Vt c.nodes.l.length (in0 c ((A5 c).getD k 0)) (Ej (q1h (c.nodes.l.length + 1 : Nat) ch) ((A5 c).getD k 0))
theorem scF {c : B9} {ch : List (Sl Int)} (h : Em c ch) : ScF c ch := by
  have hsl : (A5 c).length ≤ c.nodes.l.length := Xf _ _ _
  have hn2 := h.n2
  have hle := q1g ch fun s hs => (h.ne s hs).1
  have hpl := h.perm.length_eq
  have hS : Td c ch = _ := qFH ch 0 (Vu c)
  have s1 : (Td c ch).nodes = c.nodes.l.map q0t ++ [H5] ++ List.replicate ch.length H5 := by rw [hS]; rfl
  have s2 : (Td c ch).nodes.length = m0 c ch := by rw [s1]; simp [m0]; omega
  have s3 : (Td c ch).names = c.names.l ++ [seN] ++ (List.range' 0 ch.length).map siN := by rw [hS]; rfl
  have l0 : (Vu c).nodes.length = c.nodes.l.length + 1 := by simp [Vu]
  have s4 : (Td c ch).bef = q1h (c.nodes.l.length + 1 : Nat) ch := by
    rw [hS]; show ([] : List (Int × Int)) ++ q1h ((Vu c).nodes.length) ch = _
    rw [l0]; rfl
  have hnd : (A5 c).Nodup := (Dz [14] c.nodes.l 0).2
  have hin : ∀ n ∈ A5 c, 0 ≤ n ∧ n < (Td c ch).nodes.length := fun n hn => by
    have := Hj (k := 14) (c := c) n hn
    rw [s2]; unfold m0; omega
  obtain ⟨a1, a2, a3, a4, a5, a6⟩ := qFI c c.nodes.l.length (Td c ch).bef (A5 c) 0 ⟨(Td c ch).nodes, (Td c ch).names, []⟩ hnd hin
  have hJ : scJ c ch = q4h c c.nodes.l.length (Td c ch).bef 0 (A5 c) ⟨(Td c ch).nodes, (Td c ch).names, []⟩ := rfl
  rw [← hJ] at a1 a2 a3 a4 a5 a6
  simp only [s2] at a1 a3 a4 a5 a6
  have hg : ∀ q, q < c.nodes.l.length → (Td c ch).nodes.getD q Nd.d = q0t (c.nodes.l.getD q Nd.d) := fun q hq => by
    rw [s1, List.append_assoc, q6d (by simpa using hq), qHm hq]
  refine ⟨by omega, by omega, s1, s2, s3, by rw [hS]; rfl, ?_, s4, ?_, a1, by rw [a2, s3], by rw [a3]; rfl, ?_, ?_, ?_, ?_⟩
  · rw [hS]; show ([] : List Int) ++ Zk (Vu c).nodes.length ch.length = _
    rw [l0]; rfl
  · rw [hS]; show c.outs.l ++ q81 ((Vu c).nodes.length) ch = _
    rw [l0]
  · intro q hq hk
    rw [a4 q (by unfold m0; omega) fun hm => hk ((q4K hq).1 hm), hg q hq]
  · intro q hq hk
    obtain ⟨r1, r2⟩ := q4J hq hk
    have := a5 (M3 14 c q) r1
    have e : (A5 c).getD (M3 14 c q) 0 = (q : Int) := r2
    rw [e] at this
    simp only [Int.toNat_natCast] at this
    rw [this, hg q hq]
    have hk' : (c.nodes.l.getD q Nd.d).k = 14 := hk
    simp only [q0t, hk']
  · intro q h1 h2
    rw [a4 q h2 fun hm => by have := (Hj (k := 14) (c := c) _ hm).2.1; omega]
    rw [s1, List.append_assoc, qBF (by simpa using h1)]
    simp only [List.length_map]
    have h3 : q - c.nodes.l.length < ([H5] ++ List.replicate ch.length H5).length := by simp; unfold m0 at h2; omega
    have : ∀ x ∈ [H5] ++ List.replicate ch.length H5, x = H5 := fun x hx => by
      rcases List.mem_append.1 hx with hx | hx
      · simpa using hx
      · exact (List.mem_replicate.1 hx).2
    rw [List.getD_eq_getElem?_getD, List.getElem?_eq_getElem h3]
    exact this _ (List.getElem_mem h3)
  · intro k hk
    rw [← s4]
    exact a6 k hk
end Go.Lg
namespace Go.Lg
open Go Go.Proofs
variable {c : B9} {ch : List (Sl Int)}
theorem qJ7 (h : Em c ch) (n : Int) : 0 ≤ Ej (q1h (c.nodes.l.length + 1 : Nat) ch) n ∧ Ej (q1h (c.nodes.l.length + 1 : Nat) ch) n < m0 c ch := by
  have hf := scF h
  unfold m0
  rcases qGI (q1h (c.nodes.l.length + 1 : Nat) ch) n with e | ⟨p, hp, e⟩
  · rw [e]; omega
  · rw [e]
    rcases qDD ch _ p hp with e2 | e2
    · omega
    · have := Hj (k := 14) (c := c) _ (h.perm.mem_iff.1 e2)
      omega
theorem qEW (h : Em c ch) {n : Int} (hn : n ∈ A5 c) : ∃ v, E0 c n.toNat = [v] ∧ 0 ≤ v ∧ v < c.nodes.l.length ∧ in0 c n = v := by
  obtain ⟨n0, n1, nk⟩ := Hj (k := 14) (c := c) n hn
  have hg := qDA h.good (i := n.toNat) (by omega)
  have hk : (c.nodes.l.getD n.toNat Nd.d).k = 14 := nk
  have hf := hg.f
  rw [hk, show Uz 14 = (1, 1) by rfl] at hf
  have hi : E0 c n.toNat = (c.nodes.l.getD n.toNat Nd.d).inn.l := rfl
  rw [← hi] at hf
  have hr := hg.inn
  rw [← hi] at hr
  match hl : E0 c n.toNat with
  | [] => rw [hl] at hf; simp at hf
  | [v] =>
    rw [hl] at hr
    have := hr v (by simp)
    exact ⟨v, rfl, this.1, this.2, by simp [in0, hl]⟩
  | _ :: _ :: _ => rw [hl] at hf; simp at hf; omega
theorem qBw (h : Em c ch) {q : Nat} (hq : q < c.nodes.l.length) : ((scJ c ch).nodes.getD q Nd.d).k = Aq c q := by
  have hf := scF h
  by_cases hk : Aq c q = 14
  · rw [hf.dff q hq hk]; exact hk.symm
  · rw [hf.old q hq hk]; rfl
theorem qFJ (h : Em c ch) : GNs false (scJ c ch).nodes := by
  have hf := scF h
  intro q hq
  have hql := hf.len
  have e : (scJ c ch).nodes[q] = (scJ c ch).nodes.getD q Nd.d := by simp [List.getD_eq_getElem?_getD, hq]
  rw [e]
  by_cases h1 : q < c.nodes.l.length
  · have hg := qDA h.good h1
    by_cases hk : Aq c q = 14
    · obtain ⟨r1, r2⟩ := q4J h1 hk
      have hk' : (c.nodes.l.getD q Nd.d).k = 14 := hk
      have hmm := hg.mm
      rw [hk'] at hmm
      have r1' : M3 14 c q < (A5 c).length := r1
      rw [hf.dff q h1 hk]
      refine ⟨by simp, by simp [show Uz 14 = (1, 1) by rfl], ?_, fun h => by simp at h, fun h => by simp at h, hmm⟩
      intro p hp
      simp at hp
      subst hp
      rw [hql]; omega
    · rw [hf.old q h1 hk]
      refine ⟨hg.k, hg.f, fun p hp => ?_, hg.top, fun hb p hp => ?_, hg.mm⟩
      · have := hg.inn p hp; rw [hql]; unfold m0; omega
      · have hr := hg.inn p hp
        rw [qBw h (by omega)]
        exact hg.bus hb p hp
  · by_cases h2 : q < m0 c ch
    · rw [hf.inp q (by omega) h2]
      exact qHg
    · obtain ⟨k, rfl⟩ : ∃ k, q = m0 c ch + k := ⟨q - m0 c ch, by omega⟩
      have hkl : k < (A5 c).length := by omega
      rw [hf.mx k hkl]
      have hm : (A5 c).getD k 0 ∈ A5 c := by rw [B2 hkl]; exact List.getElem_mem _
      obtain ⟨v, hv, v0, v1, v2⟩ := qEW h hm
      have hb := qJ7 h ((A5 c).getD k 0)
      rw [v2]
      have hm0 : c.nodes.l.length < m0 c ch := by unfold m0; omega
      refine ⟨by simp [Vt], by simp [Vt, show Uz 11 = (3, 3) by rfl], ?_, ?_, fun h => by simp [Vt] at h, by simp [Vt]⟩
      · intro p hp
        simp only [Vt, List.mem_cons, List.not_mem_nil, or_false] at hp
        rw [hql]
        rcases hp with rfl | rfl | rfl <;> omega
      · intro _ p hp
        simp only [Vt, List.mem_cons, List.not_mem_nil, or_false] at hp
        rcases hp with rfl | rfl | rfl <;> omega
theorem q57 : ∀ (l done : List (List UInt8)), (∀ s ∈ l, W2 s = true) → (done ++ l).Nodup → Gg done l = 0
  | [], _, _, _ => rfl
  | s :: l, done, h, hn => by
    have h1 := h s List.mem_cons_self
    have h2 : s ∉ done := fun hm => (List.nodup_append.1 hn).2.2 s hm s List.mem_cons_self rfl
    simp only [Gg]
    rw [if_neg (by simp [h1, h2])]
    exact q57 l (done ++ [s]) (fun x hx => h x (List.mem_cons_of_mem _ hx)) (by rw [List.append_assoc]; exact hn)
theorem q9m : ∀ i, i < 100 → W2 (Hq i) = true ∧ W2 (siN i) = true ∧ W2 (smN i) = true := by decide +kernel
theorem qHn : ∀ i, i < 100 → (∀ b ∈ Hq i, b < 128) ∧ (∀ b ∈ siN i, b < 128) ∧ ∀ b ∈ smN i, b < 128 := by decide +kernel
theorem qBJ : ∀ i, i < 100 → ∀ j, j < 100 → Hq i = Hq j → i = j := by decide +kernel
theorem q4N {α : Type} {f : Nat → α} {n : Nat} (hf : ∀ i, i < n → ∀ j, j < n → f i = f j → i = j) : ((List.range' 0 n).map f).Nodup := by
  rw [List.nodup_iff_pairwise_ne, List.pairwise_map]
  refine (List.Pairwise.imp_of_mem ?_ (List.nodup_iff_pairwise_ne.1 (List.nodup_range' (s := 0) (n := n) (step := 1))))
  intro a b ha hb hab e
  simp at ha hb
  exact hab (hf a (by omega) b (by omega) e)
theorem qDE (h : Em c ch) : (scJ c ch).names.Nodup ∧ ∀ s ∈ (scJ c ch).names, W2 s = true ∧ ∀ b ∈ s, b < 128 := by
  have hf := scF h
  have hn2 := h.n2
  have hc := hf.chl
  have hs := hf.stl
  rw [hf.nm, h.nms]
  constructor
  · have n1 : ((List.range' 0 c.nodes.l.length).map Hq).Nodup := q4N fun i hi j hj e => qBJ i (by omega) j (by omega) e
    have n2 : ((List.range' 0 ch.length).map siN).Nodup := q4N fun i hi j hj e => qFF (by omega) (by omega) e
    have n3 : ((List.range' 0 (A5 c).length).map smN).Nodup := q4N fun i hi j hj e => qFG (by omega) (by omega) e
    refine List.nodup_append.2 ⟨List.nodup_append.2 ⟨List.nodup_append.2 ⟨n1, by simp, ?_⟩, n2, ?_⟩, n3, ?_⟩
    · intro a ha b hb e
      obtain ⟨i, _, rfl⟩ := List.mem_map.1 ha
      simp at hb
      rw [hb] at e
      simp [Hq, seN] at e
    · intro a ha b hb e
      obtain ⟨j, _, rfl⟩ := List.mem_map.1 hb
      rcases List.mem_append.1 ha with ha | ha
      · obtain ⟨i, _, rfl⟩ := List.mem_map.1 ha
        simp [Hq, siN] at e
      · simp at ha
        rw [ha] at e
        simp [siN, seN] at e
    · intro a ha b hb e
      obtain ⟨j, _, rfl⟩ := List.mem_map.1 hb
      rcases List.mem_append.1 ha with ha | ha
      · rcases List.mem_append.1 ha with ha | ha
        · obtain ⟨i, _, rfl⟩ := List.mem_map.1 ha
          simp [Hq, smN] at e
        · simp at ha
          rw [ha] at e
          simp [smN, seN] at e
      · obtain ⟨i, _, rfl⟩ := List.mem_map.1 ha
        simp [siN, smN] at e
  · intro s hs'
    rcases List.mem_append.1 hs' with hs' | hs'
    · rcases List.mem_append.1 hs' with hs' | hs'
      · rcases List.mem_append.1 hs' with hs' | hs'
        · obtain ⟨i, hi, rfl⟩ := List.mem_map.1 hs'
          simp at hi
          exact ⟨(q9m i (by omega)).1, (qHn i (by omega)).1⟩
        · simp at hs'
          subst hs'
          exact ⟨by decide +kernel, by decide⟩
      · obtain ⟨i, hi, rfl⟩ := List.mem_map.1 hs'
        simp at hi
        exact ⟨(q9m i (by omega)).2.1, (qHn i (by omega)).2.1⟩
    · obtain ⟨i, hi, rfl⟩ := List.mem_map.1 hs'
      simp at hi
      exact ⟨(q9m i (by omega)).2.2, (qHn i (by omega)).2.2⟩
theorem q7P : ∀ (l : List Int) (a : Int), l ≠ [] → U2 a l = l.getLastD 0 ∧ U2 a l ∈ l
  | [], _, h => absurd rfl h
  | [n], a, _ => ⟨rfl, by simp [U2]⟩
  | n :: m :: l, a, _ => by
    have := q7P (m :: l) n (by simp)
    simp only [U2] at this ⊢
    refine ⟨?_, List.mem_cons_of_mem _ this.2⟩
    rw [this.1]; simp [List.getLastD]
theorem qDF : ∀ (l : List (Sl Int)) (b : Int), (∀ s ∈ l, s.l ≠ []) → q81 b l = l.map fun s => s.l.getLastD 0
  | [], _, _ => rfl
  | s :: l, b, h => by
    simp only [q81, List.map_cons]
    rw [(q7P s.l b (h s List.mem_cons_self)).1, qDF l (b + 1) fun x hx => h x (List.mem_cons_of_mem _ hx)]
theorem qFK (h : Em c ch) {s : Sl Int} (hs : s ∈ ch) : s.l.getLastD 0 ∈ s.l ∧ 0 ≤ s.l.getLastD 0 ∧ s.l.getLastD 0 < c.nodes.l.length ∧ Aq c (s.l.getLastD 0).toNat = 14 := by
  have h1 := q7P s.l 0 (h.ne s hs).1
  rw [← h1.1]
  have hm : U2 0 s.l ∈ E2 ch := by
    unfold E2
    exact List.mem_flatten.2 ⟨s.l, List.mem_map.2 ⟨s, hs, rfl⟩, h1.2⟩
  have := Hj (k := 14) (c := c) _ (h.perm.mem_iff.1 hm)
  exact ⟨h1.2, this⟩
theorem q6e (h : Em c ch) : (C7 c ch).outs.l = c.outs.l ++ ch.map fun s => s.l.getLastD 0 := by
  show (Td c ch).outs = _
  rw [(scF h).outs, qDF _ _ fun s hs => (h.ne s hs).1]
theorem q3w (h : Em c ch) : Bi (C7 c ch) = 0 := by
  have hf := scF h
  have hn2 := h.n2
  have ho := h.outs
  have hc := hf.chl
  have hs := hf.stl
  have hN : (C7 c ch).nodes.l = (scJ c ch).nodes := rfl
  have hnl : (C7 c ch).nodes.l.length = m0 c ch + (A5 c).length := hf.len
  refine qHk (qFJ h) rfl (by rw [hnl]; unfold m0; omega) ⟨?_, ?_⟩ ?_ ?_
  · rw [q6e h]; simp; omega
  · intro p hp
    rw [q6e h] at hp
    rw [hnl]
    rcases List.mem_append.1 hp with hp | hp
    · have := ho.2 p hp; unfold m0; omega
    · obtain ⟨s, hs', rfl⟩ := List.mem_map.1 hp
      have := qFK h hs'
      unfold m0; omega
  · rw [hnl]
    show (scJ c ch).names.length = _
    rw [hf.nm, h.nms]; simp [m0]; omega
  · have := qDE h
    exact q57 _ [] (fun s hs => (this.2 s hs).1) (by rw [List.nil_append]; exact this.1)
theorem qKm (h : Em c ch) : COk (C7 c ch) := by
  have hf := scF h
  have hn2 := h.n2
  have ho := h.outs
  have hc := hf.chl
  have hs := hf.stl
  have hg := qFJ h
  have hN : (C7 c ch).nodes.l = (scJ c ch).nodes := rfl
  have hnl : (C7 c ch).nodes.l.length = m0 c ch + (A5 c).length := hf.len
  have hfl := fun k : Int => qHH k
  refine ⟨⟨by rw [hnl]; unfold m0; omega, ?_, by show ([] : List Mm).length ≤ _; simp, by rw [q6e h]; simp; omega, ?_, ?_, fun m hm => by cases hm⟩, fun s hs => ((qDE h).2 s hs).2⟩
  · show (scJ c ch).names.length ≤ _
    rw [hf.nm, h.nms]; simp; omega
  · intro x hx
    obtain ⟨i, hi, rfl⟩ := List.getElem_of_mem hx
    have := (hg i hi).k
    show 0 ≤ (scJ c ch).nodes[i].k ∧ (scJ c ch).nodes[i].k ≤ 255
    omega
  · intro x hx
    obtain ⟨i, hi, rfl⟩ := List.getElem_of_mem hx
    have := (hg i hi).f
    have h3 := hfl ((scJ c ch).nodes[i]'hi).k
    show (scJ c ch).nodes[i].inn.l.length ≤ _
    omega
theorem qDG (h : Em c ch) (hp : Ei c = 0) (cap : Option Nat) (nl : Option Bool) : qD3 c ⟨ch, cap, nl⟩ := by
  have hf := scF h
  have hn2 := h.n2
  have hc := hf.chl
  have hs := hf.stl
  have ho := h.outs
  have hle := q1g ch fun s hs => (h.ne s hs).1
  have hpl := h.perm.length_eq
  have hnd : (E2 ch).Nodup := h.perm.nodup_iff.2 (Dz [14] c.nodes.l 0).2
  have n1 : ((List.range' 0 c.nodes.l.length).map Hq).Nodup := q4N fun i hi j hj e => qBJ i (by omega) j (by omega) e
  have hnn : c.names.l.length = c.nodes.l.length := by rw [h.nms]; simp
  refine ⟨h.ok, h.cp, by rw [h.nms]; exact n1, ?_, by show ch.length ≤ _; omega, fun s hs => by have := hle.2 s hs; omega, by omega, by omega, by omega, ?_, ?_, ?_, ?_⟩
  · rw [h.nms]
    intro hm
    obtain ⟨i, _, e⟩ := List.mem_map.1 hm
    simp [Hq, seN] at e
  · refine qD7 ch 0 (Vu c) (c.names.l ++ [seN]) (by simp [Vu]) ?_ (by omega) (by simp [Vu]; omega) (by simp [Vu]; omega) rfl rfl (by simp [Vu]; omega) (by simpa [Vu] using hnd) fun s hs => ⟨(h.ne s hs).1, (h.ne s hs).2, by have := hle.2 s hs; omega⟩
    intro j hj hm
    rw [h.nms] at hm
    rcases List.mem_append.1 hm with hm | hm
    · obtain ⟨i, _, e⟩ := List.mem_map.1 hm
      simp [Hq, siN] at e
    · simp [siN, seN] at hm
  · refine qD8 c c.nodes.l.length (Td c ch).bef (A5 c) 0 ⟨(Td c ch).nodes, (Td c ch).names, []⟩ (Td c ch).names (by simp) ?_ (by omega) ?_ ?_ rfl ?_
    · intro j hj hm
      rw [hf.snm, h.nms] at hm
      rcases List.mem_append.1 hm with hm | hm
      · rcases List.mem_append.1 hm with hm | hm
        · obtain ⟨i, _, e⟩ := List.mem_map.1 hm
          simp [Hq, smN] at e
        · simp [smN, seN] at hm
      · obtain ⟨i, _, e⟩ := List.mem_map.1 hm
        simp [siN, smN] at e
    · show (Td c ch).nodes.length ≤ _
      rw [hf.snl]; unfold m0; omega
    · show (Td c ch).names.length ≤ _
      rw [hf.snm]; simp; omega
    · intro n hn
      have := Hj (k := 14) (c := c) n hn
      obtain ⟨v, hv, _⟩ := qEW h hn
      refine ⟨this.1, this.2.1, ?_, by rw [hv]; simp⟩
      show n < (Td c ch).nodes.length
      rw [hf.snl]; unfold m0; omega
  · intro he
    have he : ch = [] := he
    have : (E2 ch).length = 0 := by rw [he]; rfl
    exact List.eq_nil_of_length_eq_zero (by omega)
  · exact qEV hp (by show ch.length ≤ 64; omega) (fun s hs => (h.ne s hs).1) h.perm
theorem Un (ks : List Int) : ∀ (a b : List Nd) (i : Nat), a.map (·.k) = b.map (·.k) → Jv ks a i = Jv ks b i
  | [], [], _, _ => rfl
  | [], _ :: _, _, h => by cases h
  | _ :: _, [], _, h => by cases h
  | x :: a, y :: b, i, h => by
    simp only [List.map_cons, List.cons.injEq] at h
    simp only [Jv, h.1, Un ks a b (i + 1) h.2]
theorem Zl (ks : List Int) (x : Nd) (h : ks.contains x.k = false) : ∀ (m i : Nat), Jv ks (List.replicate m x) i = []
  | 0, _ => rfl
  | m + 1, i => by simp only [List.replicate_succ, Jv, h, Zl ks x h m (i + 1)]; rfl
theorem q6f (ks : List Int) (x : Nd) (h : ks.contains x.k = true) : ∀ (m i : Nat), Jv ks (List.replicate m x) i = Zk i m
  | 0, _ => rfl
  | m + 1, i => by simp only [List.replicate_succ, Jv, h, if_true, q5k, q6f ks x h m (i + 1)]
theorem q4O (l : List Nd) (j : Nat) : (l.map (·.k)).getD j 0 = (l.getD j Nd.d).k := by
  rw [List.getD_eq_getElem?_getD, List.getD_eq_getElem?_getD, List.getElem?_map]
  cases l[j]? <;> rfl
theorem Uo {a b : List Int} (hl : a.length = b.length) (h : ∀ j, j < a.length → a.getD j 0 = b.getD j 0) : a = b := by
  refine List.ext_getElem hl fun i h1 h2 => ?_
  have := h i h1
  rwa [B2 h1, B2 h2] at this
def q3x (c : B9) (ch : List (Sl Int)) : List Nd := c.nodes.l ++ (List.replicate (1 + ch.length) H5 ++ List.replicate (A5 c).length (Vt 0 0 0))
theorem q6g (h : Em c ch) : (C7 c ch).nodes.l.map (·.k) = (q3x c ch).map (·.k) := by
  have hf := scF h
  have hlen : (C7 c ch).nodes.l.length = m0 c ch + (A5 c).length := hf.len
  have hll : (q3x c ch).length = m0 c ch + (A5 c).length := by simp [q3x, m0]; omega
  refine Uo (by simp [hlen, hll]) fun j hj => ?_
  rw [List.length_map, hlen] at hj
  rw [q4O, q4O]
  show ((scJ c ch).nodes.getD j Nd.d).k = _
  by_cases h1 : j < c.nodes.l.length
  · rw [qBw h h1]
    unfold q3x
    rw [List.getD_eq_getElem?_getD (l := c.nodes.l ++ _), List.getElem?_append_left h1, ← List.getD_eq_getElem?_getD]; rfl
  · unfold q3x
    rw [List.getD_eq_getElem?_getD (l := c.nodes.l ++ _), List.getElem?_append_right (by omega)]
    by_cases h2 : j < m0 c ch
    · rw [hf.inp j (by omega) h2, List.getElem?_append_left (by rw [List.length_replicate]; unfold m0 at h2; omega), List.getElem?_replicate, if_pos (by unfold m0 at h2; omega)]; rfl
    · obtain ⟨k, rfl⟩ : ∃ k, j = m0 c ch + k := ⟨j - m0 c ch, by omega⟩
      rw [hf.mx k (by omega), List.getElem?_append_right (by rw [List.length_replicate]; unfold m0 at h2 ⊢; omega), List.getElem?_replicate, if_pos (by rw [List.length_replicate]; unfold m0 at h2 hj ⊢; omega)]; rfl
theorem qGJ (h : Em c ch) : Az (C7 c ch) = Az c ++ Zk c.nodes.l.length (1 + ch.length) := by
  show Jv [0] (C7 c ch).nodes.l 0 = _
  rw [Un _ _ _ _ (q6g h), q3x, Kq, Kq, q6f [0] H5 rfl, Zl [0] (Vt 0 0 0) rfl, List.append_nil, Nat.zero_add]
  rfl
theorem Dc (h : Em c ch) : A5 (C7 c ch) = A5 c := by
  show Jv [14] (C7 c ch).nodes.l 0 = _
  rw [Un _ _ _ _ (q6g h), q3x, Kq, Kq, Zl [14] H5 rfl, Zl [14] (Vt 0 0 0) rfl, List.append_nil, List.append_nil]
  rfl
theorem qFL (h : Em c ch) (i : Nat) : ((C7 c ch).nodes.l.take i).map (·.k) = ((q3x c ch).take i).map (·.k) := by
  rw [List.map_take, List.map_take, q6g h]
theorem qFM (h : Em c ch) (k : Int) {i : Nat} (hi : i ≤ c.nodes.l.length) : M3 k (C7 c ch) i = M3 k c i := by
  unfold M3
  rw [Un _ _ _ _ (qFL h i), q3x, List.take_append_of_le_length hi]
theorem qBK (n m : Nat) : (Zk n m).length = m := by simp [Zk]
theorem qEX (h : Em c ch) {q : Nat} (hq : q < 1 + ch.length) : M3 0 (C7 c ch) (c.nodes.l.length + q) = (Az c).length + q := by
  unfold M3
  rw [Un _ _ _ _ (qFL h _), q3x, List.take_append, Kq, List.take_append, List.take_replicate]
  have e1 : c.nodes.l.length + q - c.nodes.l.length = q := by omega
  have e2 : min q (1 + ch.length) = q := by omega
  have e3 : q - (1 + ch.length) = 0 := by omega
  rw [List.length_replicate, e1, e2, e3, List.take_zero, List.append_nil, q6f [0] H5 rfl, List.length_append, qBK, List.take_of_length_le (by omega)]
  rfl
theorem qJ8 (h : Em c ch) {q : Nat} (h1 : c.nodes.l.length ≤ q) (h2 : q < m0 c ch) : Aq (C7 c ch) q = 0 := by
  show ((scJ c ch).nodes.getD q Nd.d).k = 0
  rw [(scF h).inp q h1 h2]; rfl
theorem qJ9 (h : Em c ch) {q : Nat} (hq : q < c.nodes.l.length) (hk : Aq c q ≠ 14) : E0 (C7 c ch) q = E0 c q := by
  show ((scJ c ch).nodes.getD q Nd.d).inn.l = _
  rw [(scF h).old q hq hk]; rfl
theorem q7Q (h : Em c ch) : (C7 c ch).nodes.l.length = c.nodes.l.length + 1 + ch.length + (A5 c).length := (scF h).len
theorem q3y (h : Em c ch) {pin v : List Int} {e : Int} (h1 : pin.length = (Az c).length) (hv : v.length = ch.length) : (pin ++ ([e] ++ v)).length = (Az (C7 c ch)).length := by
  rw [qGJ h, List.length_append, List.length_append, List.length_append, qBK, h1, hv]; simp
theorem qBx (h : Em c ch) (hp : Bi c = 0) {pin pst v : List Int} {e : Int} (h1 : pin.length = (Az c).length) (h2 : pst.length = (A5 c).length) (hv : v.length = ch.length) :
    ∀ i, i < c.nodes.l.length → (An (C7 c ch) (pin ++ ([e] ++ v)) pst).getD i 0 = (An c pin pst).getD i 0 := by
  have f1 := q1K (q3w h) (pin ++ ([e] ++ v)) pst
  have f2 := q1K hp pin pst
  have hl := q7Q h
  have hin := q3y h (e := e) h1 hv
  have hst : pst.length = (A5 (C7 c ch)).length := by rw [Dc h]; exact h2
  refine qF4 hp fun i hi hq => ?_
  have hi' : i < (C7 c ch).nodes.l.length := by omega
  have hk : Aq (C7 c ch) i = Aq c i := qBw h hi
  rw [f1.2 i hi', f2.2 i hi, hk]
  by_cases hc : E3 (Aq c i) = true
  · rw [if_pos hc, if_pos hc]
    have h14 : Aq c i ≠ 14 := fun h => by rw [h] at hc; exact absurd hc (by decide)
    congr 1
    unfold S1
    rw [qJ9 h hi h14]
    exact List.map_congr_left fun p hp => (hq hc p hp).2
  · rw [if_neg hc, if_neg hc, q6L hin hst hi', q6L h1 h2 hi, hk]
    by_cases h0 : Aq c i = 0
    · have hr := (q4J hi h0).1
      have hr' : M3 0 c i < pin.length := by rw [h1]; exact hr
      rw [if_pos h0, if_pos h0, qFM h 0 (by omega), List.getD_eq_getElem?_getD, List.getElem?_append_left hr', ← List.getD_eq_getElem?_getD]
    · rw [if_neg h0, if_neg h0, qFM h 14 (by omega)]
theorem q7R (h : Em c ch) {pin pst v : List Int} {e : Int} (h1 : pin.length = (Az c).length) (h2 : pst.length = (A5 c).length) (hv : v.length = ch.length) {q : Nat} (hq : q < 1 + ch.length) :
    (An (C7 c ch) (pin ++ ([e] ++ v)) pst).getD (c.nodes.l.length + q) 0 = ([e] ++ v).getD q 0 := by
  have f1 := q1K (q3w h) (pin ++ ([e] ++ v)) pst
  have hl := q7Q h
  have hin := q3y h (e := e) h1 hv
  have hst : pst.length = (A5 (C7 c ch)).length := by rw [Dc h]; exact h2
  have hi' : c.nodes.l.length + q < (C7 c ch).nodes.l.length := by omega
  have hk : Aq (C7 c ch) (c.nodes.l.length + q) = 0 := qJ8 h (by omega) (by unfold m0; omega)
  rw [f1.2 _ hi', hk, if_neg (by decide), q6L hin hst hi', if_pos hk, qEX h hq, List.getD_eq_getElem?_getD, List.getElem?_append_right (by omega), ← List.getD_eq_getElem?_getD]
  congr 1; omega
theorem qGK (h : Em c ch) {pin pst : List Int} {k : Nat} (hk : k < (A5 c).length) :
    (An (C7 c ch) pin pst).getD (m0 c ch + k) 0 = Tt 11 [(An (C7 c ch) pin pst).getD c.nodes.l.length 0, (An (C7 c ch) pin pst).getD (in0 c ((A5 c).getD k 0)).toNat 0, (An (C7 c ch) pin pst).getD (Ej (q1h (c.nodes.l.length + 1 : Nat) ch) ((A5 c).getD k 0)).toNat 0] := by
  have f1 := q1K (q3w h) pin pst
  have hl := q7Q h
  have hi' : m0 c ch + k < (C7 c ch).nodes.l.length := by unfold m0; omega
  have hm : (C7 c ch).nodes.l.getD (m0 c ch + k) Nd.d = _ := (scF h).mx k hk
  have hkd : Aq (C7 c ch) (m0 c ch + k) = 11 := by unfold Aq; rw [hm]; rfl
  have hin : E0 (C7 c ch) (m0 c ch + k) = [(c.nodes.l.length : Int), in0 c ((A5 c).getD k 0), Ej (q1h (c.nodes.l.length + 1 : Nat) ch) ((A5 c).getD k 0)] := by unfold E0; rw [hm]; rfl
  have h2 := f1.2 _ hi'
  rw [hkd, if_pos (by decide)] at h2
  rw [h2]
  unfold S1
  rw [hin]
  rfl
end Go.Lg
namespace Go.Lg
open Go Go.Proofs
variable {Γ : Tables}
def nd (c : B9) (n : Int) : Nd := c.nodes.l.getD n.toNat Nd.d
theorem qHo {c : B9} {n : Int} (h0 : 0 ≤ n) (h : n < c.nodes.l.length) : (As C4 c.nodes.l)[n.toNat]?.getD [] = C4 (nd c n) := by
  rw [D8 Nd.d (by omega)]; simp [nd, List.getD_eq_getElem?_getD]
theorem qKn {c : B9} {n : Int} (h0 : 0 ≤ n) (h : n < c.nodes.l.length) : nd c n ∈ c.nodes.l := by
  have hi : n.toNat < c.nodes.l.length := by omega
  have : nd c n = c.nodes.l[n.toNat] := by simp [nd, List.getD_eq_getElem?_getD, hi]
  rw [this]; exact List.getElem_mem hi
def q5l : AV := .t (.sl [] (some 0) (some true))
def qDH (c : B9) (n : Nat) (nets inb : List Int) : List (Nat × Bl) := [(4, .bx [q5l, q5l]), (9, .bx (Xn c 34 n (some n))), (34, .sl 68 1 (Av nets)), (39, .sl 68 1 (Av inb))]
def q9n (c : B9) (n : Nat) (x : Nd) (nets inb : List Int) : List (Nat × Bl) := [(4, .bx [q5l, q5l]), (9, .bx (Xn c 34 n (some n))), (13, .bx ((C4 x).map .t)), (34, .sl 68 1 (Av nets)), (39, .sl 68 1 (Av inb))]
theorem qDI {Q : AX → St → Prop} (c : B9) (n : Nat) (hn : n ≤ 1000000000) (x : Nd) (hx : x.inn.l.length ≤ 1000000) (hin : ∀ k ∈ x.inn.l, 0 ≤ k ∧ k < n) (nets : List Int) (hl : nets.length = n) (nn : Int) (t40 t41 t42 : T) (R : List Int)
    (h0 : ∀ X : List Int, X.take x.inn.l.length = R → R.length = x.inn.l.length → Q (.exit 2) ⟨[(4, .lp 4 0 0), (9, .lp 9 0 0), (10, .ls 39 0 x.inn.l.length none), (12, .t (tI nn)), (13, .lp 13 0 0), (40, .t t40), (41, .t t41), (42, .t t42), (59, .t (Aw x.inn)), (60, .t (tI x.inn.l.length)), (61, .t (tI x.inn.l.length)), (62, .t (tB false))], q9n c n x nets X⟩) :
    ∀ (k i : Nat) (X : List Int), k + i = x.inn.l.length → i ≤ X.length → X.take i ++ (x.inn.l.drop i).map (fun k => nets.getD k.toNat 0) = R →
    run Tryz.prog Γ q0O Q ⟨[(4, .lp 4 0 0), (9, .lp 9 0 0), (10, .ls 39 0 i none), (12, .t (tI nn)), (13, .lp 13 0 0), (40, .t t40), (41, .t t41), (42, .t t42), (59, .t (Aw x.inn)), (60, .t (tI x.inn.l.length)), (61, .t (tI i))], q9n c n x nets X⟩
  | 0, i, X, h, hi, hR => by
    refine q2E fun K hK => ?_
    have h2 : i = x.inn.l.length := by omega
    subst h2
    rw [List.drop_length, List.map_nil, List.append_nil] at hR
    have := h0 X hR (by rw [← hR, List.length_take]; omega)
    simp [q9n, Xn, C4, q5l, Ac, Ah, Am, Aw]
    simpa [q9n, Xn, C4, q5l, Ac, Ah, Am, Aw] using this
  | k + 1, i, X, h, hi, hR => by
    refine q2E fun K hK => ?_
    have h2 : i < x.inn.l.length := by omega
    rw [List.drop_eq_getElem_cons h2, List.map_cons] at hR
    have e := ge1 (f := tI) h2
    have hq := hin _ (List.getElem_mem h2)
    rw [B2 h2] at e
    generalize x.inn.l[i] = q at *
    have hq2 : q.toNat < nets.length := by omega
    have e2 := ge1 (f := tK) hq2
    have hti : (X.take i).length = i := by rw [List.length_take]; omega
    generalize nets.getD q.toNat 0 = v at *
    have ih := qDI c n hn x hx hin nets hl nn t40 t41 t42 R h0 k (i + 1) (X.take i ++ [v]) (by omega) (by simp [hti]) (by rw [List.take_of_length_le (by simp [hti]), ← hR]; simp)
    have vs : Av (X.take i) ++ [[tK v]] = Av (X.take i ++ [v]) := G6
    have vt : (Av X).take i = Av (X.take i) := q72
    have hxl : (Av (X.take i)).length = i := by rw [A0]; exact hti
    simp (disch := omega) [q9n, Xn, C4, q5l, Ac, Ah, Am, Aw, h2, A0, Aa, e, e2, hq, hl, A7, vt, vs, hti, hxl]
    refine ⟨by omega, ?_⟩
    rw [hK]
    simpa [q9n, Xn, C4, q5l, Ac, Ah, Am, Aw] using ih
structure ROk (c : B9) : Prop where
  ok : COk c
  inn : ∀ x ∈ c.nodes.l, x.inn.l.length ≤ 16 ∧ ∀ k ∈ x.inn.l, 0 ≤ k ∧ k < c.nodes.l.length
theorem qJA {c : B9} {nets : List Int} {n : Int} (h : ∀ v ∈ nets, V4 v) : ∀ v ∈ Wv c nets n, V4 v := by
  intro v hv
  unfold Wv at hv
  split at hv
  · rcases List.mem_or_eq_of_mem_set hv with hv | rfl
    · exact h v hv
    · refine qF1 fun u hu => ?_
      obtain ⟨q, _, rfl⟩ := List.mem_map.1 hu
      exact q5a h _
  · exact h v hv
theorem qFN {Q : AX → St → Prop} (hΓ : GOk Γ) (c : B9) (H : ROk c) (ord : List Int) (ho : ord.length ≤ 1000000000) (hin : ∀ n ∈ ord, 0 ≤ n ∧ n < c.nodes.l.length) (R : List Int)
    (h0 : ∀ (m : Nat) (inb : List Int), Q (.exit 0) ⟨[(4, .lp 4 0 0), (9, .lp 9 0 0), (10, .ls 39 0 m none), (40, .t (.sl (Ao ord) none none)), (41, .t (tI ord.length)), (42, .t (tI ord.length)), (43, .t (tB false))], qDH c c.nodes.l.length R inb⟩) :
    ∀ (k i : Nat) (nets : List Int) (m : Nat) (inb : List Int), k + i = ord.length → nets.length = c.nodes.l.length → (∀ v ∈ nets, V4 v) → q9T c (ord.drop i) nets = R →
    run Tryz.prog Γ q0P Q ⟨[(4, .lp 4 0 0), (9, .lp 9 0 0), (10, .ls 39 0 m none), (40, .t (.sl (Ao ord) none none)), (41, .t (tI ord.length)), (42, .t (tI i))], qDH c c.nodes.l.length nets inb⟩
  | 0, i, nets, m, inb, h, hl, hv, hR => by
    refine q2F fun K hK => ?_
    have h2 : i = ord.length := by omega
    subst h2
    rw [List.drop_length] at hR
    have hR' : nets = R := hR
    subst hR'
    have := h0 m inb
    simp [qDH, Xn, q5l, Ac, Ah, Am, Aw]
    simpa [qDH, Xn, q5l, Ac, Ah, Am, Aw] using this
  | k + 1, i, nets, m, inb, h, hl, hv, hR => by
    refine q2F fun K hK => ?_
    have h2 : i < ord.length := by omega
    rw [List.drop_eq_getElem_cons h2] at hR
    have hR : q9T c (ord.drop (i + 1)) (Wv c nets ord[i]) = R := hR
    have e := ge1 (f := tI) h2
    have hn := hin _ (List.getElem_mem h2)
    rw [B2 h2] at e
    generalize ord[i] = n at *
    have ih := fun m inb => qFN hΓ c H ord ho hin R h0 k (i + 1) (Wv c nets n) m inb (by omega) (by rw [q7D]; exact hl) (qJA hv) hR
    have hcn := H.ok.nodes
    have hget := qHo hn.1 hn.2
    have hmem := qKn hn.1 hn.2
    have hk : (nd c n).k = Aq c n.toNat := rfl
    have hxi := H.inn _ hmem
    have hkk := H.ok.kind _ hmem
    have hinv : S1 c nets n.toNat = (nd c n).inn.l.map fun k => nets.getD k.toNat 0 := rfl
    have hlR : (S1 c nets n.toNat).length = (nd c n).inn.l.length := by rw [hinv]; simp
    have hvR : ∀ v ∈ S1 c nets n.toNat, V4 v := fun v hv' => by
      rw [hinv] at hv'
      obtain ⟨q, hq, rfl⟩ := List.mem_map.1 hv'
      exact q5a hv _
    have hev := fun cap nl => qGA hΓ (nd c n).k hkk (S1 c nets n.toNat) cap nl (by rw [hlR]; omega) hvR
    have hcb := q74 (Γ := Γ) (nd c n).k
    have hst : Wv c nets n = if E3 (nd c n).k then nets.set n.toNat (Tt (nd c n).k (S1 c nets n.toNat)) else nets := by rw [hk]; rfl
    have hlp := fun Q h0 => qDI (Γ := Γ) (Q := Q) c c.nodes.l.length hcn (nd c n) (by omega) hxi.2 nets hl n (.sl (Ao ord) none none) (tI ord.length) (tI i) (S1 c nets n.toNat) h0 (nd c n).inn.l.length 0 inb (by omega) (by omega) (by rw [hinv]; simp)
    have hcd : decide (1 ≤ (nd c n).k ∧ (nd c n).k ≤ 13) = E3 (nd c n).k := rfl
    rw [hcd] at hcb
    rw [hst] at ih
    generalize S1 c nets n.toNat = RV at *
    generalize nd c n = x at *
    obtain ⟨hn0, hn1⟩ := hn
    have hn2 : n.toNat < c.nodes.l.length := by omega
    have hn3 : n.toNat < nets.length := by omega
    simp (disch := omega) [qDH, Xn, q5l, Ac, Ah, Am, Aw, h2, A0, Aa, e, hn0, hn1, Af, Bh, hget, C4]
    refine A6 hcb rfl ?_
    by_cases hc : E3 x.k = true
    · rw [if_pos hc] at ih
      simp [hc, A0]
      simp only [q9n, Xn, C4, q5l, Ac, Ah, Am, Aw, List.map_cons, List.map_nil] at hlp
      refine hlp _ fun X hX hXl => ?_
      have hXR : (Av X).take x.inn.l.length = Av RV := by rw [q72, hX]
      simp (disch := omega)
      refine A6 (hev none none) (by simp [Ak, hXR]) ?_
      have hs : (Av nets).set n.toNat [tK (Tt x.k RV)] = Av (nets.set n.toNat (Tt x.k RV)) := Gf
      generalize Tt x.k RV = v at *
      simp (disch := omega) [hn0, hn1, hn2, hn3, A0, hl, hs, A7]
      rw [hK]
      simpa [qDH, Xn, q5l, Ac, Ah, Am, Aw] using ih _ X
    · rw [if_neg hc] at ih
      simp only [Bool.not_eq_true] at hc
      simp only [hc]
      simp (disch := omega) [A7]
      rw [hK]
      simpa [qDH, Xn, q5l, Ac, Ah, Am, Aw] using ih m inb
def q0u (c : B9) (p : Pat) : Int := if Bi c ≠ 0 then Bi c else Ox c p
theorem qKo {c : B9} (hc : COk c) (h : Bi c = 0) : ROk c := by
  have hs := (q3W h).1
  exact ⟨hc, fun x hx => ⟨(Lx hs).2.1 x hx, q9R hs x hx⟩⟩
theorem qBy : ∀ {ns vs nets : List Int}, (∀ v ∈ vs, V4 v) → (∀ v ∈ nets, V4 v) → ∀ v ∈ Ks ns vs nets, V4 v
  | [], vs, nets, _, h => by cases vs <;> exact h
  | _ :: _, [], nets, _, h => h
  | n :: ns, v :: vs, nets, hv, h => by
    simp only [Ks]
    refine qBy (fun u hu => hv u (List.mem_cons_of_mem _ hu)) fun u hu => ?_
    rcases List.mem_or_eq_of_mem_set hu with hu | rfl
    · exact h u hu
    · exact hv _ List.mem_cons_self
def q9o (c : B9) (p : Pat) : T := if q0u c p = 0 then .tup [.agg [Pl (Ip c (An c p.inn.l p.st.l)), Pl (B7 c (An c p.inn.l p.st.l))], .sl (Av (An c p.inn.l p.st.l)) (some c.nodes.l.length) none, tI 0] else .tup [.agg [.sl [] (some 0) (some true), .sl [] (some 0) (some true)], .sl [] (some 0) (some true), tI (q0u c p)]
theorem qDJ (hΓ : GOk Γ) (c : B9) (hc : COk c) (hn : c.nodes.l.length ≤ 19) (p : Pat) (hp : p.inn.l.length ≤ 1000000000 ∧ p.st.l.length ≤ 1000000000) (hv : (∀ v ∈ p.inn.l, 0 ≤ v) ∧ ∀ v ∈ p.st.l, 0 ≤ v) :
    Ai Tryz.prog Γ 15 [.agg (tC c), .agg (tP p)] (q9o c p) := by
  refine Ap qBr rfl ?_
  generalize hR : q9o c p = RR
  unfold q9o at hR
  simp [q7w, tC, Ac, Ah, Am, Aw, tP, tV]
  refine A6 (qEP hΓ c hc hn) rfl ?_
  by_cases h1 : Bi c = 0
  case neg =>
    have he : q0u c p = Bi c := by unfold q0u; rw [if_pos h1]
    rw [he, if_neg h1] at hR
    subst hR
    simp [h1, q0Q, Ak, B0]
  have he : q0u c p = Ox c p := by unfold q0u; rw [if_neg (by simp [h1])]
  rw [he] at hR
  simp [h1]
  refine A6 (qB3 c hc p hp) rfl ?_
  by_cases h2 : Ox c p = 0
  case neg =>
    rw [if_neg h2] at hR
    subst hR
    simp [h2, q0Q, Ak, B0]
  rw [if_pos h2] at hR
  obtain ⟨l1, l2, v1, v2⟩ : p.inn.l.length = (Az c).length ∧ p.st.l.length = (A5 c).length ∧ (∀ v ∈ p.inn.l, V4 v) ∧ ∀ v ∈ p.st.l, V4 v := by
    unfold Ox at h2
    split at h2
    · cases h2
    split at h2
    · cases h2
    split at h2
    · cases h2
    rename_i a b d
    refine ⟨by omega, by omega, fun v hvm => ⟨hv.1 v hvm, ?_⟩, fun v hvm => ⟨hv.2 v hvm, ?_⟩⟩
    · have : ¬ p.inn.l.any Br = true := fun h => d (.inl h)
      rw [List.any_eq_true] at this
      have h3 : ¬ Br v = true := fun h => this ⟨v, hvm, h⟩
      simp [Br] at h3; omega
    · have : ¬ p.st.l.any Br = true := fun h => d (.inr h)
      rw [List.any_eq_true] at this
      have h3 : ¬ Br v = true := fun h => this ⟨v, hvm, h⟩
      simp [Br] at h3; omega
  have H := qKo hc h1
  have hzl : (List.replicate c.nodes.l.length (0 : Int)).length = c.nodes.l.length := by simp
  have hload := qKg (Γ := Γ) c hc p (some c.nodes.l.length) (List.replicate c.nodes.l.length 0) hzl l1 l2
  have hz : List.replicate c.nodes.l.length [T.v (Value.int .u8 0)] = Av (List.replicate c.nodes.l.length 0) := by simp [Ae]
  have hL : Ks (A5 c) p.st.l (Ks (Az c) p.inn.l (List.replicate c.nodes.l.length 0)) = q50 c p.inn.l p.st.l := rfl
  rw [hL] at hload
  have hol : (W3 c).length = c.nodes.l.length := by rw [(q1H c).1.length_eq, V6]
  have ho := fun Q h0 => qFN (Γ := Γ) (Q := Q) hΓ c H (W3 c) (by omega) (fun n hn => by rw [(q1H c).1.mem_iff, q8c] at hn; exact hn) (An c p.inn.l p.st.l) h0 (W3 c).length 0 (q50 c p.inn.l p.st.l) 0 [] (by omega) q1J (qBy v2 (qBy v1 (fun v hv => by rw [(List.mem_replicate.1 hv).2]; simp [V4]))) rfl
  have hnl : (An c p.inn.l p.st.l).length = c.nodes.l.length := by unfold An; rw [q6K, q1J]
  have hll : (q50 c p.inn.l p.st.l).length = c.nodes.l.length := q1J
  have hobs := qBs (Γ := Γ) c hc ⟨An c p.inn.l p.st.l, some c.nodes.l.length, none⟩ (by simp only [hnl]; omega)
  have htk : (Av (An c p.inn.l p.st.l)).take c.nodes.l.length = Av (An c p.inn.l p.st.l) := by rw [← hnl]; exact G7
  simp only at hobs
  generalize An c p.inn.l p.st.l = NL at *
  generalize q50 c p.inn.l p.st.l = LL at *
  simp [h2, Af]
  refine ⟨by omega, ?_⟩
  rw [hz]
  refine ⟨_, _, hload, ?_⟩
  simp [A0, hll, hol]
  simp only [hol] at ho
  refine ho _ fun m inb => ?_
  simp [qDH, Xn, q5l, Ac, Ah, Am, Aw]
  refine A6 hobs (by simp [Ak, htk, q2q, Ac, Ah, Am, Aw, tV]) ?_
  subst hR
  simp [q0Q, Ak, htk, Pl]
end Go.Lg
namespace Go.Lg
open Go
section
variable {P : Program} {Γ : Tables} {Q : AX → St → Prop} {s : St}
/- probecard/probecardlaw06.taken (function 51) -/
abbrev q3z : IC := .gh (.seq (.seq (.reg [om 9 8, om 10 1, od 11 (.bin .lss (tm 9) (tm 10))] [kp [0, 1, 2, 7, 8, 11] [19]]) (.cond (tm 11) .skip (.exit 0))) (.seq (.block 1 (.seq (.reg [om 14 0, od 15 (le 0 14), od 16 (.bin .eql (tm 15) (ki 0))] [kp
 [0, 1, 2, 7, 8, 16] [19]]) (.cond (tm 16) (.reg [om 17 7, od 18 (.bsl true 68 1 [(ku 2)]), od 19 (.app false 68 1 (tm 17) (tm 18)), om 7 19] [kp [0, 1, 2, 7, 8] [19]]) (.reg [om 20 7, om 21 0, om 22 8, om 23 0, od 24 (le 0 23), od
 25 (.bin .rem (tm 22) (tm 24)), od 26 (ia 1 21 25), od 27 (ld 1 26), om 28 2, od 29 (.bin .rem (tm 27) (tm 28)), od 30 (.bsl true 68 1 [(tm 29)]), oz 31 (.app false 68 1 (tm 20) (tm 30)) 19, om 7 31] [kp [0, 1, 2, 7, 8] [19]]))))
 (.reg [om 12 8, od 13 (.bin .add (tm 12) (ki 1)), om 8 13] [kp [0, 1, 2, 7, 8] [19]]))) [kp [0, 1, 2, 7, 8] [19]]
def T0 : IC := .loop q3z
abbrev q40 : IC := (.seq (.reg [od 6 (.mv kN)] [kp [0, 1, 2] []]) (.seq (.reg [od 7 (.mv kN)] [.nl 7 19 68 1, kp [0, 1, 2, 7] [19]]) (.seq (.seq (.reg [od 8 (.mv (ki 0))] [kp [0, 1, 2, 7, 8] [19]]) (.block 0 T0)) (.seq (.reg [om 32 7, om
 6 32] [kp [6] [19]]) .ret))))
theorem Zm (h : ∀ K : St → Prop, K = run P Γ T0 Q → run P Γ q3z (Ax K Q) s) : run P Γ T0 Q s := Aj h
def q41 : List RV := [.tmp 6]
/- probecard/probecardlaw06.count (function 52) -/
abbrev q42 : IC := .gh (.seq (.seq (.reg [om 7 6, od 8 (fa 0 2), od 9 (ld 1 8), od 10 (le 0 9), od 11 (.bin .lss (tm 7) (tm 10))] [kp [1, 2, 5, 6, 11] []]) (.cond (tm 11) .skip (.exit 0))) (.seq (.block 1 (.seq (.reg [od 14 (fa 0 2), od 15 (ld 1 14),
 om 16 6, od 17 (ia 4 15 16), od 18 (fa 0 17), od 19 (ld 1 18), om 20 1, od 21 (.bin .eql (tm 19) (tm 20))] [kp [1, 2, 5, 6, 21] []]) (.cond (tm 21) (.reg [om 22 5, od 23 (.bin .add (tm 22) (ki 1)), om 5 23] [kp [1, 2, 5, 6] []])
 .skip))) (.reg [om 12 6, od 13 (.bin .add (tm 12) (ki 1)), om 6 13] [kp [1, 2, 5, 6] []]))) [kp [1, 2, 5, 6] []]
def T8 : IC := .loop q42
abbrev q43 : IC := (.seq (.reg [od 2 (.box true (tm 0)), od 4 (.mv (ki 0))] [kp [1, 2] []]) (.seq (.reg [od 5 (.mv (ki 0))] [kp [1, 2, 5] []]) (.seq (.seq (.reg [od 6 (.mv (ki 0))] [kp [1, 2, 5, 6] []]) (.block 0 T8)) (.seq (.reg [om 24
 5, om 4 24] [kp [4] []]) .ret))))
theorem Zn (h : ∀ K : St → Prop, K = run P Γ T8 Q → run P Γ q42 (Ax K Q) s) : run P Γ T8 Q s := Aj h
def q44 : List RV := [.tmp 4]
/- (probecard/probecardlaw06.P).Of (function 14) -/
end
end Go.Lg
namespace Go.Lg
open Go Go.Proofs
theorem q8Q : B1 Tryz.prog 51 q40 33 3 q41 = true := by kernel_rfl
theorem q8R : B1 Tryz.prog 52 q43 25 2 q44 = true := by kernel_rfl
end Go.Lg
namespace Go.Lg
open Go Go.Proofs
variable {Γ : Tables}
theorem qHp {ks : List Int} {c : B9} {i : Nat} (hi : i < c.nodes.l.length) : Jv ks (c.nodes.l.take (i + 1)) 0 = Jv ks (c.nodes.l.take i) 0 ++ if ks.contains (Aq c i) then [(i : Int)] else [] := by
  have hk : Aq c i = c.nodes.l[i].k := by simp [Aq, hi]
  rw [List.take_add_one, List.getElem?_eq_getElem hi, Kq, hk]
  have : (c.nodes.l.take i).length = i := by rw [List.length_take]; omega
  rw [this]
  simp [Jv]
theorem q9p {Q : AX → St → Prop} (c : B9) (hc : COk c) (k : Int)
    (h0 : Q (.exit 0) ⟨[(1, .t (tK k)), (2, .t (.ip (tC c) 0)), (5, .t (tI (Jv [k] c.nodes.l 0).length)), (6, .t (tI c.nodes.l.length)), (11, .t (tB false))], []⟩) : ∀ (f i : Nat), f + i = c.nodes.l.length →
    run Tryz.prog Γ T8 Q ⟨[(1, .t (tK k)), (2, .t (.ip (tC c) 0)), (5, .t (tI (Jv [k] (c.nodes.l.take i) 0).length)), (6, .t (tI i))], []⟩
  | 0, i, h => by
    refine Zn fun K hK => ?_
    have h2 : i = c.nodes.l.length := by omega
    subst h2
    rw [List.take_length]
    simp [tC, Ac, Ah, Am, Aw, Af]
    simpa [tC, Ac, Ah, Am, Aw] using h0
  | f + 1, i, h => by
    refine Zn fun K hK => ?_
    have h2 : i < c.nodes.l.length := by omega
    have hn := hc.nodes
    have ih := q9p c hc k h0 f (i + 1) (by omega)
    rw [qHp h2] at ih
    have hget := qHo (c := c) (n := (i : Int)) (by omega) (by omega)
    have hk : (nd c i).k = Aq c i := by simp [nd, Aq]
    simp only [Int.toNat_natCast] at hget
    have hle := Xf [k] (c.nodes.l.take i) 0
    rw [List.length_take] at hle
    generalize nd c i = x at *
    by_cases h1 : x.k = k
    · have hkk : [k].contains (Aq c i) = true := by rw [← hk, h1]; simp
      rw [hkk, if_pos rfl, List.length_append] at ih
      simp (disch := omega) [tC, Ac, Ah, Am, Aw, Af, h2, Bh, hget, C4, h1, A7]
      rw [hK]
      simpa [tC, Ac, Ah, Am, Aw] using ih
    · have hkk : [k].contains (Aq c i) = false := by rw [← hk]; simp; exact h1
      rw [hkk, if_neg (by simp), List.append_nil] at ih
      simp (disch := omega) [tC, Ac, Ah, Am, Aw, Af, h2, Bh, hget, C4, h1, A7]
      rw [hK]
      simpa [tC, Ac, Ah, Am, Aw] using ih
theorem q9q (c : B9) (hc : COk c) (k : Int) : Ab Tryz.prog Γ 52 [.agg (tC c), tK k] (tI (Jv [k] c.nodes.l 0).length) := by
  refine Ad q8R rfl ?_
  have g := fun Q h0 => q9p (Γ := Γ) (Q := Q) c hc k h0 c.nodes.l.length 0 (by omega)
  simp [q43, tC, Ac, Ah, Am, Aw]
  refine g _ ?_
  simp [q44, B0]
def Ed (l : List Int) (n : Nat) (most : Int) : List Int := (List.range' 0 n).map fun i => if l = [] then 2 else (l.getD (i % l.length) 0).tmod most
theorem Md {l : List Int} {n : Nat} {most : Int} : (Ed l n most).length = n := by simp [Ed]
theorem q5m {Q : AX → St → Prop} (l : Sl Int) (n : Nat) (hn : n ≤ 1000000000) (most : Int) (hm : 0 < most) (R : List Int)
    (h0 : Q (.exit 0) ⟨[(0, .t (tV l)), (1, .t (tI n)), (2, .t (tK most)), (7, .ls 19 0 n none), (8, .t (tI n)), (11, .t (tB false))], [(19, .sl 68 1 (Av R))]⟩) : ∀ (k i : Nat) (out : List Int), k + i = n → out.length = i → out ++ (List.range' i k).map (fun i => if l.l = [] then 2 else (l.l.getD (i % l.l.length) 0).tmod most) = R →
    run Tryz.prog Γ T0 Q ⟨[(0, .t (tV l)), (1, .t (tI n)), (2, .t (tK most)), (7, .ls 19 0 i none), (8, .t (tI i))], [(19, .sl 68 1 (Av out))]⟩
  | 0, i, out, h, hi, hR => by
    refine Zm fun K hK => ?_
    have h2 : i = n := by omega
    subst h2
    simp only [List.range'_zero, List.map_nil, List.append_nil] at hR
    subst hR
    simp
    exact h0
  | k + 1, i, out, h, hi, hR => by
    refine Zm fun K hK => ?_
    have h2 : i < n := by omega
    rw [List.range'_succ, List.map_cons] at hR
    have vt : (Av out).take i = Av out := by rw [← hi]; exact G7
    by_cases h1 : l.l = []
    · have ih := q5m l n hn most hm R h0 k (i + 1) (out ++ [2]) (by omega) (by simp [hi]) (by rw [← hR]; simp [h1])
      have vs := G6 (l := out) (v := 2)
      simp (disch := omega) [h2, tV, A0, h1, A7, vt, vs, hi]
      refine ⟨by omega, ?_⟩
      rw [hK]
      simpa [tV, h1] using ih
    · have hpos : 0 < l.l.length := List.length_pos_iff.2 h1
      have hlt : i % l.l.length < l.l.length := Nat.mod_lt _ hpos
      have hmod : (i : Int).tmod (l.l.length : Int) = ((i % l.l.length : Nat) : Int) := by rw [Int.natCast_emod]; exact Int.tmod_eq_emod_of_nonneg (by omega)
      rw [if_neg h1] at hR
      have e := ge1 (f := tK) hlt
      generalize hj : i % l.l.length = j at *
      generalize l.l.getD j 0 = v at *
      have ih := q5m l n hn most hm R h0 k (i + 1) (out ++ [v.tmod most]) (by omega) (by simp [hi]) (by rw [← hR]; simp)
      have vs := G6 (l := out) (v := v.tmod most)
      have hne : ¬ (l.l.length : Int) = 0 := by omega
      have hm0 : ¬ most = 0 := by omega
      simp (disch := omega) [h2, tV, A0, Aa, h1, hne, hm0, hmod, hlt, e, A7, vt, vs, hi, -Int.natCast_emod]
      refine ⟨by omega, ?_⟩
      rw [hK]
      simpa [tV] using ih
theorem qEY (l : Sl Int) (n : Nat) (hn : n ≤ 1000000000) (most : Int) (hm : 0 < most) : Ab Tryz.prog Γ 51 [tV l, tI n, tK most] (.sl (Av (Ed l.l n most)) none none) := by
  refine Ad q8Q rfl ?_
  have g := fun Q h0 => q5m (Γ := Γ) (Q := Q) l n hn most hm (Ed l.l n most) h0 n 0 [] (by omega) rfl (by simp [Ed])
  have ht : (Av (Ed l.l n most)).take n = Av (Ed l.l n most) := List.take_of_length_le (by rw [A0, Md]; exact Nat.le_refl _)
  simp [q40]
  refine g _ ?_
  simp [q41, B0, Ak, ht]
structure PD where
  i : Sl Int
  s : Sl Int
def tPD (q : PD) : List T := [tV q.i, tV q.s]
def q6h (q : PD) : Prop := (∀ v ∈ q.i.l, T9 v) ∧ ∀ v ∈ q.s.l, T9 v
def qMR (q : PD) (c : B9) : List Int := Ed q.i.l (Az c).length 4
def qMS (q : PD) (c : B9) : List Int := Ed q.s.l (A5 c).length 3
def qMT (q : PD) (c : B9) : Pat := ⟨⟨qMR q c, none, none⟩, ⟨qMS q c, none, none⟩⟩
def v1 (v : Int) : Sl Int := ⟨[v], none, none⟩
structure NOk (c : B9) : Prop where
  ok : COk c
  lev : Bi c = 0
  mm : c.mems.l = []
  m0 : mems c = []
  n1 : 1 ≤ c.nodes.l.length
  n2 : c.nodes.l.length ≤ 16
  k : ∀ i, i < c.nodes.l.length → 0 ≤ Aq c i ∧ Aq c i ≤ 14
theorem qHq {x : CD} (hx : q2p x) (hm : x.mem = false) : NOk (Ld x) := by
  have hl := q1v hx
  have h5 := q5Y hx
  have hN : (Ld x).nodes.l = C0 x := rfl
  have hp := q7M hx hm
  have hv := qBA hx
  have h1 : (Ld x).mems.l = [] := by simp [Ld, qAK, hm]
  have h2 : mems (Ld x) = [] := by
    unfold Ei at hp
    rw [if_neg (by simp [hv])] at hp
    split at hp
    · cases hp
    · rename_i h; exact List.eq_nil_of_length_eq_zero (by omega)
  refine ⟨qBn hx, hv, h1, h2, by rw [hN]; omega, by rw [hN]; omega, fun i hi => ?_⟩
  have hs := (q3W hv).1
  have hn := (Lx hs).2.2.1 _ (List.getElem_mem hi)
  have hk : Aq (Ld x) i = (Ld x).nodes.l[i].k := by simp [Aq, hi]
  have hkk := (qBn hx).kind _ (List.getElem_mem hi)
  have h15 : ¬ Aq (Ld x) i = 15 := fun e => by
    have : (i : Int) ∈ mems (Ld x) := (q4K hi).2 e
    rw [h2] at this; cases this
  have hle : ¬ 15 < (Ld x).nodes.l[i].k := fun h => by
    unfold Dm at hn
    rw [if_pos h] at hn; cases hn
  rw [hk] at h15 ⊢
  omega
theorem q8d {l : List Int} {n : Nat} {most : Int} (hl : ∀ v ∈ l, 0 ≤ v) (hm : 0 < most ∧ most ≤ 4) : ∀ v ∈ Ed l n most, V4 v := by
  intro v hv
  obtain ⟨i, _, rfl⟩ := List.mem_map.1 hv
  split
  · simp [V4]
  · rename_i h
    have hpos : 0 < l.length := List.length_pos_iff.2 h
    have h0 : 0 ≤ l.getD (i % l.length) 0 := by
      rw [B2 (Nat.mod_lt _ hpos)]; exact hl _ (List.getElem_mem _)
    generalize l.getD (i % l.length) 0 = u at *
    rw [Int.tmod_eq_emod_of_nonneg h0]
    have := Int.emod_nonneg u (show most ≠ 0 by omega)
    have := Int.emod_lt_of_pos u hm.1
    unfold V4; omega
structure POk (c : B9) (p : Pat) : Prop where
  i : p.inn.l.length = (Az c).length
  s : p.st.l.length = (A5 c).length
  vi : ∀ v ∈ p.inn.l, V4 v
  vs : ∀ v ∈ p.st.l, V4 v
theorem qHr {q : PD} (hq : q6h q) (c : B9) : POk c (qMT q c) :=
  ⟨Md, Md, q8d (fun v hv => (hq.1 v hv).1) (by omega), q8d (fun v hv => (hq.2 v hv).1) (by omega)⟩
theorem qGL {c : B9} (hc : NOk c) {p : Pat} (hp : POk c p) : q0u c p = 0 := by
  unfold q0u
  rw [if_neg (by simp [hc.lev])]
  unfold Ox
  have a1 : ∀ {l : List Int}, (∀ v ∈ l, V4 v) → l.any Br = false := fun h => List.any_eq_false.2 fun v hv => by have := (h v hv).2; simp [Br]; omega
  rw [if_neg (by rw [hc.mm, hc.m0]; simp), if_neg (by simp [hp.i, hp.s]), a1 hp.vi, a1 hp.vs]
  simp
theorem qBz (hΓ : GOk Γ) {c : B9} (hc : NOk c) {p : Pat} (hp : POk c p) :
    Ai Tryz.prog Γ 15 [.agg (tC c), .agg (tP p)] (.tup [.agg [Pl (Ip c (An c p.inn.l p.st.l)), Pl (B7 c (An c p.inn.l p.st.l))], .sl (Av (An c p.inn.l p.st.l)) (some c.nodes.l.length) none, tI 0]) := by
  have hcn := hc.n2
  have h := qDJ hΓ c hc.ok (by omega) p ⟨by rw [hp.i]; have := Jf c; omega, by rw [hp.s]; have := Eu c; omega⟩ ⟨fun v hv => (hp.vi v hv).1, fun v hv => (hp.vs v hv).1⟩
  unfold q9o at h
  rwa [if_pos (qGL hc hp)] at h
theorem q45 {c : B9} {a b : List Int} : (An c a b).length = c.nodes.l.length := by unfold An; rw [q6K, q1J]
end Go.Lg
namespace Go.Lg
open Go Go.Proofs
variable {c : B9} {ch : List (Sl Int)}
theorem qGM {x a : Int} {rest : List (Int × Int)} : Ej ((x, a) :: rest) x = a := by simp [Ej]
theorem q9r {x y a : Int} {rest : List (Int × Int)} (h : y ≠ x) : Ej ((y, a) :: rest) x = Ej rest x := by simp [Ej, h]
theorem q9s {x : Int} {rest : List (Int × Int)} : ∀ {A : List (Int × Int)}, (∀ p ∈ A, p.1 ≠ x) → Ej (A ++ rest) x = Ej rest x
  | [], _ => rfl
  | (y, a) :: A, h => by
    rw [List.cons_append, q9r (h (y, a) List.mem_cons_self), q9s fun p hp => h p (List.mem_cons_of_mem _ hp)]
theorem q83 {rest : List (Int × Int)} : ∀ (l : List Int) (a : Int), l.Nodup → ∀ m, m < l.length → Ej (Vs a l ++ rest) (l.getD m 0) = if m = 0 then a else l.getD (m - 1) 0
  | [], _, _, _, h => absurd h (by simp)
  | n :: l, a, hn, 0, _ => by simp only [Vs, List.cons_append, List.getD_cons_zero, qGM, if_true]
  | n :: l, a, hn, m + 1, hm => by
    obtain ⟨h1, h2⟩ := List.nodup_cons.1 hn
    have hm' : m < l.length := by simpa using hm
    have hne : n ≠ l.getD m 0 := fun e => h1 (by rw [e, B2 hm']; exact List.getElem_mem _)
    rw [List.getD_cons_succ]
    simp only [Vs, List.cons_append]
    rw [q9r hne, q83 l n h2 m hm', if_neg (show ¬ (m + 1 = 0) by omega)]
    by_cases h0 : m = 0
    · subst h0; rfl
    · obtain ⟨q, rfl⟩ : ∃ q, m = q + 1 := ⟨m - 1, by omega⟩
      rw [if_neg (show ¬ (q + 1 = 0) by omega)]; rfl
def Jj : Sl Int := ⟨[], none, none⟩
theorem qHs : ∀ (l : List (Sl Int)) (b : Int), (E2 l).Nodup → ∀ k, k < l.length → ∀ m, m < (l.getD k Jj).l.length → Ej (q1h b l) ((l.getD k Jj).l.getD m 0) = if m = 0 then b + k else (l.getD k Jj).l.getD (m - 1) 0
  | [], _, _, _, h, _, _ => absurd h (by simp)
  | s :: l, b, hn, 0, _, m, hm => by
    rw [E9, List.nodup_append] at hn
    simp only [List.getD_cons_zero] at hm ⊢
    simp only [q1h]
    rw [q83 s.l b hn.1 m hm]
    simp
  | s :: l, b, hn, k + 1, hk, m, hm => by
    rw [E9, List.nodup_append] at hn
    simp only [List.getD_cons_succ] at hm ⊢
    simp only [q1h]
    have hk' : k < l.length := by simpa using hk
    have hmem : (l.getD k Jj).l.getD m 0 ∈ E2 l := by
      rw [B2 hm]
      unfold E2
      refine List.mem_flatten.2 ⟨(l.getD k Jj).l, List.mem_map.2 ⟨l.getD k Jj, ?_, rfl⟩, List.getElem_mem _⟩
      rw [List.getD_eq_getElem?_getD, List.getElem?_eq_getElem hk']
      exact List.getElem_mem _
    rw [q9s fun p hp e => by
      have h1 : p.1 ∈ (Vs b s.l).map (·.1) := List.mem_map.2 ⟨p, hp, rfl⟩
      rw [q5i] at h1
      exact hn.2.2 p.1 h1 _ hmem e]
    rw [qHs l (b + 1) hn.2.1 k hk' m hm]
    split
    · push_cast; omega
    · rfl
theorem qNB {a b : Int} : Tt 11 [0, a, b] = B8 a := by
  have h : q5Z 11 ([0, a, b] : List Int).length = false := rfl
  unfold Tt; rw [h]; rfl
theorem qNC {a b : Int} : Tt 11 [1, a, b] = B8 b := by
  have h : q5Z 11 ([1, a, b] : List Int).length = false := rfl
  unfold Tt; rw [h]; rfl
theorem q9t {v : Int} : B8 (Uf v) = B8 v := by unfold B8 Uf; split <;> split <;> (try split) <;> omega
theorem Xv {v : Int} : B8 (B8 v) = B8 v := by unfold B8; split <;> (try split) <;> omega
theorem q9u {l : List Int} (h : l.Nodup) {a b : Nat} (ha : a < l.length) (hb : b < l.length) (e : l.getD a 0 = l.getD b 0) : a = b := by
  rw [B2 ha, B2 hb] at e
  exact (List.getElem_inj h).1 e
theorem qFO {q : Nat} (hq : q < (A5 c).length) : M3 14 c ((A5 c).getD q 0).toNat = q := by
  have hm := Hj (k := 14) (c := c) ((A5 c).getD q 0) (by rw [B2 hq]; exact List.getElem_mem _)
  obtain ⟨r1, r2⟩ := q4J (c := c) (i := ((A5 c).getD q 0).toNat) (by omega) hm.2.2
  refine q9u (Dz [14] c.nodes.l 0).2 r1 hq ?_
  rw [r2]
  have : (((A5 c).getD q 0).toNat : Int) = (A5 c).getD q 0 := by omega
  exact this
theorem qHt (hp : Bi c = 0) {pin pst : List Int} (h1 : pin.length = (Az c).length) (h2 : pst.length = (A5 c).length) {q : Nat} (hq : q < (A5 c).length) : (An c pin pst).getD ((A5 c).getD q 0).toNat 0 = pst.getD q 0 := by
  have f := q1K hp pin pst
  have hm := Hj (k := 14) (c := c) ((A5 c).getD q 0) (by rw [B2 hq]; exact List.getElem_mem _)
  have hi : ((A5 c).getD q 0).toNat < c.nodes.l.length := by omega
  rw [f.2 _ hi, hm.2.2, if_neg (by decide), q6L h1 h2 hi, hm.2.2, if_neg (by decide), if_pos rfl, qFO hq]
theorem q9v {c : B9} {N : List Int} {q : Nat} (hq : q < (A5 c).length) : (B7 c N).getD q 0 = q0S c N ((A5 c).getD q 0) := by
  unfold B7
  rw [List.getD_eq_getElem?_getD, List.getElem?_map, List.getElem?_eq_getElem hq, B2 hq]; rfl
theorem qFP (h : Em c ch) {pin pst : List Int} {q : Nat} (hq : q < (A5 c).length) :
    (B7 (C7 c ch) (An (C7 c ch) pin pst)).getD q 0 = B8 (Tt 11 [(An (C7 c ch) pin pst).getD c.nodes.l.length 0, (An (C7 c ch) pin pst).getD (in0 c ((A5 c).getD q 0)).toNat 0, (An (C7 c ch) pin pst).getD (Ej (q1h (c.nodes.l.length + 1 : Nat) ch) ((A5 c).getD q 0)).toNat 0]) := by
  have hm := Hj (k := 14) (c := c) ((A5 c).getD q 0) (by rw [B2 hq]; exact List.getElem_mem _)
  have hi : ((A5 c).getD q 0).toNat < c.nodes.l.length := by omega
  have hl := q7Q h
  rw [q9v (by rw [Dc h]; exact hq), Dc h]
  have hin : E0 (C7 c ch) ((A5 c).getD q 0).toNat = [((m0 c ch + q : Nat) : Int)] := by
    show ((scJ c ch).nodes.getD _ Nd.d).inn.l = _
    rw [(scF h).dff _ hi hm.2.2, qFO hq]
  unfold q0S
  rw [hin, if_pos (show ([((m0 c ch + q : Nat) : Int)] : List Int).length = 1 from rfl)]
  have hN : (An (C7 c ch) pin pst).length = (C7 c ch).nodes.l.length := q45
  have hv : Ig (An (C7 c ch) pin pst) (([((m0 c ch + q : Nat) : Int)] : List Int).getD 0 0) = Uf ((An (C7 c ch) pin pst).getD (m0 c ch + q) 0) := by
    unfold Ig
    rw [if_neg (by rw [hN, hl]; show ¬ ((((m0 c ch + q : Nat) : Int)) < 0 ∨ ((_ : Nat) : Int) ≤ ((m0 c ch + q : Nat) : Int)); unfold m0; omega)]
    rfl
  rw [hv, q9t, qGK h hq]
theorem qDK (h : Em c ch) (hp : Bi c = 0) {pin pst v : List Int} (h1 : pin.length = (Az c).length) (h2 : pst.length = (A5 c).length) (hv : v.length = ch.length) :
    B7 (C7 c ch) (An (C7 c ch) (pin ++ ([0] ++ v)) pst) = B7 c (An c pin pst) := by
  refine Uo (by unfold B7; rw [List.length_map, List.length_map, Dc h]) fun q hq => ?_
  have hq' : q < (A5 c).length := by unfold B7 at hq; rwa [List.length_map, Dc h] at hq
  rw [qFP h hq']
  have e0 : (An (C7 c ch) (pin ++ ([0] ++ v)) pst).getD c.nodes.l.length 0 = 0 := q7R h h1 h2 hv (q := 0) (by omega)
  obtain ⟨x, hx, x0, x1, x2⟩ := qEW h (n := (A5 c).getD q 0) (by rw [B2 hq']; exact List.getElem_mem _)
  rw [e0, qNB, Xv, x2, qBx h hp h1 h2 hv x.toNat (by omega), q9v hq']
  unfold q0S
  rw [hx, if_pos (show ([x] : List Int).length = 1 from rfl)]
  have hN : (An c pin pst).length = c.nodes.l.length := q45
  have : Ig (An c pin pst) (([x] : List Int).getD 0 0) = Uf ((An c pin pst).getD x.toNat 0) := by
    unfold Ig
    rw [if_neg (by rw [hN]; show ¬ (x < 0 ∨ _ ≤ x); omega)]
    rfl
  rw [this, q9t]
theorem qHu (h : Em c ch) {pin pst v : List Int} (h1 : pin.length = (Az c).length) (h2 : pst.length = (A5 c).length) (hv : v.length = ch.length) {q : Nat} (hq : q < (A5 c).length) :
    (B7 (C7 c ch) (An (C7 c ch) (pin ++ ([1] ++ v)) pst)).getD q 0 = B8 ((An (C7 c ch) (pin ++ ([1] ++ v)) pst).getD (Ej (q1h (c.nodes.l.length + 1 : Nat) ch) ((A5 c).getD q 0)).toNat 0) := by
  have e0 : (An (C7 c ch) (pin ++ ([1] ++ v)) pst).getD c.nodes.l.length 0 = 1 := q7R h h1 h2 hv (q := 0) (by omega)
  rw [qFP h hq, e0, qNC, Xv]
def qMU (ch : List (Sl Int)) (st pst v : List Int) (k m : Nat) : Int := B8 (if m = 0 then v.getD k 0 else pst.getD (st.idxOf ((ch.getD k Jj).l.getD (m - 1) 0)) 0)
theorem qHv (h : Em c ch) (hp : Bi c = 0) {pin pst v : List Int} (h1 : pin.length = (Az c).length) (h2 : pst.length = (A5 c).length) (hv : v.length = ch.length) {k m q : Nat} (hk : k < ch.length) (hm : m < (ch.getD k Jj).l.length) (hq : q < (A5 c).length) (he : (A5 c).getD q 0 = (ch.getD k Jj).l.getD m 0) :
    (B7 (C7 c ch) (An (C7 c ch) (pin ++ ([1] ++ v)) pst)).getD q 0 = qMU ch (A5 c) pst v k m := by
  have hnd : (E2 ch).Nodup := h.perm.nodup_iff.2 (Dz [14] c.nodes.l 0).2
  rw [qHu h h1 h2 hv hq, he, qHs ch _ hnd k hk m hm]
  unfold qMU
  congr 1
  by_cases h0 : m = 0
  · rw [if_pos h0, if_pos h0]
    have := q7R (e := 1) h h1 h2 hv (q := 1 + k) (by omega)
    have e : ((c.nodes.l.length + 1 : Nat) + k : Int).toNat = c.nodes.l.length + (1 + k) := by omega
    rw [e, this, Nat.add_comm 1 k]; rfl
  · rw [if_neg h0, if_neg h0]
    have hmem : (ch.getD k Jj).l.getD (m - 1) 0 ∈ A5 c := by
      refine h.perm.mem_iff.1 ?_
      rw [B2 (by omega)]
      unfold E2
      refine List.mem_flatten.2 ⟨(ch.getD k Jj).l, List.mem_map.2 ⟨ch.getD k Jj, ?_, rfl⟩, List.getElem_mem _⟩
      rw [List.getD_eq_getElem?_getD, List.getElem?_eq_getElem hk]
      exact List.getElem_mem _
    have hx := List.idxOf_lt_length_iff.2 hmem
    have hy : (A5 c).getD ((A5 c).idxOf ((ch.getD k Jj).l.getD (m - 1) 0)) 0 = (ch.getD k Jj).l.getD (m - 1) 0 := by rw [B2 hx]; exact List.getElem_idxOf hx
    have hb := Hj (k := 14) (c := c) _ hmem
    rw [qBx h hp h1 h2 hv _ (by omega), ← qHt hp h1 h2 hx, hy]
theorem qHw (h : Em c ch) (hp : Bi c = 0) {pin pst v : List Int} {e : Int} (h1 : pin.length = (Az c).length) (h2 : pst.length = (A5 c).length) (hv : v.length = ch.length) :
    Ip (C7 c ch) (An (C7 c ch) (pin ++ ([e] ++ v)) pst) = Ip c (An c pin pst) ++ ch.map fun s => Uf (pst.getD ((A5 c).idxOf (s.l.getLastD 0)) 0) := by
  have hl := q7Q h
  have hN : (An (C7 c ch) (pin ++ ([e] ++ v)) pst).length = (C7 c ch).nodes.l.length := q45
  have hM : (An c pin pst).length = c.nodes.l.length := q45
  have key : ∀ p, 0 ≤ p → p < (c.nodes.l.length : Int) → Ig (An (C7 c ch) (pin ++ ([e] ++ v)) pst) p = Ig (An c pin pst) p := fun p p0 p1 => by
    unfold Ig
    rw [if_neg (by rw [hN, hl]; omega), if_neg (by rw [hM]; omega), qBx h hp h1 h2 hv _ (by omega)]
  unfold Ip
  rw [q6e h, List.map_append, List.map_map]
  congr 1
  · exact List.map_congr_left fun p hp' => key p (h.outs.2 p hp').1 (h.outs.2 p hp').2
  · refine List.map_congr_left fun s hs => ?_
    obtain ⟨l1, l2, l3, l4⟩ := qFK h hs
    show Ig _ (s.l.getLastD 0) = _
    rw [key _ l2 l3]
    have hmem : s.l.getLastD 0 ∈ A5 c := by
      have := (q4K (c := c) (k := 14) (i := (s.l.getLastD 0).toNat) (by omega)).2 l4
      rwa [show (((s.l.getLastD 0).toNat : Nat) : Int) = s.l.getLastD 0 by omega] at this
    have hx := List.idxOf_lt_length_iff.2 hmem
    have hy : (A5 c).getD ((A5 c).idxOf (s.l.getLastD 0)) 0 = s.l.getLastD 0 := by rw [B2 hx]; exact List.getElem_idxOf hx
    unfold Ig
    rw [if_neg (by rw [hM]; omega)]
    congr 1
    rw [← qHt hp h1 h2 hx, hy]
end Go.Lg
namespace Go.Lg
open Go Go.Proofs
theorem q5n {x : CD} {first : Nat} : ∀ {k i : Nat} {ns : List Nd} {q : Nat}, ((Wu x first k i ns).getD q Nd.d).k = (ns.getD q Nd.d).k
  | 0, _, _, _ => rfl
  | k + 1, i, ns, q => by
    simp only [Wu]
    rw [q5n, q9j]
theorem qHx {x : CD} (hx : q2p x) : 0 < (Az (Ld x)).length := by
  have m4 : 0 ≤ x.i.tmod 4 ∧ x.i.tmod 4 < 4 := Bv (n := 4) hx.i.1 (by omega)
  have l1 : 1 ≤ (E5 x).length := by simp [E5]; omega
  have l2 : (E5 x).length ≤ (Ci x).length := by simp [Ci]
  have l3 : (Ci x).length ≤ (Ce x).length := by unfold Ce; split <;> simp
  have l4 : (Ce x).length ≤ (C0 x).length := by
    have : (C0 x).length = (Bm x).length := Qf
    rw [this]; unfold Bm; rw [Pi]; omega
  have e1 : (E5 x).getD 0 Nd.d = H5 := by
    unfold E5 at l1 ⊢
    rw [List.getD_eq_getElem?_getD, List.getElem?_replicate, if_pos (by simp at l1; omega)]; rfl
  have e2 : (Ci x).getD 0 Nd.d = H5 := by
    unfold Ci
    rw [List.getD_eq_getElem?_getD, List.getElem?_append_left (by omega), ← List.getD_eq_getElem?_getD, e1]
  have e3 : (Ce x).getD 0 Nd.d = H5 := by
    unfold Ce
    split
    · rw [List.getD_eq_getElem?_getD, List.getElem?_append_left (by omega), ← List.getD_eq_getElem?_getD, e2]
    · exact e2
  have hk : Aq (Ld x) 0 = 0 := by
    have hN : (Ld x).nodes.l = C0 x := rfl
    unfold Aq
    rw [hN]
    unfold C0 Bm
    rw [q5n, q3v (by omega), e3]
    rfl
  have := (q4K (c := Ld x) (k := 0) (i := 0) (by have hN : (Ld x).nodes.l = C0 x := rfl; rw [hN]; omega)).2 hk
  exact List.length_pos_iff.2 fun e => by
    have e' : Jv [0] (Ld x).nodes.l 0 = [] := e
    rw [e'] at this; cases this
theorem qKp {bus : Bool} {g : Gd} {ns : List Nd} (hg : q9N g) : (q0J bus g ns).k ≠ 14 := by
  have hk : 0 ≤ g.k := hg.1.1
  have t2 : 0 ≤ g.a.tmod 2 ∧ g.a.tmod 2 < 2 := Bv (n := 2) hg.2.1.1 (by omega)
  have t9 : 0 ≤ g.k.tmod 9 ∧ g.k.tmod 9 < 9 := Bv (n := 9) hk (by omega)
  have t13 : 0 ≤ g.k.tmod 13 ∧ g.k.tmod 13 < 13 := Bv (n := 13) hk (by omega)
  unfold q0J q9O
  obtain ⟨kk, hkk⟩ : ∃ kk, kk = (if bus = true then g.k.tmod 13 else g.k.tmod 9) := ⟨_, rfl⟩
  have hb : 0 ≤ kk ∧ kk < 13 := by rw [hkk]; split <;> omega
  rw [← hkk]
  by_cases h1 : kk < 6
  · simp only [h1, if_true]
    omega
  · simp only [h1, if_false]
    split
    · simp <;> omega
    split
    · simp <;> omega
    split
    · simp <;> omega
    split
    · by_cases h2 : 1 < (q4a ns).length
      · simp only [h2, if_true]; simp <;> omega
      · simp only [h2, if_false]; simp <;> omega
    split
    · simp <;> omega
    · simp <;> omega
theorem qDL {bus : Bool} : ∀ {l : List Gd} {ns : List Nd}, (∀ g ∈ l, q9N g) → Jv [14] (Ly bus l ns) 0 = Jv [14] ns 0
  | [], ns, _ => rfl
  | g :: l, ns, h => by
    simp only [Ly]
    have hk : (q0J bus g ns).k ≠ 14 := qKp (h g List.mem_cons_self)
    rw [qDL fun x hx => h x (List.mem_cons_of_mem _ hx), Kq]
    simp [Jv, hk]
theorem qEZ {x : CD} {first k i : Nat} {ns : List Nd} : (Wu x first k i ns).map (·.k) = ns.map (·.k) := by
  refine Uo (by rw [List.length_map, List.length_map, Qf]) fun j hj => ?_
  rw [q4O, q4O, q5n]
theorem qGN {x : CD} (hx : q2p x) (hm : x.mem = false) : (Ld x).nodes.l.length ≤ 14 ∧ (A5 (Ld x)).length ≤ 2 := by
  have m4 : 0 ≤ x.i.tmod 4 ∧ x.i.tmod 4 < 4 := Bv (n := 4) hx.i.1 (by omega)
  have m3 : 0 ≤ x.f.tmod 3 ∧ x.f.tmod 3 < 3 := Bv (n := 3) hx.f.1 (by omega)
  have l2 : (Ci x).length = (x.i.tmod 4 + 1).toNat + (x.f.tmod 3).toNat := by simp [Ci, E5]
  have l3 : Ce x = Ci x := by unfold Ce; rw [hm]; rfl
  have l4 : (Bm x).length = (Ce x).length + min 8 x.gates.l.length := by unfold Bm; rw [Pi]; simp
  have l5 : (C0 x).length = (Bm x).length := Qf
  refine ⟨?_, ?_⟩
  · show (C0 x).length ≤ 14
    rw [l5, l4, l3, l2]; omega
  · have e : A5 (Ld x) = Jv [14] (Ci x) 0 := by
      show Jv [14] (C0 x) 0 = _
      rw [Un [14] (C0 x) (Bm x) 0 qEZ]
      unfold Bm
      rw [qDL (fun g hg => hx.gates g (List.mem_of_mem_take hg)), l3]
    rw [e]
    unfold Ci
    rw [Kq]
    have e1 : Jv [14] (E5 x) 0 = [] := by unfold E5; exact Zl [14] _ rfl _ _
    rw [e1, q6f [14] (q6H 0) rfl]
    simp [Zk]; omega
theorem q9w {y : q0d} (hy : q22 y) : (C7 (Fa y) (q23 y)).nodes.l.length ≤ 19 := by
  have hs := qGN (q1i hy.x) rfl
  have h := q7O hy
  have hl := q7Q h
  have hle := q1g (q23 y) fun s hs => (h.ne s hs).1
  have hpl := h.perm.length_eq
  have e : Fa y = Ld (Ji y.x) := rfl
  rw [← e] at hs
  omega
end Go.Lg
namespace Go.Lg
open Go Go.Proofs
variable {Γ : Tables}
theorem qJB {c : B9} {ch : List (Sl Int)} (h : Em c ch) (hm : mems c = []) : mems (C7 c ch) = [] := by
  show Jv [15] (C7 c ch).nodes.l 0 = _
  rw [Un _ _ _ _ (q6g h), q3x, Kq, Kq, Zl [15] H5 rfl, Zl [15] (Vt 0 0 0) rfl, List.append_nil, List.append_nil]
  exact hm
theorem qKq (hΓ : GOk Γ) {c : B9} {ch : List (Sl Int)} (h : Em c ch) (hc : NOk c) (hn : (C7 c ch).nodes.l.length ≤ 19) (hmm : (C7 c ch).mems.l = []) {p : Pat} (hp : POk (C7 c ch) p) :
    Ai Tryz.prog Γ 15 [.agg (tC (C7 c ch)), .agg (tP p)] (.tup [.agg [Pl (Ip (C7 c ch) (An (C7 c ch) p.inn.l p.st.l)), Pl (B7 (C7 c ch) (An (C7 c ch) p.inn.l p.st.l))], .sl (Av (An (C7 c ch) p.inn.l p.st.l)) (some (C7 c ch).nodes.l.length) none, tI 0]) := by
  have hr := qDJ hΓ (C7 c ch) (qKm h) hn p ⟨by rw [hp.i]; have := Jf (C7 c ch); omega, by rw [hp.s]; have := Eu (C7 c ch); omega⟩ ⟨fun v hv => (hp.vi v hv).1, fun v hv => (hp.vs v hv).1⟩
  unfold q9o at hr
  have a1 : ∀ {l : List Int}, (∀ v ∈ l, V4 v) → l.any Br = false := fun h => List.any_eq_false.2 fun v hv => by have := (h v hv).2; simp [Br]; omega
  have hz : q0u (C7 c ch) p = 0 := by
    unfold q0u
    rw [if_neg (by simp [q3w h])]
    unfold Ox
    rw [if_neg (by rw [hmm, qJB h hc.m0]; simp), if_neg (by simp [hp.i, hp.s]), a1 hp.vi, a1 hp.vs]
    simp
  rwa [if_pos hz] at hr
theorem gE' {α : Type} {f : α → T} {l : List α} {i : Nat} (d : α) (h0 : i < l.length) : ∀ h : i < (Ae f l).length, (Ae f l)[i] = [f (l.getD i d)] := fun h => by
  have := Bc (f := f) d h0
  rw [List.getElem?_eq_getElem h] at this
  simpa [List.getD_eq_getElem?_getD] using this
theorem gE {α : Type} {f : α → T} {l : List α} {i : Nat} (d : α) (h0 : i < l.length) : (Ae f l)[i]?.getD [] = [f (l.getD i d)] := by
  rw [List.getElem?_eq_getElem (by rw [A0]; exact h0)]
  exact gE' d h0 _
def q9x (l : List Int) (n : Nat) (most : Int) : Sl Int := if n = 0 then ⟨[], some 0, some true⟩ else ⟨Ed l n most, none, none⟩
theorem qHy {l : List Int} {n : Nat} {most : Int} : (q9x l n most).l = Ed l n most := by
  unfold q9x
  split
  · rename_i h; subst h; rfl
  · rfl
theorem q8e {l : List Int} {n : Nat} {most : Int} (hn : n ≤ 1000000) : q0s (q9x l n most) := by
  unfold q9x
  split
  · exact ⟨fun _ => rfl, (fun h => nomatch h), Nat.zero_le _⟩
  · rename_i h
    refine ⟨(fun h => nomatch h), fun _ e => h (by have := congrArg List.length (show Ed l n most = [] from e); rwa [Md] at this), by show (Ed l n most).length ≤ _; rw [Md]; exact hn⟩
theorem qBL (l : Sl Int) (n : Nat) (hn : n ≤ 1000000000) (most : Int) (hm : 0 < most) : Ab Tryz.prog Γ 51 [tV l, tI n, tK most] (tV (q9x l.l n most)) := by
  by_cases h : n = 0
  · subst h
    refine Ad q7L rfl ?_
    simp [q2Z]
    refine q4g fun K hK => ?_
    simp [q2a, q9x, tV, Dh]
  · have := qEY (Γ := Γ) l n hn most hm
    simpa [q9x, h, tV] using this
def Up (q : PD) (c : B9) : Pat := ⟨q9x q.i.l (Az c).length 4, q9x q.s.l (A5 c).length 3⟩
theorem qHz {q : PD} {c : B9} : (Up q c).inn.l = qMR q c := qHy
theorem qI0 {q : PD} {c : B9} : (Up q c).st.l = qMS q c := qHy
theorem q8f {q : PD} (hq : q6h q) (c : B9) : POk c (Up q c) := by
  have h := qHr hq c
  exact ⟨by rw [qHz]; exact h.i, by rw [qI0]; exact h.s, by rw [qHz]; exact h.vi, by rw [qI0]; exact h.vs⟩
theorem q24 (q : PD) (hq : q6h q) (c : B9) (hc : COk c) : Ai Tryz.prog Γ 14 [.agg (tPD q), .agg (tC c)] (.agg (tP (Up q c))) := by
  refine Ap q8O rfl ?_
  have h1 := qBL (Γ := Γ) q.i (Az c).length (Nat.le_trans (Jf c) hc.nodes) 4 (by omega)
  have h2 := qBL (Γ := Γ) q.s (A5 c).length (Nat.le_trans (Eu c) hc.nodes) 3 (by omega)
  simp only [Up, tP]
  generalize q9x q.i.l (Az c).length 4 = A at *
  generalize q9x q.s.l (A5 c).length 3 = B at *
  simp [q3t, tC, Ac, Ah, Am, Aw, tPD, tV]
  refine A6 (q9q c hc 0) rfl ?_
  simp
  refine A6 h1 rfl ?_
  simp
  refine A6 (q9q c hc 14) rfl ?_
  simp
  refine A6 h2 rfl ?_
  simp [q3u, tV]
def mpE {α : Type} (f : α → T) (l : List (Int × α)) : List (Value × T) := l.map fun p => (.int .i64 p.1, f p.2)
def Qk {α : Type} (d : α) (n : Int) : List (Int × α) → α
  | [] => d
  | p :: l => if n = p.1 then p.2 else Qk d n l
theorem Xq {α : Type} {f : α → T} (l : List (Int × α)) : Iy (.int .i64) (mpE f l) := by
  intro e he; obtain ⟨s, _, rfl⟩ := List.mem_map.1 he; rfl
theorem Zo {α : Type} {f : α → T} (d : α) (n : Int) : ∀ l : List (Int × α), (Eh (.int .i64 n) (mpE f l)).getD (f d) = f (Qk d n l)
  | [] => rfl
  | p :: l => by
    have ih := Zo (f := f) d n l
    simp only [mpE, List.map_cons, Eh, Tf, Qk] at ih ⊢
    by_cases h : n = p.1
    · simp [h]
    · simp [h, ih]
theorem q6i {α : Type} {f : α → T} (n : Int) (a : α) : ∀ l : List (Int × α), n ∉ l.map (·.1) → q1k (.int .i64 n) (f a) (mpE f l) = mpE f (l ++ [(n, a)])
  | [], _ => rfl
  | p :: l, h => by
    simp only [List.map_cons, List.mem_cons, not_or] at h
    have ih := q6i (f := f) n a l h.2
    simp only [mpE, List.map_cons, q1k, Tf, List.cons_append] at ih ⊢
    simp [h.1, ih]
def C3 (l : List (Sl Int)) : Nat := l.foldl (fun n s => max n s.l.length) 0
theorem qDM {Q : AX → St → Prop} (chs : Sl (Sl Int)) (hl : chs.l.length ≤ 1000000) (hs : ∀ s ∈ chs.l, s.l.length ≤ 1000000) (R : Nat)
    (h0 : Q (.exit 0) ⟨[(3, .t (tI R)), (6, .t (.sl (Ae Aw chs.l) chs.cap chs.nl)), (7, .t (tI chs.l.length)), (8, .t (tI chs.l.length)), (9, .t (tB false))], []⟩) :
    ∀ (k i n : Nat), k + i = chs.l.length → (chs.l.drop i).foldl (fun n s => max n s.l.length) n = R →
    run Tryz.prog Γ P0 Q ⟨[(3, .t (tI n)), (6, .t (.sl (Ae Aw chs.l) chs.cap chs.nl)), (7, .t (tI chs.l.length)), (8, .t (tI i))], []⟩
  | 0, i, n, h, hR => by
    refine X4 fun K hK => ?_
    rw [List.drop_of_length_le (by omega)] at hR
    have h2 : i = chs.l.length := by omega
    subst h2
    have hR : n = R := hR
    subst hR
    simp
    simpa using h0
  | k + 1, i, n, h, hR => by
    refine X4 fun K hK => ?_
    have h2 : i < chs.l.length := by omega
    rw [List.drop_eq_getElem_cons h2, List.foldl_cons] at hR
    have e := gE (f := Aw) ⟨[], none, none⟩ h2
    have e' := gE' (f := Aw) ⟨[], none, none⟩ h2
    rw [show chs.l.getD i ⟨[], none, none⟩ = chs.l[i] by simp [List.getD_eq_getElem?_getD, h2]] at e e'
    have ih := qDM chs hl hs R h0 k (i + 1) _ (by omega) hR
    generalize chs.l[i] = s at *
    simp only [Aw] at e e'
    have w1 : IntKind.i64.wrap ((i : Int) + 1) = (i : Int) + 1 := by rw [A7] <;> omega
    have hm3 : (if n < s.l.length then (s.l.length : Int) else n) = ((max n s.l.length : Nat) : Int) := by split <;> omega
    have hm : (if (s.l.length : Int) > n then (s.l.length : Int) else n) = ((max n s.l.length : Nat) : Int) := by split <;> omega
    have hm2 : (if (n : Int) < s.l.length then (s.l.length : Int) else n) = ((max n s.l.length : Nat) : Int) := by split <;> omega
    simp [h2, A0, Aa, e, e', w1, hm, hm2, hm3]
    rw [hK]
    simpa using ih
theorem q25 (chs : Sl (Sl Int)) (hl : chs.l.length ≤ 1000000) (hs : ∀ s ∈ chs.l, s.l.length ≤ 1000000) : Ab Tryz.prog Γ 39 [Bn chs] (tI (C3 chs.l)) := by
  refine Ad q7I rfl ?_
  have g := fun Q h0 => qDM (Γ := Γ) (Q := Q) chs hl hs (C3 chs.l) h0 chs.l.length 0 0 (by omega) (by simp [C3])
  simp [q2Q, Bn, A0]
  refine g _ ?_
  simp [q2R]
def Nh (l : List Int) (n : Nat) : Int := if l.length ≠ n then 8 else if l.any Br = true then 1 else 0
theorem qEa (v : Int) : Ab Tryz.prog Γ 144 [tK v] (tB (Br v)) := by
  refine Ad q4f rfl ?_
  simp [Zf, Zg, Br]
theorem q46 (s : Sl Int) (hs : s.l.length ≤ 1000000000) (n : Nat) : Ab Tryz.prog Γ 101 [tV s, tI n] (tI (Nh s.l n)) := by
  refine Ad q6a rfl ?_
  have e := E1 (Γ := Γ) s.l s.cap s.nl 144 [] Br (fun x _ => qEa x) hs
  unfold Nh
  by_cases h : s.l.length = n
  · subst h
    simp [Ul, tV, A0]
    refine A6 e rfl ?_
    cases h3 : s.l.any Br
    · simp [h3, Nb]
    · simp [h3, Nb]
  · have h' : ¬ (s.l.length : Int) = n := by omega
    simp [Ul, tV, A0, h, h', Nb]
def ofZ (st pst : List Int) : List (Int × Int) := st.zip (pst.map B8)
theorem qFQ {st pst : List Int} (h : pst.length = st.length) : (ofZ st pst).length = st.length := by simp [ofZ, h]
theorem qJC {st pst : List Int} (h : pst.length = st.length) {i : Nat} (hi : i < st.length) : (ofZ st pst)[i]'(by rw [qFQ h]; exact hi) = (st.getD i 0, B8 (pst.getD i 0)) := by
  simp [ofZ, List.getD_eq_getElem?_getD, hi, h]
theorem qI1 {st pst : List Int} (h : pst.length = st.length) {i : Nat} (hi : i < st.length) : (ofZ st pst).take (i + 1) = (ofZ st pst).take i ++ [(st.getD i 0, B8 (pst.getD i 0))] := by
  rw [← qJC h hi, List.take_append_getElem]
theorem qJD {st pst : List Int} (hd : st.Nodup) {i : Nat} (hi : i < st.length) : st.getD i 0 ∉ ((ofZ st pst).take i).map (·.1) := by
  intro hm
  obtain ⟨p, hp, e⟩ := List.mem_map.1 hm
  obtain ⟨j, hj, rfl⟩ := List.getElem_of_mem hp
  simp only [List.length_take, List.getElem_take, ofZ, List.getElem_zip] at hj e
  rw [B2 hi] at e
  have := (List.getElem_inj hd).1 e
  omega
theorem qKr {st pst : List Int} (h : pst.length = st.length) (hd : st.Nodup) {i : Nat} (hi : i < st.length) : Qk 0 (st.getD i 0) (ofZ st pst) = B8 (pst.getD i 0) := by
  unfold ofZ
  induction st generalizing pst i with
  | nil => simp at hi
  | cons a st ih =>
    cases pst with
    | nil => simp at h
    | cons b pst =>
      simp only [List.map_cons, List.zip_cons_cons, Qk]
      cases i with
      | zero => simp
      | succ i =>
        simp only [List.length_cons] at hi h
        have hne : ¬ (a :: st).getD (i + 1) 0 = a := by
          rw [List.getD_cons_succ, B2 (by omega)]
          intro e
          exact (List.nodup_cons.1 hd).1 (e ▸ List.getElem_mem _)
        rw [if_neg hne, List.getD_cons_succ, List.getD_cons_succ]
        exact ih (by omega) (List.nodup_cons.1 hd).2 (by omega)
theorem qJl {Q : AX → St → Prop} (chT : T) (st : List Int) (sc : Option Nat) (sn : Option Bool) (hd : st.Nodup) (hst : st.length ≤ 1000000) (ps : Sl Int) (hps : ps.l.length = st.length)
    (h0 : Q (.exit 0) ⟨[(1, .t chT), (2, .t (tV ps)), (7, .lm 17), (19, .t (.sl (Ao st) sc sn)), (20, .t (tI st.length)), (21, .t (tI st.length)), (22, .t (tB false))], [(17, .mp (mpE tK (ofZ st ps.l)))]⟩) :
    ∀ (k i : Nat), k + i = st.length →
    run Tryz.prog Γ P1 Q ⟨[(1, .t chT), (2, .t (tV ps)), (7, .lm 17), (19, .t (.sl (Ao st) sc sn)), (20, .t (tI st.length)), (21, .t (tI i))], [(17, .mp (mpE tK ((ofZ st ps.l).take i)))]⟩
  | 0, i, h => by
    refine X5 fun K hK => ?_
    have h2 : i = st.length := by omega
    subst h2
    rw [List.take_of_length_le (by rw [qFQ hps]; exact Nat.le_refl _)]
    simp
    simpa using h0
  | k + 1, i, h => by
    refine X5 fun K hK => ?_
    have h2 : i < st.length := by omega
    have h3 : i < ps.l.length := by omega
    have ih := qJl chT st sc sn hd hst ps hps h0 k (i + 1) (by omega)
    rw [qI1 hps h2] at ih
    have hn := qJD (pst := ps.l) hd h2
    have e1 := gE (f := tI) 0 h2
    have e1' := gE' (f := tI) 0 h2
    have e2 := gE (f := tK) 0 h3
    have e2' := gE' (f := tK) 0 h3
    have w1 : IntKind.i64.wrap ((i : Int) + 1) = (i : Int) + 1 := by rw [A7] <;> omega
    generalize (ofZ st ps.l).take i = Z at *
    generalize st.getD i 0 = x at *
    generalize ps.l.getD i 0 = y at *
    have em := q6i (f := tK) x (B8 y) Z hn
    have ef := Xq (f := tK) Z
    generalize mpE tK Z = M at *
    simp [tV] at ih
    simp [tV, A0, Aa, h2, h3, e1, e1', e2, e2', w1]
    refine A6 (Ib y) rfl ?_
    simp [em, ef, KT.fits, w1]
    rw [hK]
    simpa using ih
def Me (Z : List (Int × Int)) (p : Int) (s : Sl Int) : Int := if p < s.l.length then Qk 0 (s.l.getD p.toNat 0) Z else 0
def q5o (f : Sl Int → Int) (l : List (Sl Int)) (k : Nat) : List Int := (l.take k).map f ++ List.replicate (l.length - k) 0
theorem qI2 {f : Sl Int → Int} {l : List (Sl Int)} {k : Nat} (hk : k ≤ l.length) : (q5o f l k).length = l.length := by simp [q5o]; omega
theorem qI3 {f : Sl Int → Int} {l : List (Sl Int)} {k : Nat} (hk : k < l.length) : (q5o f l k).set k (f l[k]) = q5o f l (k + 1) := by
  unfold q5o
  rw [List.set_append_right _ _ (by simp; omega)]
  rw [show k - ((l.take k).map f).length = 0 by simp; omega, show l.length - k = (l.length - (k + 1)) + 1 by omega, List.replicate_succ, List.set_cons_zero, ← List.take_append_getElem hk, List.map_append]
  simp
theorem qGO {f : Sl Int → Int} {l : List (Sl Int)} {k : Nat} (hk : k < l.length) (h : f l[k] = 0) : q5o f l (k + 1) = q5o f l k := by
  unfold q5o
  rw [show l.length - k = (l.length - (k + 1)) + 1 by omega, List.replicate_succ, ← List.take_append_getElem hk, List.map_append]
  simp [h]
theorem qI4 {f : Sl Int → Int} {l : List (Sl Int)} : q5o f l l.length = l.map f := by simp [q5o]
theorem qGP {f : Sl Int → Int} {l : List (Sl Int)} : q5o f l 0 = List.replicate l.length 0 := by simp [q5o]
theorem qJm {Q : AX → St → Prop} (ch : List (Sl Int)) (cc : Option Nat) (cn : Option Bool) (hch : ch.length ≤ 1000000) (hs : ∀ s ∈ ch, s.l.length ≤ 1000000) (Z : List (Int × Int)) (d t : Nat) (htd : t < d) (hd : d ≤ 1000000) (es : List (List T)) (p : Int) (hp : p = d - 1 - t)
    (h0 : Q (.exit 4) ⟨[(1, .t (.sl (Ae Aw ch) cc cn)), (7, .lm 17), (10, .t (tI d)), (11, .ls 71 0 t none), (12, .t (tI t)), (13, .ls 42 0 ch.length none), (36, .t (tI d)), (37, .t (tI t)), (43, .t (.sl (Ae Aw ch) cc cn)), (44, .t (tI ch.length)), (45, .t (tI ch.length)), (46, .t (tB false))],
      [(17, .mp (mpE tK Z)), (42, .sl 68 1 (Av (ch.map (Me Z p)))), (71, .sl 37 1 es)]⟩) :
    ∀ (n k : Nat), n + k = ch.length →
    run Tryz.prog Γ P2 Q ⟨[(1, .t (.sl (Ae Aw ch) cc cn)), (7, .lm 17), (10, .t (tI d)), (11, .ls 71 0 t none), (12, .t (tI t)), (13, .ls 42 0 ch.length none), (36, .t (tI d)), (37, .t (tI t)), (43, .t (.sl (Ae Aw ch) cc cn)), (44, .t (tI ch.length)), (45, .t (tI k))],
      [(17, .mp (mpE tK Z)), (42, .sl 68 1 (Av (q5o (Me Z p) ch k))), (71, .sl 37 1 es)]⟩
  | 0, k, h => by
    refine X6 fun K hK => ?_
    have h2 : k = ch.length := by omega
    subst h2
    rw [qI4]
    simp
    simpa using h0
  | n + 1, k, h => by
    refine X6 fun K hK => ?_
    have h2 : k < ch.length := by omega
    have ih := qJm ch cc cn hch hs Z d t htd hd es p hp h0 n (k + 1) (by omega)
    have e1 := gE (f := Aw) Jj h2
    have e1' := gE' (f := Aw) Jj h2
    have hx : ch.getD k Jj = ch[k] := by simp [List.getD_eq_getElem?_getD, h2]
    rw [hx] at e1 e1'
    have hsl := hs _ (List.getElem_mem h2)
    have q1 := qI3 (f := Me Z p) h2
    have q2 := qGO (f := Me Z p) h2
    have hrl := qI2 (f := Me Z p) (Nat.le_of_lt h2)
    have w1 : IntKind.i64.wrap ((k : Int) + 1) = (k : Int) + 1 := by rw [A7] <;> omega
    have w2 : IntKind.i64.wrap ((d : Int) - 1) = (d : Int) - 1 := by rw [A7] <;> omega
    have w3 : IntKind.i64.wrap ((d : Int) - 1 - t) = p := by rw [hp, A7] <;> omega
    have hp0 : 0 ≤ p := by omega
    generalize q5o (Me Z p) ch k = row at *
    generalize q5o (Me Z p) ch (k + 1) = row2 at *
    generalize ch[k] = s at *
    have hv : Me Z p s = if p < s.l.length then Qk 0 (s.l.getD p.toNat 0) Z else 0 := rfl
    simp only [Aw] at e1 e1'
    by_cases hlt : p < s.l.length
    · have h3 : p.toNat < s.l.length := by omega
      have e2 := gE (f := tI) 0 h3
      have e2' := gE' (f := tI) 0 h3
      rw [if_pos hlt] at hv
      rw [hv] at q1
      have es1 : (Av row).set k [tK (Qk 0 (s.l.getD p.toNat 0) Z)] = Av row2 := by rw [← q1]; exact Gf
      generalize s.l.getD p.toNat 0 = x at *
      have ef := Xq (f := tK) Z
      have em := Zo (f := tK) 0 x Z
      generalize mpE tK Z = M at *
      generalize Qk 0 x Z = y at *
      simp [h2, A0, Aa, e1, e1', e2, e2', w1, w2, w3, hlt, hp0, h3, em, ef, KT.fits, hrl, es1]
      rw [hK]
      simpa using ih
    · rw [if_neg hlt] at hv
      have := q2 hv
      subst this
      simp [h2, A0, Aa, e1, e1', w1, w2, w3, hlt]
      rw [hK]
      simpa using ih
def Ql (l : List Int) : T := .sl (Av l) none none
theorem qJn {Q : AX → St → Prop} (ch : List (Sl Int)) (cc : Option Nat) (cn : Option Bool) (hch : ch.length ≤ 1000000) (hs : ∀ s ∈ ch, s.l.length ≤ 1000000) (Z : List (Int × Int)) (d : Nat) (hd : d ≤ 1000000)
    (h0 : Q (.exit 2) ⟨[(1, .t (.sl (Ae Aw ch) cc cn)), (7, .lm 17), (10, .t (tI d)), (11, .ls 71 0 d none), (36, .t (tI d)), (37, .t (tI d)), (38, .t (tB false))],
      [(17, .mp (mpE tK Z)), (71, .sl 37 1 (Ae Ql ((List.range d).map fun t : Nat => ch.map (Me Z ((d : Int) - 1 - t)))))]⟩) :
    ∀ (k t : Nat), k + t = d →
    run Tryz.prog Γ P3 Q ⟨[(1, .t (.sl (Ae Aw ch) cc cn)), (7, .lm 17), (10, .t (tI d)), (11, .ls 71 0 t none), (36, .t (tI d)), (37, .t (tI t))],
      [(17, .mp (mpE tK Z)), (71, .sl 37 1 (Ae Ql ((List.range t).map fun t : Nat => ch.map (Me Z ((d : Int) - 1 - t)))))]⟩
  | 0, t, h => by
    refine X7 fun K hK => ?_
    have h2 : t = d := by omega
    subst h2
    simp
    simpa using h0
  | k + 1, t, h => by
    refine X7 fun K hK => ?_
    have h2 : t < d := by omega
    have ih := qJn ch cc cn hch hs Z d hd h0 k (t + 1) (by omega)
    rw [List.range_succ, List.map_append] at ih
    simp only [List.map_cons, List.map_nil] at ih
    have hel : (Ae Ql ((List.range t).map fun t : Nat => ch.map (Me Z ((d : Int) - 1 - t)))).length = t := by rw [A0]; simp
    have g := fun es Q h0 => qJm (Γ := Γ) (Q := Q) ch cc cn hch hs Z d t h2 hd es _ rfl h0 ch.length 0 (by omega)
    rw [qGP] at g
    have hre : Av (List.replicate ch.length 0) = List.replicate ch.length [tK 0] := by simp [Ae]
    rw [hre] at g
    have hel2 := By (f := Ql) (l := (List.range t).map fun t : Nat => ch.map (Me Z ((d : Int) - 1 - t))) (x := ch.map (Me Z ((d : Int) - 1 - t)))
    generalize (List.range t).map (fun t : Nat => ch.map (Me Z ((d : Int) - 1 - t))) = L at *
    have hrl : (ch.map (Me Z ((d : Int) - 1 - t))).length = ch.length := by simp
    generalize ch.map (Me Z ((d : Int) - 1 - t)) = row at *
    have w1 : IntKind.i64.wrap ((t : Int) + 1) = (t : Int) + 1 := by rw [A7] <;> omega
    have htk : (Av row).take ch.length = Av row := by rw [← hrl]; exact G7
    have htk2 : (Ae Ql L).take t = Ae Ql L := List.take_of_length_le (by omega)
    simp only [Ql] at hel2
    simp [h2, A0]
    refine ⟨by omega, ?_⟩
    refine g _ _ ?_
    simp [St.freeze, Bl.closed, D3, frz1, frz0, Eo, del, Ak, htk, htk2, hel, w1, hel2]
    refine ⟨by omega, ?_⟩
    rw [hK]
    simpa [Ql] using ih
def Df (ch : List (Sl Int)) (st pst : List Int) : List (List Int) := (List.range (C3 ch)).map fun t : Nat => ch.map (Me (ofZ st pst) ((C3 ch : Int) - 1 - t))
theorem q7S (es : List (List T)) (cap : Option Nat) (nl : Option Bool) (hw : Ec 1 es) : Ai Tryz.prog Γ 104 [.sl es cap nl] (.sl es (some es.length) nl) := by
  refine Ap Zj rfl ?_
  simp [Nv, Nw, hw]
theorem q8g {l : List (Sl Int)} {m : Nat} (h : ∀ s ∈ l, s.l.length ≤ m) : C3 l ≤ m := by
  have key : ∀ (l : List (Sl Int)) (n : Nat), n ≤ m → (∀ s ∈ l, s.l.length ≤ m) → l.foldl (fun n s => max n s.l.length) n ≤ m := by
    intro l
    induction l with
    | nil => intro n hn _; exact hn
    | cons s l ih => intro n hn h; exact ih _ (Nat.max_le.2 ⟨hn, h s List.mem_cons_self⟩) fun s hs => h s (List.mem_cons_of_mem _ hs)
  exact key l 0 (by omega) h
theorem qC0 {l : List (Sl Int)} : ∀ s ∈ l, s.l.length ≤ C3 l := by
  have key : ∀ (l : List (Sl Int)) (n : Nat), n ≤ l.foldl (fun n s => max n s.l.length) n ∧ ∀ s ∈ l, s.l.length ≤ l.foldl (fun n s => max n s.l.length) n := by
    intro l
    induction l with
    | nil => intro n; exact ⟨Nat.le_refl _, by simp⟩
    | cons a l ih =>
      intro n
      obtain ⟨h1, h2⟩ := ih (max n a.l.length)
      have hm1 := Nat.le_max_left n a.l.length
      have hm2 := Nat.le_max_right n a.l.length
      refine ⟨Nat.le_trans hm1 h1, fun s hs => ?_⟩
      rcases List.mem_cons.1 hs with rfl | hs
      · exact Nat.le_trans hm2 h1
      · exact h2 s hs
  exact (key l 0).2
theorem q9y (c : B9) (hc : COk c) (hsl : (A5 c).length ≤ 1000000) (chs : Sl (Sl Int)) (hl : chs.l.length ≤ 1000000) (hs : ∀ s ∈ chs.l, s.l.length ≤ 1000000) (ps : Sl Int) (hps : ps.l.length = (A5 c).length) :
    Ai Tryz.prog Γ 102 [.agg (tC c), Bn chs, tV ps] (.sl (Ae Ql (Df chs.l (A5 c) ps.l)) (some (Df chs.l (A5 c) ps.l).length) none) := by
  refine Ap q7J rfl ?_
  have e1 := D9 (Γ := Γ) c hc
  have e2 := q25 (Γ := Γ) chs hl hs
  have hd : (A5 c).Nodup := (Dz [14] c.nodes.l 0).2
  have g1 := fun Q sc sn h0 => qJl (Γ := Γ) (Q := Q) (.sl (Ae Aw chs.l) chs.cap chs.nl) (A5 c) sc sn hd hsl ps hps h0 (A5 c).length 0 (by omega)
  have g5 := fun Q h0 => qJn (Γ := Γ) (Q := Q) chs.l chs.cap chs.nl hl hs (ofZ (A5 c) ps.l) (C3 chs.l) (q8g hs) h0 (C3 chs.l) 0 (by omega)
  have hll : (Df chs.l (A5 c) ps.l).length = C3 chs.l := by simp [Df]
  have hL : (List.range (C3 chs.l)).map (fun t : Nat => chs.l.map (Me (ofZ (A5 c) ps.l) ((C3 chs.l : Int) - 1 - t))) = Df chs.l (A5 c) ps.l := rfl
  rw [hL] at g5
  generalize Df chs.l (A5 c) ps.l = L at *
  generalize A5 c = st at *
  have e3 := q7S (Γ := Γ) (Ae Ql L) none none Aa
  have htk : (Ae Ql L).take (C3 chs.l) = Ae Ql L := List.take_of_length_le (by rw [A0]; omega)
  simp [tV, mpE, Dh] at g1 g5
  simp [q2V, tC, Ac, Ah, Am, Aw, Bn, tV]
  simp [tC, Ac, Ah, Am, Aw, Bn] at e1 e2
  refine A8 e1 rfl ?_
  simp [A0]
  refine g1 _ _ _ ?_
  simp
  refine A6 e2 rfl ?_
  simp
  refine g5 _ ?_
  simp [St.freeze, Bl.closed, D3, frz1, frz0, Eo, del, Ak, htk]
  refine A8 e3 rfl ?_
  simp [q2W, A0]
theorem q5p (a b : Sl Int) (e : Int) (ha : a.l.length ≤ 1000000) (hb : b.l.length ≤ 1000000) : Ai Tryz.prog Γ 103 [tV a, tK e, tV b] (Pl (a.l ++ ([e] ++ b.l))) := by
  refine Ap q6b rfl ?_
  have e1 := q0L (Γ := Γ) [a, ⟨[e], some 1, some false⟩, b] (some 3) (some false) (by simp) (by simp; omega) (by simp; omega)
  have hfl : ([a, ⟨[e], some 1, some false⟩, b] : List (Sl Int)).flatMap (·.l) = a.l ++ ([e] ++ b.l) := by simp
  rw [hfl] at e1
  generalize a.l ++ ([e] ++ b.l) = A at *
  have e6 := Vo (Γ := Γ) (Av A) none none Aa
  have e1' : Ab Tryz.prog Γ 91 [.sl [[.sl (Av a.l) a.cap a.nl], [.sl [[tK e]] (some 1) (some false)], [.sl (Av b.l) b.cap b.nl]] (some 3) (some false)] (.sl (Av A) none none) := e1
  simp [q1b, tV]
  refine A6 e1' (by simp) ?_
  simp
  refine A8 e6 rfl ?_
  simp [q1c, Pl, A0]
structure qDN (Γ : Tables) (c : B9) (chs : Sl (Sl Int)) (s : Nat → List (List T)) (k : Nat → Option Nat) (n : Nat → Option Bool) (en ce : Int) : Prop where
  ok : COk c
  st : (A5 c).length ≤ 1000000
  inp : (Az c).length ≤ 1000000
  chl : chs.l.length ≤ 1000000
  cs : ∀ s ∈ chs.l, s.l.length ≤ 1000000
  call : Ai Tryz.prog Γ 29 [.agg (tC c), Bn chs] (.tup [.agg [.sl (s 0) (k 0) (n 0), .sl (s 1) (k 1) (n 1), .sl (s 2) (k 2) (n 2), .sl (s 3) (k 3) (n 3), .sl (s 4) (k 4) (n 4), tI en, .sl (s 6) (k 6) (n 6), .sl (s 7) (k 7) (n 7)], tI ce])
theorem qEb {c : B9} {chs : Sl (Sl Int)} {s : Nat → List (List T)} {k : Nat → Option Nat} {n : Nat → Option Bool} {en ce : Int} (h : qDN Γ c chs s k n en ce) (ps : Sl Int) (hp : ps.l.length ≤ 1000000) :
    Ai Tryz.prog Γ 38 [.agg (tC c), Bn chs, tV ps] (if ce ≠ 0 then .tup [.sl [] (some 0) (some true), tI ce] else if Nh ps.l (A5 c).length ≠ 0 then .tup [.sl [] (some 0) (some true), tI (Nh ps.l (A5 c).length)] else .tup [.sl (Ae Ql (Df chs.l (A5 c) ps.l)) (some (Df chs.l (A5 c) ps.l).length) none, tI 0]) := by
  refine Ap q7K rfl ?_
  have e1 := h.call
  have e2 := D9 (Γ := Γ) c h.ok
  have e3 := q46 (Γ := Γ) ps (by omega) (A5 c).length
  have e4 := fun hq => q9y (Γ := Γ) c h.ok h.st chs h.chl h.cs ps hq
  have hv : Nh ps.l (A5 c).length = 0 → ps.l.length = (A5 c).length := fun h => by
    unfold Nh at h
    split at h
    · cases h
    · rename_i h2; exact Decidable.not_not.1 h2
  generalize Df chs.l (A5 c) ps.l = L at *
  generalize Nh ps.l (A5 c).length = ve at *
  generalize A5 c = st at *
  simp [tC, Ac, Ah, Am, Aw, Bn, tV] at e1 e2 e3 e4
  simp [q2X, tC, Ac, Ah, Am, Aw, Bn, tV]
  refine A8 e1 rfl ?_
  by_cases hc : ce = 0
  · subst hc
    simp
    refine A8 e2 rfl ?_
    simp [A0]
    refine A6 e3 rfl ?_
    by_cases hv0 : ve = 0
    · subst hv0
      simp
      refine A8 (e4 (hv rfl)) rfl ?_
      simp [P4]
    · simp [hv0, P4]
  · simp [hc, P4]
def Ag (n : Nat) : List Int := List.replicate n 0
def Nx (ch : List (Sl Int)) (st pin pst : List Int) : List (List Int) :=
  (Df ch st pst).map (fun s => Ag pin.length ++ ([1] ++ s)) ++ ([pin ++ ([0] ++ Ag ch.length)] ++ List.replicate (C3 ch) (Ag pin.length ++ ([1] ++ Ag ch.length)))
def stE (chT : T) (p : Sl Int) (s : Sl Int) (i m : Nat) : List (Nat × AV) := [(1, .t chT), (5, .t (.ip [tV p, tV s] 0)), (12, .t (Ql (Ag i))), (13, .t (Ql (Ag m))), (14, .t (.fn 103 []))]
theorem qJo {Q : AX → St → Prop} (chT : T) (p s : Sl Int) (i m : Nat) (hi : i ≤ 1000000) (L : List (List Int)) (hL : L.length ≤ 1000000) (hLs : ∀ r ∈ L, r.length ≤ 1000000) (R : List (List Int))
    (h0 : Q (.exit 0) ⟨stE chT p s i m ++ [(15, .ls 76 0 L.length none), (64, .t (.sl (Ae Ql L) (some L.length) none)), (65, .t (tI L.length)), (66, .t (tI L.length)), (67, .t (tB false))], [(76, .sl 37 1 (Ae Pl R))]⟩) :
    ∀ (k j : Nat) (out : List (List Int)), k + j = L.length → out.length = j → out ++ (L.drop j).map (fun s => Ag i ++ ([1] ++ s)) = R →
    run Tryz.prog Γ Sv Q ⟨stE chT p s i m ++ [(15, .ls 76 0 j none), (64, .t (.sl (Ae Ql L) (some L.length) none)), (65, .t (tI L.length)), (66, .t (tI j))], [(76, .sl 37 1 (Ae Pl out))]⟩
  | 0, j, out, h, ho, hR => by
    refine Zh fun K hK => ?_
    have h2 : j = L.length := by omega
    subst h2
    simp only [List.drop_length, List.map_nil, List.append_nil] at hR
    subst hR
    simp [stE]
    simpa [stE] using h0
  | k + 1, j, out, h, ho, hR => by
    refine Zh fun K hK => ?_
    have h2 : j < L.length := by omega
    rw [List.drop_eq_getElem_cons h2, List.map_cons] at hR
    have hr := hLs _ (List.getElem_mem h2)
    have e := gE (f := Ql) [] h2
    have e' := gE' (f := Ql) [] h2
    rw [show L.getD j [] = L[j] by simp [List.getD_eq_getElem?_getD, h2]] at e e'
    generalize L[j] = r at *
    have ih := qJo chT p s i m hi L hL hLs R h0 k (j + 1) (out ++ [Ag i ++ ([1] ++ r)]) (by omega) (by simp [ho]) (by rw [← hR]; simp)
    have e2 := q5p (Γ := Γ) ⟨Ag i, none, none⟩ ⟨r, none, none⟩ 1 (by simp [Ag]; exact hi) hr
    have hs := By (f := Pl) (l := out) (x := Ag i ++ ([1] ++ r))
    generalize Ag i ++ ([1] ++ r) = row at *
    have htk : (Ae Pl out).take j = Ae Pl out := List.take_of_length_le (by rw [A0]; omega)
    have w1 : IntKind.i64.wrap ((j : Int) + 1) = (j : Int) + 1 := by rw [A7] <;> omega
    simp [stE] at ih
    simp only [Ql] at e e'
    simp only [tV] at e2
    simp [stE, h2, A0, Aa, e, e', Ql]
    refine A8 e2 rfl ?_
    simp only [Pl] at hs
    simp [Pl, htk, hs, w1, ho, A0]
    refine ⟨by omega, ?_⟩
    rw [hK]
    simpa [Ql, Pl] using ih
theorem qJp {Q : AX → St → Prop} (i m d : Nat) (hi : i ≤ 1000000) (hm : m ≤ 1000000) (hd : d ≤ 1000000) (n0 : Nat) (hn0 : n0 ≤ 1000001) (R : List (List Int)) (row : List Int) (hrow : row = Ag i ++ ([1] ++ Ag m))
    (h0 : Q (.exit 2) ⟨[(12, .t (Ql (Ag i))), (13, .t (Ql (Ag m))), (14, .t (.fn 103 [])), (15, .ls 76 0 (n0 + d) none), (87, .t (tI d)), (88, .t (tI d)), (89, .t (tB false))], [(76, .sl 37 1 (Ae Pl R))]⟩) :
    ∀ (k j : Nat) (out : List (List Int)), k + j = d → out.length = n0 + j → out ++ List.replicate k row = R →
    run Tryz.prog Γ Sz Q ⟨[(12, .t (Ql (Ag i))), (13, .t (Ql (Ag m))), (14, .t (.fn 103 [])), (15, .ls 76 0 (n0 + j) none), (87, .t (tI d)), (88, .t (tI j))], [(76, .sl 37 1 (Ae Pl out))]⟩
  | 0, j, out, h, ho, hR => by
    refine Zi fun K hK => ?_
    have h2 : j = d := by omega
    subst h2
    simp only [List.replicate_zero, List.append_nil] at hR
    subst hR
    simp
    simpa using h0
  | k + 1, j, out, h, ho, hR => by
    refine Zi fun K hK => ?_
    have h2 : j < d := by omega
    have ih := qJp i m d hi hm hd n0 hn0 R row hrow h0 k (j + 1) (out ++ [row]) (by omega) (by simp [ho]; omega) (by rw [← hR, List.replicate_succ]; simp)
    have e2 := q5p (Γ := Γ) ⟨Ag i, none, none⟩ ⟨Ag m, none, none⟩ 1 (by simp [Ag]; exact hi) (by simp [Ag]; exact hm)
    rw [show (⟨Ag i, none, none⟩ : Sl Int).l ++ ([1] ++ (⟨Ag m, none, none⟩ : Sl Int).l) = row from hrow.symm] at e2
    have hs := By (f := Pl) (l := out) (x := row)
    have htk : (Ae Pl out).take (n0 + j) = Ae Pl out := List.take_of_length_le (by rw [A0]; omega)
    have w1 : IntKind.i64.wrap ((j : Int) + 1) = (j : Int) + 1 := by rw [A7] <;> omega
    simp only [tV] at e2
    rw [← Nat.add_assoc] at ih
    simp [h2, Ql]
    refine A8 e2 rfl ?_
    simp only [Pl] at hs
    simp [Pl, htk, hs, w1, ho, A0]
    refine ⟨by omega, ?_⟩
    rw [hK]
    simpa [Ql, Pl] using ih
def q6j (c : B9) (p : Pat) : Int := if p.inn.l.length ≠ (Az c).length ∨ p.st.l.length ≠ (A5 c).length then 8 else if p.inn.l.any Br = true ∨ p.st.l.any Br = true then 1 else 0
def qC1 (c : B9) (ch : List (Sl Int)) (p : Pat) (ce : Int) : T :=
  if ce ≠ 0 then .tup [.sl [] (some 0) (some true), tI ce] else if q6j c p ≠ 0 then .tup [.sl [] (some 0) (some true), tI (q6j c p)]
  else .tup [.sl (Ae Pl (Nx ch (A5 c) p.inn.l p.st.l)) (some (Nx ch (A5 c) p.inn.l p.st.l).length) none, tI 0]
theorem q5q {ch : List (Sl Int)} {st pst : List Int} : ∀ r ∈ Df ch st pst, r.length = ch.length := by
  intro r hr
  obtain ⟨t, _, rfl⟩ := List.mem_map.1 hr
  simp
theorem Ur {ch : List (Sl Int)} {st pst : List Int} : (Df ch st pst).length = C3 ch := by simp [Df]
set_option maxHeartbeats 1000000 in
theorem qGQ {c : B9} {chs : Sl (Sl Int)} {s : Nat → List (List T)} {k : Nat → Option Nat} {n : Nat → Option Bool} {en ce : Int} (h : qDN Γ c chs s k n en ce) (p : Pat) (hp : p.inn.l.length ≤ 1000000 ∧ p.st.l.length ≤ 1000000) :
    Ai Tryz.prog Γ 42 [.agg (tC c), Bn chs, .agg (tP p)] (qC1 c chs.l p ce) := by
  refine Ap q8N rfl ?_
  have e1 := h.call
  have e2 := q0R (Γ := Γ) c h.ok
  have e3 := D9 (Γ := Γ) c h.ok
  have e4 := q46 (Γ := Γ) p.inn (by omega) p.inn.l.length
  have e5 := q46 (Γ := Γ) p.st (by omega) p.st.l.length
  have e6 := fun hq => q9y (Γ := Γ) c h.ok h.st chs h.chl h.cs p.st hq
  have e7 := q25 (Γ := Γ) chs h.chl h.cs
  have e8 := q5p (Γ := Γ) p.inn ⟨Ag chs.l.length, none, none⟩ 0 hp.1 (by simp [Ag]; exact h.chl)
  have hdl : C3 chs.l ≤ 1000000 := q8g h.cs
  have hi := h.inp
  have hs := h.st
  have hc := h.chl
  have v4 : Nh p.inn.l p.inn.l.length = if p.inn.l.any Br = true then 1 else 0 := by unfold Nh; rw [if_neg (by simp)]
  have v5 : Nh p.st.l p.st.l.length = if p.st.l.any Br = true then 1 else 0 := by unfold Nh; rw [if_neg (by simp)]
  rw [v4] at e4
  rw [v5] at e5
  unfold qC1 q6j Nx
  generalize p.inn.l.any Br = A at *
  generalize p.st.l.any Br = B at *
  have hLs := q5q (ch := chs.l) (st := A5 c) (pst := p.st.l)
  have hLl := Ur (ch := chs.l) (st := A5 c) (pst := p.st.l)
  generalize Df chs.l (A5 c) p.st.l = L at *
  have g1 := fun Q h0 => qJo (Γ := Γ) (Q := Q) (.sl (Ae Aw chs.l) chs.cap chs.nl) p.inn p.st p.inn.l.length chs.l.length hp.1 L (by omega) (fun r hr => by rw [hLs r hr]; exact hc) (L.map fun s => Ag p.inn.l.length ++ ([1] ++ s)) h0 L.length 0 [] (by omega) rfl (by simp)
  have g3 := fun Q R h0 out ho hR => qJp (Γ := Γ) (Q := Q) p.inn.l.length chs.l.length (C3 chs.l) hp.1 hc hdl (L.length + 1) (by omega) R _ rfl h0 (C3 chs.l) 0 out (by omega) ho hR
  have hz1 : Av (Ag p.inn.l.length) = List.replicate p.inn.l.length [tK 0] := by simp [Ag, Ae]
  have hz2 : Av (Ag chs.l.length) = List.replicate chs.l.length [tK 0] := by simp [Ag, Ae]
  have hcyc : [p.inn.l ++ ([0] ++ Ag chs.l.length)] = [p.inn.l ++ ([0] ++ (⟨Ag chs.l.length, none, none⟩ : Sl Int).l)] := rfl
  rw [hcyc]
  have hsn := By (f := Pl) (l := L.map fun s => Ag p.inn.l.length ++ ([1] ++ s)) (x := p.inn.l ++ ([0] ++ (⟨Ag chs.l.length, none, none⟩ : Sl Int).l))
  have hml : (L.map fun s => Ag p.inn.l.length ++ ([1] ++ s)).length = L.length := by simp
  generalize (p.inn.l ++ ([0] ++ (⟨Ag chs.l.length, none, none⟩ : Sl Int).l)) = row at *
  generalize (L.map fun s => Ag p.inn.l.length ++ ([1] ++ s)) = M at *
  have htk : (Ae Pl M).take L.length = Ae Pl M := List.take_of_length_le (by rw [A0]; omega)
  have g3' := fun Q h0 => g3 Q (M ++ ([row] ++ List.replicate (C3 chs.l) (Ag p.inn.l.length ++ ([1] ++ Ag chs.l.length)))) h0 (M ++ [row]) (by simp [hml]) (by simp)
  have hRl : (M ++ ([row] ++ List.replicate (C3 chs.l) (Ag p.inn.l.length ++ ([1] ++ Ag chs.l.length)))).length = L.length + 1 + C3 chs.l := by simp [hml]; omega
  generalize (M ++ ([row] ++ List.replicate (C3 chs.l) (Ag p.inn.l.length ++ ([1] ++ Ag chs.l.length)))) = R at *
  have e9 := q7S (Γ := Γ) (Ae Pl R) none none Aa
  have htR : (Ae Pl R).take (L.length + 1 + C3 chs.l) = Ae Pl R := List.take_of_length_le (by rw [A0]; omega)
  simp [tC, Ac, Ah, Am, Aw, Bn, tV] at e1 e2 e3 e4 e5 e6 e7 e8
  simp [stE, Ql, hz1, hz2, tV, Dh] at g1
  simp [Ql, hz1, hz2] at g3'
  simp [hz2] at e8
  simp only [Pl] at hsn
  simp [q3r, tC, Ac, Ah, Am, Aw, Bn, tP, tV]
  refine A8 e1 rfl ?_
  by_cases hce : ce = 0
  case neg => simp [hce, Gn]
  subst hce
  simp
  refine A8 e2 rfl ?_
  simp
  refine A8 e3 rfl ?_
  by_cases hl : p.inn.l.length = (Az c).length
  case neg =>
    have hl' : ¬ (p.inn.l.length : Int) = (Az c).length := by omega
    simp [A0, hl, hl', Gn]
  by_cases hm : p.st.l.length = (A5 c).length
  case neg =>
    have hm' : ¬ (p.st.l.length : Int) = (A5 c).length := by omega
    simp [A0, hl, hm, hm', Gn]
  simp [A0, ← hl, ← hm]
  refine A6 e4 rfl ?_
  simp
  refine A6 e5 rfl ?_
  cases A
  case true => cases B <;> simp [Gn, hl, hm]
  cases B
  case true => simp [Gn, hl, hm]
  simp [St.freeze, Bl.closed, D3, frz1, frz0, Eo, del, Ak, A0]
  refine ⟨by omega, by omega, ?_⟩
  refine A8 (e6 hm) rfl ?_
  simp [A0]
  refine g1 _ ?_
  simp
  refine A8 e8 rfl ?_
  simp [Pl, htk, hsn, A0, hml]
  refine ⟨by omega, ?_⟩
  refine A6 e7 rfl ?_
  simp
  refine g3' _ ?_
  simp [St.freeze, Bl.closed, D3, frz1, frz0, Eo, del, Ak, htR]
  refine A8 e9 rfl ?_
  simp [Gn, A0, hl, hm]
theorem qC2 (hΓ : GOk Γ) {c : B9} {chs : Sl (Sl Int)} (h : qD3 c chs) (hi : (Az c).length ≤ 1000000) (hs : ∀ s ∈ chs.l, s.l.length ≤ 1000000) : ∃ s k n en, qDN Γ c chs s k n en 0 ∧ (s 3).length = (C7 c chs.l).outs.l.length := by
  have e := q7z (Γ := Γ) hΓ c chs h
  simp only [qFD] at e
  generalize hD : C7 c chs.l = D at e
  refine ⟨fun j => match j with | 0 => As C4 D.nodes.l | 1 => Ae tS D.names.l | 2 => As tMm D.mems.l | 3 => Ao D.outs.l | 4 => Ae Aw (Td c chs.l).cl | 6 => Ao (Td c chs.l).ins | _ => Ao (scJ c chs.l).muxes,
    fun j => match j with | 0 => D.nodes.cap | 1 => D.names.cap | 2 => D.mems.cap | 3 => D.outs.cap | 4 => some (Td c chs.l).cl.length | 6 => some (Td c chs.l).ins.length | _ => some (scJ c chs.l).muxes.length,
    fun j => match j with | 0 => D.nodes.nl | 1 => D.names.nl | 2 => D.mems.nl | 3 => D.outs.nl | _ => none, c.nodes.l.length, ⟨h.ok, by have := h.s100; omega, hi, by have := h.len; omega, hs, ?_⟩, A0⟩
  have e2 := e
  simp only [tC, Ac, Ah, Am, Aw, List.cons_append, List.nil_append] at e2
  simpa only [tC, Ac, Ah, Am, Aw] using e2
structure Rsp where
  out : Sl Int
  next : Sl Int
def Jk (r : Rsp) : List T := [tV r.out, tV r.next]
def W9 : Rsp := ⟨⟨[], none, none⟩, ⟨[], none, none⟩⟩
theorem q1j {l : List Rsp} : Ec 2 (As Jk l) := q3D fun _ => rfl
theorem gR {l : List Rsp} {i : Nat} (h : i < l.length) : (As Jk l)[i]?.getD [] = Jk (l.getD i W9) := by
  rw [D8 W9 h]; rfl
theorem gR' {l : List Rsp} {i : Nat} (h0 : i < l.length) : ∀ h : i < (As Jk l).length, (As Jk l)[i] = Jk (l.getD i W9) := fun h => by rw [← gR h0]; simp [h]
theorem Zp {Q : AX → St → Prop} (l : List Rsp) (c : Option Nat) (nl : Option Bool) (f : FuncId) (cs : List T) (p : Rsp → Bool) (hp : ∀ x ∈ l, Ab Tryz.prog Γ f (.agg (Jk x) :: cs) (tB (p x))) (hl : l.length ≤ 1000000000)
    (h0 : (∀ x ∈ l, p x = false) → Q (.exit 0) ⟨[(0, .t (.sl (As Jk l) c nl)), (1, .t (.fn f cs)), (7, .t (tI l.length)), (8, .t (tI l.length)), (9, .t (tB false))], []⟩)
    (h1 : ∀ i : Nat, l.findIdx? p = some i → Q .ret ⟨[(4, .t (tI i))], []⟩) : ∀ (k i : Nat), k + i = l.length → (∀ j, j < i → ∀ y, l[j]? = some y → p y = false) →
    run Tryz.prog Γ D1 Q ⟨[(0, .t (.sl (As Jk l) c nl)), (1, .t (.fn f cs)), (7, .t (tI l.length)), (8, .t (tI i))], []⟩
  | 0, i, h, hq => by
    refine F9 fun K hK => ?_
    have h3 : i = l.length := by omega
    subst h3
    simp
    refine h0 fun y hy => ?_
    obtain ⟨j, hj, rfl⟩ := List.getElem_of_mem hy
    exact hq j (by omega) _ (List.getElem?_eq_getElem hj)
  | k + 1, i, h, hq => by
    refine F9 fun K hK => ?_
    have h2 : i < l.length := by omega
    have e := gR h2
    have e' := gR' h2
    have hx : l.getD i W9 = l[i] := by simp [List.getD_eq_getElem?_getD, h2]
    rw [hx] at e e'
    have hc := hp l[i] (List.getElem_mem h2)
    have w1 : IntKind.i64.wrap ((i : Int) + 1) = (i : Int) + 1 := by rw [A7] <;> omega
    cases hpx : p l[i] with
    | true =>
      have hf := Yy hq l[i] (List.getElem?_eq_getElem h2) hpx
      have := h1 i hf
      rw [hpx] at hc
      generalize l[i] = x at *
      simp only [Jk] at e e' hc
      simp [Af, q1j, h2, e, e']
      refine Uc hc ?_
      simpa using this
    | false =>
      have ih := Zp l c nl f cs p hp hl h0 h1 k (i + 1) (by omega) (fun j hj y hy => by
        rcases Nat.lt_succ_iff_lt_or_eq.1 hj with hj | rfl
        · exact hq j hj y hy
        · rw [List.getElem?_eq_getElem h2] at hy; simp at hy; subst hy; exact hpx)
      rw [hpx] at hc
      generalize l[i] = x at *
      simp only [Jk] at e e' hc
      simp [Af, q1j, h2, e, e']
      refine Uc hc ?_
      simp [w1]
      rw [hK]
      simpa using ih
theorem q7T (l : List Rsp) (c : Option Nat) (nl : Option Bool) (f : FuncId) (cs : List T) (p : Rsp → Bool) (hp : ∀ x ∈ l, Ab Tryz.prog Γ f (.agg (Jk x) :: cs) (tB (p x))) (hl : l.length ≤ 1000000000) : Ab Tryz.prog Γ 105 [.sl (As Jk l) c nl, .fn f cs] (tB (l.any p)) := by
  have hi : Ab Tryz.prog Γ 145 [.sl (As Jk l) c nl, .fn f cs] (tI (W1 p l)) := by
    refine Ad Qj rfl ?_
    simp [Hf, Af]
    refine Zp l c nl f cs p hp hl (fun h => ?_) (fun i h => ?_) l.length 0 (by omega) (by simp)
    · have : l.findIdx? p = none := List.findIdx?_eq_none_iff.2 h
      simp [E8, W1, this]
    · simp [E8, W1, h]
  refine Ad O7 rfl ?_
  simp [G1]
  refine A6 hi rfl ?_
  simp [G2]
  unfold W1
  cases h : l.findIdx? p with
  | none =>
    rw [List.findIdx?_eq_none_iff] at h
    have : l.any p = false := by rw [List.any_eq_false]; intro x hx; simp [h x hx]
    simp [this]
  | some i =>
    rw [List.findIdx?_eq_some_iff_getElem] at h
    obtain ⟨hi, h1, _⟩ := h
    have : l.any p = true := List.any_eq_true.2 ⟨_, List.getElem_mem hi, h1⟩
    simp [this]
theorem qGR (r : Rsp) (a0 a1 a2 a4 a5 a6 a7 : T) (s : List (List T)) (k : Option Nat) (n : Option Bool) : Ab Tryz.prog Γ 106 [.agg (Jk r), .ip [a0, a1, a2, .sl s k n, a4, a5, a6, a7] 0] (tB (decide (r.out.l.length ≠ s.length))) := by
  refine Ad q3s rfl ?_
  by_cases h : r.out.l.length = s.length
  · have h' : (r.out.l.length : Int) = s.length := by omega
    simp [O5, O6, Jk, tV, A0, h, h']
  · have h' : ¬ (r.out.l.length : Int) = s.length := by omega
    simp [O5, O6, Jk, tV, A0, h, h']
def q5r (R : List Rsp) (d o k : Nat) (s : List Int) : List (Int × Int) := (List.range s.length).map fun t => (s.getD (s.length - 1 - t) 0, (R.getD (d + 1 + t) W9).out.l.getD (o + k) 0)
def q9z (R : List Rsp) (d o : Nat) : Nat → List (Sl Int) → List (Int × Int)
  | _, [] => []
  | k, s :: l => q5r R d o k s.l ++ q9z R d o (k + 1) l
theorem qDO {R : List Rsp} {d o k : Nat} {s : List Int} : (q5r R d o k s).length = s.length := by simp [q5r]
theorem qA0 {R : List Rsp} {d o k : Nat} {s : List Int} : (q5r R d o k s).map (·.1) = s.reverse := by
  refine List.ext_getElem (by simp [q5r]) fun i h1 h2 => ?_
  simp [q5r] at h1 h2 ⊢
  rw [List.getElem?_eq_getElem (by omega)]; rfl
theorem qGS {R : List Rsp} {d o k t : Nat} {s : List Int} (h : t < s.length) : (q5r R d o k s).take (t + 1) = (q5r R d o k s).take t ++ [(s.getD (s.length - 1 - t) 0, (R.getD (d + 1 + t) W9).out.l.getD (o + k) 0)] := by
  rw [← List.take_append_getElem (by rw [qDO]; exact h)]
  simp [q5r]
theorem qI5 {R : List Rsp} {d o k t : Nat} {s : List Int} (hd : s.Nodup) (h : t < s.length) : s.getD (s.length - 1 - t) 0 ∉ ((q5r R d o k s).take t).map (·.1) := by
  rw [List.map_take, qA0]
  intro hm
  obtain ⟨j, hj, e⟩ := List.getElem_of_mem hm
  simp only [List.length_take, List.length_reverse] at hj
  rw [List.getElem_take, List.getElem_reverse, B2 (by omega)] at e
  have := (List.getElem_inj hd).1 e
  omega
theorem qI6 {Q : AX → St → Prop} (R : List Rsp) (rc : Option Nat) (rn : Option Bool) (d o k n i : Nat) (t3 chT : T) (s : Sl Int) (Z : List (Int × Int)) (hd : d ≤ 1000000) (ho : o + k ≤ 1000000) (hR : R.length = 2 * d + 1) (hs : s.l.length ≤ d) (hnd : s.l.Nodup) (hZ : ∀ x ∈ s.l, x ∉ Z.map (·.1))
    (hO : ∀ j, j < R.length → o + k < (R.getD j W9).out.l.length)
    (h0 : Q (.exit 2) ⟨[(2, .t (.sl (As Jk R) rc rn)), (3, .t t3), (6, .lp 6 0 0), (10, .t (tI d)), (11, .t (tI o)), (12, .lm 46), (13, .t (tI k)), (14, .t (Aw s)), (47, .t chT), (48, .t (tI n)), (49, .t (tI i)), (55, .t (tI s.l.length)), (56, .t (tI s.l.length)), (57, .t (tB false))],
      [(6, .bx [.t (.sl [] (some 0) (some true)), .t (.sl [] (some 0) (some true))]), (46, .mp (mpE tK (Z ++ q5r R d o k s.l)))]⟩) :
    ∀ (m t : Nat), m + t = s.l.length →
    run Tryz.prog Γ L6 Q ⟨[(2, .t (.sl (As Jk R) rc rn)), (3, .t t3), (6, .lp 6 0 0), (10, .t (tI d)), (11, .t (tI o)), (12, .lm 46), (13, .t (tI k)), (14, .t (Aw s)), (47, .t chT), (48, .t (tI n)), (49, .t (tI i)), (55, .t (tI s.l.length)), (56, .t (tI t))],
      [(6, .bx [.t (.sl [] (some 0) (some true)), .t (.sl [] (some 0) (some true))]), (46, .mp (mpE tK (Z ++ (q5r R d o k s.l).take t)))]⟩
  | 0, t, h => by
    refine Tz fun K hK => ?_
    have h2 : t = s.l.length := by omega
    subst h2
    rw [List.take_of_length_le (by rw [qDO]; exact Nat.le_refl _)]
    simp
    simpa using h0
  | m + 1, t, h => by
    refine Tz fun K hK => ?_
    have h2 : t < s.l.length := by omega
    have h3 : s.l.length - 1 - t < s.l.length := by omega
    have h4 : d + 1 + t < R.length := by omega
    have h5 := hO _ h4
    have ih := qI6 R rc rn d o k n i t3 chT s Z hd ho hR hs hnd hZ hO h0 m (t + 1) (by omega)
    rw [qGS h2, ← List.append_assoc] at ih
    have hk : s.l.getD (s.l.length - 1 - t) 0 ∉ (Z ++ (q5r R d o k s.l).take t).map (·.1) := by
      rw [List.map_append, List.mem_append, not_or]
      refine ⟨hZ _ ?_, qI5 hnd h2⟩
      rw [B2 h3]; exact List.getElem_mem _
    have e1 := gE (f := tI) 0 h3
    have e1' := gE' (f := tI) 0 h3
    have e2 := gR h4
    have e2' := gR' h4
    have e3 := gE (f := tK) 0 h5
    have e3' := gE' (f := tK) 0 h5
    have w1 : IntKind.i64.wrap ((t : Int) + 1) = (t : Int) + 1 := by rw [A7] <;> omega
    have w2 : IntKind.i64.wrap ((s.l.length : Int) - 1) = (s.l.length : Int) - 1 := by rw [A7] <;> omega
    have w3 : IntKind.i64.wrap ((s.l.length : Int) - 1 - t) = ((s.l.length - 1 - t : Nat) : Int) := by rw [A7] <;> omega
    have w4 : IntKind.i64.wrap ((d : Int) + 1) = (d : Int) + 1 := by rw [A7] <;> omega
    have w5 : IntKind.i64.wrap ((d : Int) + 1 + t) = ((d + 1 + t : Nat) : Int) := by rw [A7] <;> omega
    have w6 : IntKind.i64.wrap ((o : Int) + k) = ((o + k : Nat) : Int) := by rw [A7] <;> omega
    generalize Z ++ (q5r R d o k s.l).take t = Y at *
    generalize R.getD (d + 1 + t) W9 = r at *
    generalize s.l.getD (s.l.length - 1 - t) 0 = x at *
    generalize r.out.l.getD (o + k) 0 = v at *
    have em := q6i (f := tK) x v Y hk
    have ef := Xq (f := tK) Y
    generalize mpE tK Y = M at *
    simp [Aw] at ih
    simp only [Jk, tV] at e2 e2'
    simp [Aw, h2, h3, h4, h5, A0, Aa, Af, q1j, e1, e1', e2, e2', e3, e3', w1, w2, w3, w4, w5, w6, em, ef, KT.fits, -Int.natCast_add]
    rw [hK]
    simpa using ih
structure qKs (Γ : Tables) (c : B9) : Prop where
  st : (A5 c).length ≤ 1000000
  run : ∀ p : Pat, POk c p → Ai Tryz.prog Γ 15 [.agg (tC c), .agg (tP p)] (.tup [.agg [Pl (Ip c (An c p.inn.l p.st.l)), Pl (B7 c (An c p.inn.l p.st.l))], .sl (Av (An c p.inn.l p.st.l)) (some c.nodes.l.length) none, tI 0])
theorem qI7 {c : B9} {N : List Int} {n : Int} (h : ∀ v ∈ N, 0 ≤ v) : V4 (q0S c N n) := by
  unfold q0S
  split
  · have hv : 0 ≤ Ig N ((E0 c n.toNat).getD 0 0) := by
      unfold Ig
      split
      · decide
      · rename_i hh
        unfold Uf
        split
        · decide
        · have : ((E0 c n.toNat).getD 0 0).toNat < N.length := by omega
          rw [B2 this]
          exact h _ (List.getElem_mem _)
    unfold B8 V4
    split <;> omega
  · simp [V4]
theorem qJE {c : B9} {N : List Int} (h : ∀ v ∈ N, 0 ≤ v) : ∀ v ∈ B7 c N, V4 v := by
  intro v hv
  obtain ⟨n, _, rfl⟩ := List.mem_map.1 hv
  exact qI7 h
theorem Jw {c : B9} {N : List Int} : (B7 c N).length = (A5 c).length := by simp [B7]
def q58 (c : B9) (i st : List Int) : Rsp := ⟨⟨Ip c (An c i st), some (Ip c (An c i st)).length, none⟩, ⟨B7 c (An c i st), some (B7 c (An c i st)).length, none⟩⟩
def Do (c : B9) : List Int → List (List Int) → List Rsp
  | _, [] => []
  | st, i :: l => q58 c i st :: Do c (B7 c (An c i st)) l
def F3 (c : B9) : List Int → List (List Int) → List Int
  | st, [] => st
  | st, i :: l => F3 c (B7 c (An c i st)) l
theorem Xw {c : B9} : ∀ {l : List (List Int)} {st : List Int}, (Do c st l).length = l.length
  | [], _ => rfl
  | i :: l, st => by simp [Do, Xw]
theorem qFR {c : B9} (h : Bi c = 0) {p : Pat} (hp : POk c p) : ∀ v ∈ An c p.inn.l p.st.l, V4 v := by
  have hf := q1K h p.inn.l p.st.l
  have key := qF4 h (Q := fun i => V4 ((An c p.inn.l p.st.l).getD i 0)) fun i hi hcb => by
    rw [hf.2 i hi]
    split
    · rename_i h
      refine qF1 fun v hv => ?_
      obtain ⟨q, hq, rfl⟩ := List.mem_map.1 hv
      exact (hcb h q hq).2
    · rw [q6L hp.i hp.s hi]
      split
      · exact q5a hp.vi _
      split
      · exact q5a hp.vs _
      · simp [V4]
  intro v hv
  obtain ⟨i, hi, rfl⟩ := List.getElem_of_mem hv
  have := key i (by rw [q45] at hi; exact hi)
  rwa [B2 hi] at this
def qA1 (c : B9) : Sl Int → List (List Int) → Sl Int
  | st, [] => st
  | st, i :: l => qA1 c ⟨B7 c (An c i st.l), none, none⟩ l
def plE (c : B9) (st : Sl Int) (ins : List (Sl Int)) (ic : Option Nat) (nn : Option Bool) (i : Nat) : List (Nat × AV) :=
  [(1, .t (tV st)), (3, .t (.ip (tC c) 0)), (13, .ls 59 0 i none), (38, .t (.sl (Ae tV ins) ic nn)), (39, .t (tI ins.length)), (40, .t (tI i))]
theorem qFS {Q : AX → St → Prop} (c : B9) (H : qKs Γ c) (hl : Bi c = 0) (ins : List (Sl Int)) (ic : Option Nat) (nn : Option Bool) (hn : ins.length ≤ 1000000) (hin : ∀ x ∈ ins, x.l.length = (Az c).length ∧ ∀ v ∈ x.l, V4 v) (E : Sl Int) (R : List Rsp)
    (h0 : Q (.exit 0) ⟨plE c E ins ic nn ins.length ++ [(41, .t (tB false))], [(59, .sl 42 2 (As Jk R))]⟩) :
    ∀ (rest : List (Sl Int)) (i : Nat) (st : Sl Int) (out : List Rsp), i + rest.length = ins.length → ins.drop i = rest → out.length = i → st.l.length = (A5 c).length → (∀ v ∈ st.l, V4 v) →
    qA1 c st (rest.map (·.l)) = E → out ++ Do c st.l (rest.map (·.l)) = R →
    run Tryz.prog Γ Rk Q ⟨plE c st ins ic nn i, [(59, .sl 42 2 (As Jk out))]⟩
  | [], i, st, out, h, hdr, ho, hs, hv, hE, hR => by
    refine Yf fun K hK => ?_
    have h2 : i = ins.length := by simpa using h
    subst h2
    have hE : st = E := hE
    have hR : out = R := by simpa [Do] using hR
    subst hE
    subst hR
    simp [plE]
    simpa [plE] using h0
  | x :: rest, i, st, out, h, hdr, ho, hs, hv, hE, hR => by
    refine Yf fun K hK => ?_
    simp only [List.length_cons] at h
    have h2 : i < ins.length := by omega
    rw [List.drop_eq_getElem_cons h2, List.cons.injEq] at hdr
    have hx := hin x (by rw [← hdr.1]; exact List.getElem_mem _)
    have hP : POk c ⟨x, st⟩ := ⟨hx.1, hs, hx.2, hv⟩
    have hrun := H.run _ hP
    have hnp := qFR hl hP
    have hst := H.st
    have e1 := gE (f := tV) ⟨[], none, none⟩ h2
    have e1' := gE' (f := tV) ⟨[], none, none⟩ h2
    rw [show ins.getD i ⟨[], none, none⟩ = x by rw [← hdr.1]; simp [List.getD_eq_getElem?_getD, h2]] at e1 e1'
    simp only [List.map_cons, qA1, Do] at hE hR
    have hrl : (q58 c x.l st.l).out.l = Ip c (An c x.l st.l) := rfl
    have ih := qFS c H hl ins ic nn hn hin E R h0 rest (i + 1) ⟨B7 c (An c x.l st.l), none, none⟩ (out ++ [q58 c x.l st.l]) (by omega) hdr.2 (by simp [ho]) Jw (qJE fun v hv => (hnp v hv).1) hE (by rw [← hR]; simp)
    have hcl := q4M (Γ := Γ) ⟨B7 c (An c x.l st.l), some (B7 c (An c x.l st.l)).length, none⟩ (fun h => nomatch h) (by show (B7 c _).length ≤ _; rw [Jw]; omega)
    have hsn := Q5 (f := Jk) (l := out) (x := q58 c x.l st.l)
    simp only [q58, Jk, tV] at hsn ih
    simp only [Ik, tV] at hcl
    simp only at hrun
    generalize Ip c (An c x.l st.l) = O at *
    generalize B7 c (An c x.l st.l) = N at *
    generalize An c x.l st.l = M at *
    have htk : (As Jk out).take i = As Jk out := List.take_of_length_le (by rw [Af]; omega)
    have w1 : IntKind.i64.wrap ((i : Int) + 1) = (i : Int) + 1 := by rw [A7] <;> omega
    simp only [tV] at e1 e1'
    simp [tC, Ac, Ah, Am, Aw, tP, tV, Pl] at hrun
    simp [plE, tC, Ac, Ah, Am, Aw, tV] at ih
    simp [plE, tC, Ac, Ah, Am, Aw, tV, h2, A0, Aa, e1, e1']
    refine A8 hrun rfl ?_
    simp [htk, hsn, ho, Af]
    refine ⟨by omega, ?_⟩
    refine A8 hcl rfl ?_
    simp [w1]
    rw [hK]
    simpa using ih
theorem qI8 (es : List (List T)) (cap : Option Nat) (nl : Option Bool) (hw : Ec 2 es) : Ai Tryz.prog Γ 100 [.sl es cap nl] (.sl es (some es.length) nl) := by
  refine Ap Vz rfl ?_
  simp [K4, K5, hw]
theorem qGT (c : B9) (H : qKs Γ c) (hl : Bi c = 0) (st : Sl Int) (hs : st.l.length = (A5 c).length) (hv : ∀ v ∈ st.l, V4 v) (hnl : st.nl = some true → st.l = []) (ins : List (Sl Int)) (ic : Option Nat) (nn : Option Bool) (hne : ins ≠ []) (hn : ins.length ≤ 1000000) (hin : ∀ x ∈ ins, x.l.length = (Az c).length ∧ ∀ v ∈ x.l, V4 v) :
    Ai Tryz.prog Γ 36 [.agg (tC c), tV st, .sl (Ae tV ins) ic nn] (.tup [.sl (As Jk (Do c st.l (ins.map (·.l)))) (some ins.length) none, Pl (F3 c st.l (ins.map (·.l))), tI 0]) := by
  refine Ap q8B rfl ?_
  have hst := H.st
  have hcl := q4M (Γ := Γ) st hnl (by omega)
  have hcn := qD0 st hnl
  have hne' : 0 < ins.length := List.length_pos_iff.2 hne
  have hE : qA1 c (Ik st) (ins.map (·.l)) = ⟨F3 c st.l (ins.map (·.l)), none, none⟩ := by
    cases ins with
    | nil => exact absurd rfl hne
    | cons x l =>
      simp only [List.map_cons, qA1, F3]
      rw [hcn]
      have key : ∀ (l : List (List Int)) (s : List Int), qA1 c ⟨s, none, none⟩ l = ⟨F3 c s l, none, none⟩ := by
        intro l
        induction l with
        | nil => intro s; rfl
        | cons i l ih => intro s; simp only [qA1, F3]; exact ih _
      exact key _ _
  have g1 := fun Q h0 => qFS (Γ := Γ) (Q := Q) c H hl ins ic nn hn hin _ _ h0 ins 0 (Ik st) [] (by omega) (List.drop_zero) rfl (by rw [hcn]; exact hs) (by rw [hcn]; exact hv) hE (by rw [List.nil_append, hcn])
  generalize hRR : Do c st.l (ins.map (·.l)) = R at *
  have hRl : R.length = ins.length := by rw [← hRR, Xw]; simp
  generalize F3 c st.l (ins.map (·.l)) = E at *
  have e1 := qI8 (Γ := Γ) (As Jk R) none none q1j
  have e2 := Vo (Γ := Γ) (Av E) none none Aa
  have htk : (As Jk R).take ins.length = As Jk R := List.take_of_length_le (by rw [Af]; omega)
  generalize Ik st = s0 at *
  have hni : ¬ ins.length = 0 := by omega
  have hni' : ¬ (ins.length : Int) = 0 := by omega
  simp [plE, tC, Ac, Ah, Am, Aw, tV, show As Jk [] = [] from rfl] at g1
  simp only [tV] at hcl
  simp [q38, tC, Ac, Ah, Am, Aw, tV]
  refine A8 hcl rfl ?_
  simp [A0, hni, hni', hne]
  refine g1 _ ?_
  simp [St.freeze, Bl.closed, D3, frz1, frz0, Eo, del, Ak, htk]
  refine A8 e1 rfl ?_
  simp
  refine A8 e2 rfl ?_
  simp [q39, Af, hRl, Pl, A0]
abbrev qJF : Bl := .bx [.t (.sl [] (some 0) (some true)), .t (.sl [] (some 0) (some true))]
theorem qI9 {Q : AX → St → Prop} (R : List Rsp) (rc : Option Nat) (rn : Option Bool) (d o : Nat) (t3 : T) (ch : List (Sl Int)) (cc : Option Nat) (cn : Option Bool) (hd : d ≤ 1000000) (ho : o + ch.length ≤ 1000000) (hR : R.length = 2 * d + 1) (hs : ∀ s ∈ ch, s.l.length ≤ d)
    (hO : ∀ j, j < R.length → o + ch.length ≤ (R.getD j W9).out.l.length) (ZF : List (Int × Int))
    (h0 : Q (.exit 0) ⟨[(2, .t (.sl (As Jk R) rc rn)), (3, .t t3), (6, .lp 6 0 0), (10, .t (tI d)), (11, .t (tI o)), (12, .lm 46), (47, .t (.sl (Ae Aw ch) cc cn)), (48, .t (tI ch.length)), (49, .t (tI ch.length)), (50, .t (tB false))], [(6, qJF), (46, .mp (mpE tK ZF))]⟩) :
    ∀ (rest : List (Sl Int)) (k : Nat) (Z : List (Int × Int)), k + rest.length = ch.length → ch.drop k = rest → (E2 rest).Nodup → (∀ x ∈ E2 rest, x ∉ Z.map (·.1)) → Z ++ q9z R d o k rest = ZF →
    run Tryz.prog Γ L8 Q ⟨[(2, .t (.sl (As Jk R) rc rn)), (3, .t t3), (6, .lp 6 0 0), (10, .t (tI d)), (11, .t (tI o)), (12, .lm 46), (47, .t (.sl (Ae Aw ch) cc cn)), (48, .t (tI ch.length)), (49, .t (tI k))], [(6, qJF), (46, .mp (mpE tK Z))]⟩
  | [], k, Z, h, hdr, hnd, hZ, hF => by
    refine U0 fun K hK => ?_
    have h2 : k = ch.length := by simpa using h
    subst h2
    have hF : Z = ZF := by simpa [q9z] using hF
    subst hF
    simp
    simpa using h0
  | s :: rest, k, Z, h, hdr, hnd, hZ, hF => by
    refine U0 fun K hK => ?_
    simp only [List.length_cons] at h
    have h2 : k < ch.length := by omega
    rw [List.drop_eq_getElem_cons h2, List.cons.injEq] at hdr
    rw [E9, List.nodup_append] at hnd
    have hsm : s ∈ ch := by rw [← hdr.1]; exact List.getElem_mem _
    have e1 := gE (f := Aw) Jj h2
    have e1' := gE' (f := Aw) Jj h2
    rw [show ch.getD k Jj = s by rw [← hdr.1]; simp [List.getD_eq_getElem?_getD, h2]] at e1 e1'
    have g1 := fun Q h0 => qI6 (Γ := Γ) (Q := Q) R rc rn d o k ch.length k t3 (.sl (Ae Aw ch) cc cn) s Z hd (by omega) hR (hs s hsm) hnd.1 (fun x hx => hZ x (by rw [E9]; exact List.mem_append_left _ hx)) (fun j hj => by have := hO j hj; omega) h0 s.l.length 0 (by omega)
    have ih := qI9 R rc rn d o t3 ch cc cn hd ho hR hs hO ZF h0 rest (k + 1) (Z ++ q5r R d o k s.l) (by omega) hdr.2 hnd.2.1 (fun x hx hm => by
      rw [List.map_append, List.mem_append, qA0, List.mem_reverse] at hm
      rcases hm with hm | hm
      · exact hZ x (by rw [E9]; exact List.mem_append_right _ hx) hm
      · exact hnd.2.2 x hm x hx rfl) (by rw [← hF, List.append_assoc]; rfl)
    have w1 : IntKind.i64.wrap ((k : Int) + 1) = (k : Int) + 1 := by rw [A7] <;> omega
    simp only [Aw] at e1 e1'
    simp [Aw] at g1
    simp [h2, A0, Aa, e1, e1']
    refine g1 _ ?_
    simp [w1]
    rw [hK]
    simpa using ih
theorem qIA {Q : AX → St → Prop} (st : List Int) (sc : Option Nat) (sn : Option Bool) (hst : st.length ≤ 1000000) (ZF : List (Int × Int)) (oT : T) (ho : oT.one = true)
    (h0 : Q (.exit 4) ⟨[(6, .lp 6 0 0), (12, .lm 46), (16, .lp 16 0 0), (94, .t (.sl (Ao st) sc sn)), (95, .t (tI st.length)), (96, .t (tI st.length)), (97, .t (tB false))], [(6, qJF), (16, .bx [.t oT, .ls 106 0 st.length none]), (46, .mp (mpE tK ZF)), (106, .sl 68 1 (Av (st.map fun n => Qk 0 n ZF)))]⟩) :
    ∀ (k i : Nat), k + i = st.length →
    run Tryz.prog Γ L9 Q ⟨[(6, .lp 6 0 0), (12, .lm 46), (16, .lp 16 0 0), (94, .t (.sl (Ao st) sc sn)), (95, .t (tI st.length)), (96, .t (tI i))], [(6, qJF), (16, .bx [.t oT, .ls 106 0 i none]), (46, .mp (mpE tK ZF)), (106, .sl 68 1 (Av ((st.take i).map fun n => Qk 0 n ZF)))]⟩
  | 0, i, h => by
    refine U1 fun K hK => ?_
    have h2 : i = st.length := by omega
    subst h2
    rw [List.take_length]
    simp
    simpa using h0
  | k + 1, i, h => by
    refine U1 fun K hK => ?_
    have h2 : i < st.length := by omega
    have ih := qIA st sc sn hst ZF oT ho h0 k (i + 1) (by omega)
    rw [← List.take_append_getElem h2, List.map_append, List.map_cons, List.map_nil] at ih
    have e1 := gE (f := tI) 0 h2
    have e1' := gE' (f := tI) 0 h2
    rw [B2 h2] at e1 e1'
    generalize st[i] = x at *
    have hln : ((st.take i).map fun n => Qk 0 n ZF).length = i := by simp; omega
    have hsn := G6 (l := (st.take i).map fun n => Qk 0 n ZF) (v := Qk 0 x ZF)
    generalize (st.take i).map (fun n => Qk 0 n ZF) = row at *
    have em := Zo (f := tK) 0 x ZF
    have ef := Xq (f := tK) ZF
    generalize mpE tK ZF = M at *
    generalize Qk 0 x ZF = v at *
    have htk : (Av row).take i = Av row := by rw [← hln]; exact G7
    have w1 : IntKind.i64.wrap ((i : Int) + 1) = (i : Int) + 1 := by rw [A7] <;> omega
    simp [h2, A0, Aa, e1, e1', em, ef, KT.fits, htk, hsn, hln, w1, ho]
    refine ⟨by omega, ?_⟩
    rw [hK]
    simpa using ih
def Il (c : B9) (ch : List (Sl Int)) (R : List Rsp) : List Int := (R.getD (C3 ch) W9).out.l.take c.outs.l.length
def Lc (c : B9) (ch : List (Sl Int)) (R : List Rsp) : List Int := (A5 c).map fun n => Qk 0 n (q9z R (C3 ch) c.outs.l.length 0 ch)
theorem qC3 {c : B9} {chs : Sl (Sl Int)} {s : Nat → List (List T)} {k : Nat → Option Nat} {n : Nat → Option Bool} {en : Int} (h : qDN Γ c chs s k n en 0) (h3 : (s 3).length = c.outs.l.length + chs.l.length) (ho : c.outs.l.length ≤ 100000 ∧ chs.l.length ≤ 100000) (o1 : 1 ≤ c.outs.l.length) (hnd : (E2 chs.l).Nodup)
    (R : List Rsp) (rc : Option Nat) (rn : Option Bool) (hR : R.length = 2 * C3 chs.l + 1) (hO : ∀ r ∈ R, r.out.l.length = c.outs.l.length + chs.l.length ∧ r.out.nl ≠ some true) :
    Ai Tryz.prog Γ 43 [.agg (tC c), Bn chs, .sl (As Jk R) rc rn] (.tup [.agg [Pl (Il c chs.l R), Pl (Lc c chs.l R)], tI 0]) := by
  refine Ap q5h rfl ?_
  have e1 := h.call
  have e2 := q25 (Γ := Γ) chs h.chl h.cs
  have hdl : C3 chs.l ≤ 1000000 := q8g h.cs
  have e3 := fun a0 a1 a2 a4 a5 a6 a7 k3 n3 => q7T (Γ := Γ) R rc rn 106 [.ip [a0, a1, a2, .sl (s 3) k3 n3, a4, a5, a6, a7] 0] (fun r => decide (r.out.l.length ≠ (s 3).length)) (fun r _ => qGR r a0 a1 a2 a4 a5 a6 a7 (s 3) k3 n3) (by omega)
  have ha : R.any (fun r => decide (r.out.l.length ≠ (s 3).length)) = false := List.any_eq_false.2 fun r hr => by simp [(hO r hr).1, h3]
  simp only [ha] at e3
  have hsl : ∀ s ∈ chs.l, s.l.length ≤ C3 chs.l := by
    have key : ∀ (l : List (Sl Int)) (n : Nat), n ≤ l.foldl (fun n s => max n s.l.length) n ∧ ∀ s ∈ l, s.l.length ≤ l.foldl (fun n s => max n s.l.length) n := by
      intro l
      induction l with
      | nil => intro n; exact ⟨Nat.le_refl _, by simp⟩
      | cons a l ih =>
        intro n
        obtain ⟨h1, h2⟩ := ih (max n a.l.length)
        have hm1 := Nat.le_max_left n a.l.length
        have hm2 := Nat.le_max_right n a.l.length
        refine ⟨Nat.le_trans hm1 h1, fun s hs => ?_⟩
        rcases List.mem_cons.1 hs with rfl | hs
        · exact Nat.le_trans hm2 h1
        · exact h2 s hs
    exact (key chs.l 0).2
  have hg : ∀ j, j < R.length → R.getD j W9 ∈ R := fun j hj => by
    rw [List.getD_eq_getElem?_getD, List.getElem?_eq_getElem hj]; exact List.getElem_mem _
  have hdR : C3 chs.l < R.length := by omega
  have hrd := hO _ (hg _ hdR)
  have g3 := fun Q t3 h0 => qI9 (Γ := Γ) (Q := Q) R rc rn (C3 chs.l) c.outs.l.length t3 chs.l chs.cap chs.nl hdl (by omega) hR hsl (fun j hj => by have := (hO _ (hg j hj)).1; omega) _ h0 chs.l 0 [] (by omega) (List.drop_zero) hnd (by simp) (by rw [List.nil_append])
  have e4 := D9 (Γ := Γ) c h.ok
  have g5 := fun Q sc sn oT ho' h0 => qIA (Γ := Γ) (Q := Q) (A5 c) sc sn h.st (q9z R (C3 chs.l) c.outs.l.length 0 chs.l) oT ho' h0 (A5 c).length 0 (by omega)
  have hn : (Lc c chs.l R).length = (A5 c).length := by simp [Lc]
  have hNx : (A5 c).map (fun n => Qk 0 n (q9z R (C3 chs.l) c.outs.l.length 0 chs.l)) = Lc c chs.l R := rfl
  simp only [hNx] at g5
  have q1 := gR hdR
  have q1' := gR' hdR
  have hcl : ∀ cap, Ai Tryz.prog Γ 93 [.sl (Av (Il c chs.l R)) cap (R.getD (C3 chs.l) W9).out.nl] (.sl (Av (Il c chs.l R)) none none) := fun cap => by
    have hlen : (Il c chs.l R).length = c.outs.l.length := by unfold Il; rw [List.length_take]; omega
    have hne : Il c chs.l R ≠ [] := fun e => by rw [e] at hlen; simp at hlen; omega
    have := q4L (Γ := Γ) ⟨Il c chs.l R, cap, (R.getD (C3 chs.l) W9).out.nl⟩ ⟨fun e => absurd e hrd.2, fun _ => hne, by show (Il c chs.l R).length ≤ _; omega⟩
    rwa [if_neg hrd.2] at this
  have htk : (Av (R.getD (C3 chs.l) W9).out.l).take c.outs.l.length = Av (Il c chs.l R) := by unfold Il; simp [Ae, List.map_take]
  generalize Il c chs.l R = CO at *
  generalize Lc c chs.l R = CN at *
  generalize q9z R (C3 chs.l) c.outs.l.length 0 chs.l = ZF at *
  generalize R.getD (C3 chs.l) W9 = rd at *
  generalize C3 chs.l = d at *
  generalize A5 c = st at *
  have e5 := Vo (Γ := Γ) (Av CO) none none Aa
  have e6 := Vo (Γ := Γ) (Av CN) none none Aa
  have htn : (Av CN).take st.length = Av CN := by rw [← hn]; exact G7
  have w1 : IntKind.i64.wrap (2 * (d : Int)) = 2 * (d : Int) := by rw [A7] <;> omega
  have w2 : IntKind.i64.wrap (2 * (d : Int) + 1) = 2 * (d : Int) + 1 := by rw [A7] <;> omega
  have hl' : (R.length : Int) = 2 * (d : Int) + 1 := by omega
  have ho2 : c.outs.l.length ≤ rd.out.l.length := by omega
  simp only [Jk, tV] at q1 q1'
  simp [tC, Ac, Ah, Am, Aw, Bn] at e1 e2 e4
  simp [mpE] at g3
  simp [mpE, Dh] at g5
  simp [q0Z, tC, Ac, Ah, Am, Aw, Bn]
  refine A8 e1 rfl ?_
  simp [St.freeze, Bl.closed, D3, frz1, frz0, Eo, del, Ak]
  refine A6 e2 rfl ?_
  simp [Af, w1, w2, hl']
  refine A6 (e3 _ _ _ _ _ _ _ _ _) rfl ?_
  simp [A0]
  refine g3 _ _ ?_
  simp [Af, q1j, hdR, q1, q1', A0, Aa, ho2, htk]
  refine A8 (hcl _) rfl ?_
  simp
  refine A8 e5 rfl ?_
  simp
  refine A8 e4 rfl ?_
  simp [A0]
  refine g5 _ _ _ _ rfl ?_
  simp [St.freeze, Bl.closed, D3, frz1, frz0, Eo, del, Ak, htn]
  refine A8 e6 rfl ?_
  simp [q0a, Pl, A0]
end Go.Lg
namespace Go.Lg
open Go Go.Proofs
theorem q7U {c : B9} : ∀ (a b : List (List Int)) (s : List Int), F3 c s (a ++ b) = F3 c (F3 c s a) b
  | [], _, _ => rfl
  | x :: a, b, s => by simp only [List.cons_append, F3]; exact q7U a b _
theorem q7V {c : B9} : ∀ (a b : List (List Int)) (s : List Int), Do c s (a ++ b) = Do c s a ++ Do c (F3 c s a) b
  | [], _, _ => rfl
  | x :: a, b, s => by simp only [List.cons_append, F3, Do]; rw [q7V a b _]
theorem Xx {c : B9} : ∀ (l : List (List Int)) (s : List Int), s.length = (A5 c).length → (F3 c s l).length = (A5 c).length
  | [], _, h => h
  | x :: l, s, h => by simp only [F3]; exact Xx l _ Jw
section
variable {c : B9} {ch : List (Sl Int)}
def q2e (ch : List (Sl Int)) (k m : Nat) : Int := (ch.getD k Jj).l.getD m 0
def Us (c : B9) (ch : List (Sl Int)) (k m : Nat) : Nat := (A5 c).idxOf (q2e ch k m)
theorem qIB (h : Em c ch) {k m : Nat} (hk : k < ch.length) (hm : m < (ch.getD k Jj).l.length) : q2e ch k m ∈ A5 c := by
  refine h.perm.mem_iff.1 ?_
  unfold q2e E2
  rw [B2 hm]
  refine List.mem_flatten.2 ⟨(ch.getD k Jj).l, List.mem_map.2 ⟨ch.getD k Jj, ?_, rfl⟩, List.getElem_mem _⟩
  rw [List.getD_eq_getElem?_getD, List.getElem?_eq_getElem hk]
  exact List.getElem_mem _
theorem q7W (h : Em c ch) {k m : Nat} (hk : k < ch.length) (hm : m < (ch.getD k Jj).l.length) : Us c ch k m < (A5 c).length := List.idxOf_lt_length_iff.2 (qIB h hk hm)
theorem qA2 (h : Em c ch) {k m : Nat} (hk : k < ch.length) (hm : m < (ch.getD k Jj).l.length) : (A5 c).getD (Us c ch k m) 0 = q2e ch k m := by
  rw [B2 (q7W h hk hm)]; exact List.getElem_idxOf _
theorem q6k (h : Em c ch) {q : Nat} (hq : q < (A5 c).length) : ∃ k m, k < ch.length ∧ m < (ch.getD k Jj).l.length ∧ Us c ch k m = q := by
  have hm : (A5 c).getD q 0 ∈ E2 ch := h.perm.mem_iff.2 (by rw [B2 hq]; exact List.getElem_mem _)
  unfold E2 at hm
  obtain ⟨l, hl, hx⟩ := List.mem_flatten.1 hm
  obtain ⟨s, hs, rfl⟩ := List.mem_map.1 hl
  obtain ⟨k, hk, rfl⟩ := List.getElem_of_mem hs
  obtain ⟨m, hm, e⟩ := List.getElem_of_mem hx
  have hg : ch.getD k Jj = ch[k] := by simp [List.getD_eq_getElem?_getD, hk]
  refine ⟨k, m, hk, by rw [hg]; exact hm, ?_⟩
  unfold Us q2e
  rw [hg, B2 hm, e, B2 hq]
  exact (Dz [14] c.nodes.l 0).2.idxOf_getElem _ _
theorem qA3 (h : Em c ch) (hp : Bi c = 0) {pin S v : List Int} (h1 : pin.length = (Az c).length) (h2 : S.length = (A5 c).length) (hv : v.length = ch.length) {k m : Nat} (hk : k < ch.length) (hm : m < (ch.getD k Jj).l.length) :
    (B7 (C7 c ch) (An (C7 c ch) (pin ++ ([1] ++ v)) S)).getD (Us c ch k m) 0 = B8 (if m = 0 then v.getD k 0 else S.getD (Us c ch k (m - 1)) 0) :=
  qHv h hp h1 h2 hv hk hm (q7W h hk hm) (qA2 h hk hm)
theorem qDP (h : Em c ch) (hp : Bi c = 0) {pin : List Int} (h1 : pin.length = (Az c).length) (L : List (List Int)) (hL : ∀ r ∈ L, r.length = ch.length) {S0 : List Int} (h2 : S0.length = (A5 c).length) {k : Nat} (hk : k < ch.length) :
    ∀ t, t ≤ L.length → ∀ m, m < t → m < (ch.getD k Jj).l.length → (F3 (C7 c ch) S0 ((L.take t).map fun s => pin ++ ([1] ++ s))).getD (Us c ch k m) 0 = B8 ((L.getD (t - 1 - m) []).getD k 0)
  | 0, _, m, hm, _ => absurd hm (by omega)
  | t + 1, ht, m, hm, hl => by
    have htl : t < L.length := by omega
    rw [← List.take_append_getElem htl, List.map_append, q7U]
    simp only [List.map_cons, List.map_nil, F3]
    have hS : (F3 (C7 c ch) S0 ((L.take t).map fun s => pin ++ ([1] ++ s))).length = (A5 c).length := by
      have := Xx (c := C7 c ch) ((L.take t).map fun s => pin ++ ([1] ++ s)) S0 (by rw [Dc h]; exact h2)
      rwa [Dc h] at this
    rw [qA3 h hp h1 hS (hL _ (List.getElem_mem htl)) hk hl]
    by_cases h0 : m = 0
    · subst h0
      rw [if_pos rfl]
      congr 1
      rw [show t + 1 - 1 - 0 = t by omega, List.getD_eq_getElem?_getD (l := L), List.getElem?_eq_getElem htl]; rfl
    · rw [if_neg h0, qDP h hp h1 L hL h2 hk t (by omega) (m - 1) (by omega) (by omega), Xv, show t - 1 - (m - 1) = t + 1 - 1 - m by omega]
theorem qGU (h : Em c ch) (hp : Bi c = 0) {pin pst S0 : List Int} (h1 : pin.length = (Az c).length) (h2 : S0.length = (A5 c).length) (h3 : pst.length = (A5 c).length) :
    F3 (C7 c ch) S0 ((Df ch (A5 c) pst).map fun s => pin ++ ([1] ++ s)) = if C3 ch = 0 then S0 else pst.map B8 := by
  have hLl := Ur (ch := ch) (st := A5 c) (pst := pst)
  by_cases hd : C3 ch = 0
  · rw [if_pos hd]
    have : Df ch (A5 c) pst = [] := List.eq_nil_of_length_eq_zero (by omega)
    rw [this]; rfl
  · rw [if_neg hd]
    have hE : (F3 (C7 c ch) S0 ((Df ch (A5 c) pst).map fun s => pin ++ ([1] ++ s))).length = (A5 c).length := by
      have := Xx (c := C7 c ch) ((Df ch (A5 c) pst).map fun s => pin ++ ([1] ++ s)) S0 (by rw [Dc h]; exact h2)
      rwa [Dc h] at this
    refine Uo (by rw [hE]; simp [h3]) fun q hq => ?_
    rw [hE] at hq
    obtain ⟨k, m, hk, hm, rfl⟩ := q6k h hq
    have hkm : ch.getD k Jj ∈ ch := by rw [List.getD_eq_getElem?_getD, List.getElem?_eq_getElem hk]; exact List.getElem_mem _
    have hle : (ch.getD k Jj).l.length ≤ C3 ch := qC0 _ hkm
    have := qDP h hp h1 (Df ch (A5 c) pst) q5q h2 hk (Df ch (A5 c) pst).length (Nat.le_refl _) m (by omega) hm
    rw [List.take_length] at this
    rw [this, hLl]
    have hr : (pst.map B8).getD (Us c ch k m) 0 = B8 (pst.getD (Us c ch k m) 0) := by
      rw [List.getD_eq_getElem?_getD, List.getElem?_map, List.getElem?_eq_getElem (by omega), List.getD_eq_getElem?_getD, List.getElem?_eq_getElem (by omega)]; rfl
    rw [hr]
    have hg : (Df ch (A5 c) pst).getD (C3 ch - 1 - m) [] = ch.map (Me (ofZ (A5 c) pst) m) := by
      rw [List.getD_eq_getElem?_getD, List.getElem?_eq_getElem (by omega)]
      simp only [Df, List.getElem_map, List.getElem_range, Option.getD_some]
      rw [show (C3 ch : Int) - 1 - ((C3 ch - 1 - m : Nat) : Int) = (m : Int) by omega]
    rw [hg]
    have hgk : (ch.map (Me (ofZ (A5 c) pst) m)).getD k 0 = Me (ofZ (A5 c) pst) m (ch.getD k Jj) := by
      rw [List.getD_eq_getElem?_getD, List.getElem?_map, List.getElem?_eq_getElem hk, List.getD_eq_getElem?_getD, List.getElem?_eq_getElem hk]; rfl
    rw [hgk]
    unfold Me
    rw [if_pos (by omega), Int.toNat_natCast]
    have hz := qKr (pst := pst) h3 (Dz [14] c.nodes.l 0).2 (q7W h hk hm)
    rw [qA2 h hk hm] at hz
    rw [show (ch.getD k Jj).l.getD m 0 = q2e ch k m from rfl, hz, Xv]
theorem qBM (h : Em c ch) (hp : Bi c = 0) {pin v : List Int} (h1 : pin.length = (Az c).length) (hv : v.length = ch.length) {C : List Int} (h2 : C.length = (A5 c).length) (hC : ∀ x ∈ C, B8 x = x) {k : Nat} (hk : k < ch.length) :
    ∀ j m, m + j < (ch.getD k Jj).l.length → (F3 (C7 c ch) C (List.replicate j (pin ++ ([1] ++ v)))).getD (Us c ch k (m + j)) 0 = C.getD (Us c ch k m) 0
  | 0, m, _ => rfl
  | j + 1, m, hm => by
    rw [List.replicate_succ', q7U]
    simp only [F3]
    have hS : (F3 (C7 c ch) C (List.replicate j (pin ++ ([1] ++ v)))).length = (A5 c).length := by
      have := Xx (c := C7 c ch) (List.replicate j (pin ++ ([1] ++ v))) C (by rw [Dc h]; exact h2)
      rwa [Dc h] at this
    rw [qA3 h hp h1 hS hv hk (by omega), if_neg (by omega), show m + (j + 1) - 1 = m + j by omega, qBM h hp h1 hv h2 hC hk j m (by omega)]
    refine hC _ ?_
    rw [B2 (by rw [h2]; exact q7W h hk (by omega))]
    exact List.getElem_mem _
end
end Go.Lg
namespace Go.Lg
open Go Go.Proofs
variable {Γ : Tables}
theorem Cj {n : Nat} : (Ag n).length = n := by simp [Ag]
theorem qBN {ch : List (Sl Int)} {st pin pst : List Int} : (Nx ch st pin pst).length = 2 * C3 ch + 1 := by
  simp [Nx, Ur]; omega
theorem qDQ {α : Type} {d : α} {n : Int} {v : α} : ∀ {l : List (Int × α)}, (l.map (·.1)).Nodup → (n, v) ∈ l → Qk d n l = v
  | p :: l, hn, hm => by
    simp only [List.map_cons, List.nodup_cons] at hn
    simp only [Qk]
    rcases List.mem_cons.1 hm with rfl | hm
    · rw [if_pos rfl]
    · have hne : n ≠ p.1 := fun e => hn.1 (by rw [← e]; exact List.mem_map.2 ⟨_, hm, rfl⟩)
      rw [if_neg hne]
      exact qDQ hn.2 hm
theorem qBO {R : List Rsp} {d o : Nat} : ∀ (l : List (Sl Int)) (k : Nat), ((q9z R d o k l).map (·.1)).Perm (E2 l)
  | [], _ => List.Perm.refl _
  | s :: l, k => by
    simp only [q9z, List.map_append]
    rw [qA0, E9]
    exact (List.reverse_perm _).append (qBO l (k + 1))
theorem qDR {R : List Rsp} {d o : Nat} : ∀ (l : List (Sl Int)) (k0 k m : Nat), k < l.length → m < (l.getD k Jj).l.length → ((l.getD k Jj).l.getD m 0, (R.getD (d + (l.getD k Jj).l.length - m) W9).out.l.getD (o + (k0 + k)) 0) ∈ q9z R d o k0 l
  | [], _, _, _, h, _ => absurd h (by simp)
  | s :: l, k0, 0, m, _, hm => by
    refine List.mem_append_left _ (List.mem_map.2 ⟨s.l.length - 1 - m, ?_, ?_⟩)
    · have hm : m < s.l.length := hm
      exact List.mem_range.2 (by omega)
    · have hm : m < s.l.length := hm
      show (s.l.getD (s.l.length - 1 - (s.l.length - 1 - m)) 0, (R.getD (d + 1 + (s.l.length - 1 - m)) W9).out.l.getD (o + k0) 0) = (s.l.getD m 0, (R.getD (d + s.l.length - m) W9).out.l.getD (o + (k0 + 0)) 0)
      rw [show s.l.length - 1 - (s.l.length - 1 - m) = m by omega, show d + 1 + (s.l.length - 1 - m) = d + s.l.length - m by omega, Nat.add_zero]
  | s :: l, k0, k + 1, m, h, hm => by
    refine List.mem_append_right _ ?_
    have := qDR (R := R) (d := d) (o := o) l (k0 + 1) k m (by simpa using h) (by simpa using hm)
    rw [show k0 + 1 + k = k0 + (k + 1) by omega] at this
    simpa using this
theorem qEc {R : List Rsp} {d o : Nat} {ch : List (Sl Int)} (hnd : (E2 ch).Nodup) {k m : Nat} (hk : k < ch.length) (hm : m < (ch.getD k Jj).l.length) : Qk 0 ((ch.getD k Jj).l.getD m 0) (q9z R d o 0 ch) = (R.getD (d + (ch.getD k Jj).l.length - m) W9).out.l.getD (o + k) 0 := by
  have := qDR (R := R) (d := d) (o := o) ch 0 k m hk hm
  rw [Nat.zero_add] at this
  exact qDQ ((qBO ch 0).nodup_iff.2 hnd) this
end Go.Lg
namespace Go.Lg
open Go Go.Proofs
section
variable {c : B9} {ch : List (Sl Int)}
theorem qGV {N : List Int} {n : Int} : B8 (q0S c N n) = q0S c N n := by
  unfold q0S
  split
  · exact Xv
  · rfl
theorem q5s {N : List Int} : ∀ x ∈ B7 c N, B8 x = x := by
  intro x hx
  obtain ⟨n, _, rfl⟩ := List.mem_map.1 hx
  exact qGV
theorem qA4 {st pin pst S0 : List Int} : Do (C7 c ch) S0 (Nx ch st pin pst) =
    Do (C7 c ch) S0 ((Df ch st pst).map fun s => Ag pin.length ++ ([1] ++ s)) ++
    (q58 (C7 c ch) (pin ++ ([0] ++ Ag ch.length)) (F3 (C7 c ch) S0 ((Df ch st pst).map fun s => Ag pin.length ++ ([1] ++ s))) ::
    Do (C7 c ch) (B7 (C7 c ch) (An (C7 c ch) (pin ++ ([0] ++ Ag ch.length)) (F3 (C7 c ch) S0 ((Df ch st pst).map fun s => Ag pin.length ++ ([1] ++ s))))) (List.replicate (C3 ch) (Ag pin.length ++ ([1] ++ Ag ch.length)))) := by
  unfold Nx
  rw [q7V]
  rfl
theorem qBP {c : B9} {z : List Int} : ∀ (n : Nat) (s : List Int) (j : Nat), j < n → (Do c s (List.replicate n z)).getD j W9 = q58 c z (F3 c s (List.replicate j z))
  | 0, _, _, h => absurd h (by omega)
  | n + 1, s, 0, _ => by simp [List.replicate_succ, Do, F3]
  | n + 1, s, j + 1, h => by
    rw [List.replicate_succ, List.replicate_succ]
    simp only [Do, F3, List.getD_cons_succ]
    exact qBP n _ j (by omega)
theorem qDS (h : Em c ch) (hp : Bi c = 0) {pin pst S0 : List Int} (h1 : pin.length = (Az c).length) (h2 : S0.length = (A5 c).length) (h3 : pst.length = (A5 c).length) {S : List Int}
    (hS : F3 (C7 c ch) S0 ((Df ch (A5 c) pst).map fun s => Ag pin.length ++ ([1] ++ s)) = S) :
    Il c ch (Do (C7 c ch) S0 (Nx ch (A5 c) pin pst)) = Ip c (An c pin S) ∧ Lc c ch (Do (C7 c ch) S0 (Nx ch (A5 c) pin pst)) = B7 c (An c pin S) := by
  have hz : (Ag ch.length).length = ch.length := Cj
  have hzp : (Ag pin.length).length = (Az c).length := by rw [Cj, h1]
  have hSl : S.length = (A5 c).length := by
    rw [← hS]
    have := Xx (c := C7 c ch) ((Df ch (A5 c) pst).map fun s => Ag pin.length ++ ([1] ++ s)) S0 (by rw [Dc h]; exact h2)
    rwa [Dc h] at this
  have hLl : ((Df ch (A5 c) pst).map fun s => Ag pin.length ++ ([1] ++ s)).length = C3 ch := by rw [List.length_map, Ur]
  have hsp := qA4 (c := c) (ch := ch) (st := A5 c) (pin := pin) (pst := pst) (S0 := S0)
  rw [hS] at hsp
  have hn0 := qDK h hp (v := Ag ch.length) h1 hSl hz
  rw [hn0] at hsp
  have ho0 := qHw h hp (e := 0) (v := Ag ch.length) h1 hSl hz
  have hpl : (Do (C7 c ch) S0 ((Df ch (A5 c) pst).map fun s => Ag pin.length ++ ([1] ++ s))).length = C3 ch := by rw [Xw, hLl]
  have hat : ∀ j, (Do (C7 c ch) S0 (Nx ch (A5 c) pin pst)).getD (C3 ch + j) W9 = (q58 (C7 c ch) (pin ++ ([0] ++ Ag ch.length)) S :: Do (C7 c ch) (B7 c (An c pin S)) (List.replicate (C3 ch) (Ag pin.length ++ ([1] ++ Ag ch.length)))).getD j W9 := fun j => by
    rw [hsp, List.getD_eq_getElem?_getD, List.getElem?_append_right (by omega), hpl, Nat.add_sub_cancel_left, ← List.getD_eq_getElem?_getD]
  refine ⟨?_, ?_⟩
  · unfold Il
    have := hat 0
    rw [Nat.add_zero] at this
    rw [this]
    show (Ip (C7 c ch) (An (C7 c ch) (pin ++ ([0] ++ Ag ch.length)) S)).take c.outs.l.length = _
    rw [ho0, List.take_append_of_le_length (by simp [Ip]), List.take_of_length_le (by simp [Ip])]
  · unfold Lc
    refine Uo (by simp [B7]) fun q hq => ?_
    rw [List.length_map] at hq
    have hnd : (E2 ch).Nodup := h.perm.nodup_iff.2 (Dz [14] c.nodes.l 0).2
    rw [List.getD_eq_getElem?_getD, List.getElem?_map, List.getElem?_eq_getElem hq]
    show Qk 0 ((A5 c)[q]) _ = _
    obtain ⟨k, m, hk, hm, rfl⟩ := q6k h hq
    rw [← B2 hq, qA2 h hk hm]
    have hc := qEc (R := Do (C7 c ch) S0 (Nx ch (A5 c) pin pst)) (d := C3 ch) (o := c.outs.l.length) hnd hk hm
    rw [show q2e ch k m = (ch.getD k Jj).l.getD m 0 from rfl, hc]
    have hkm : ch.getD k Jj ∈ ch := by rw [List.getD_eq_getElem?_getD, List.getElem?_eq_getElem hk]; exact List.getElem_mem _
    have hle : (ch.getD k Jj).l.length ≤ C3 ch := qC0 _ hkm
    have hj : C3 ch + (ch.getD k Jj).l.length - m = C3 ch + (((ch.getD k Jj).l.length - 1 - m) + 1) := by omega
    rw [hj, hat, List.getD_cons_succ, qBP _ _ _ (by omega)]
    have hC : (B7 c (An c pin S)).length = (A5 c).length := Jw
    have hUl : (F3 (C7 c ch) (B7 c (An c pin S)) (List.replicate ((ch.getD k Jj).l.length - 1 - m) (Ag pin.length ++ ([1] ++ Ag ch.length)))).length = (A5 c).length := by
      have := Xx (c := C7 c ch) (List.replicate ((ch.getD k Jj).l.length - 1 - m) (Ag pin.length ++ ([1] ++ Ag ch.length))) (B7 c (An c pin S)) (by rw [Dc h]; exact hC)
      rwa [Dc h] at this
    show (Ip (C7 c ch) (An (C7 c ch) (Ag pin.length ++ ([1] ++ Ag ch.length)) _)).getD (c.outs.l.length + k) 0 = _
    rw [qHw h hp (e := 1) (v := Ag ch.length) hzp hUl hz, List.getD_eq_getElem?_getD, List.getElem?_append_right (by simp [Ip])]
    have hol : (Ip c (An c (Ag pin.length) (F3 (C7 c ch) (B7 c (An c pin S)) (List.replicate ((ch.getD k Jj).l.length - 1 - m) (Ag pin.length ++ ([1] ++ Ag ch.length)))))).length = c.outs.l.length := by simp [Ip]
    rw [hol, Nat.add_sub_cancel_left, List.getElem?_map, List.getElem?_eq_getElem hk]
    show Uf _ = _
    have hg : ch.getD k Jj = ch[k] := by simp [List.getD_eq_getElem?_getD, hk]
    have hlast : ch[k].l.getLastD 0 = q2e ch k ((ch.getD k Jj).l.length - 1) := by
      unfold q2e
      rw [hg, List.getLastD_eq_getLast?, List.getLast?_eq_getElem?, List.getD_eq_getElem?_getD]
    rw [hlast]
    have := qBM h hp hzp hz hC q5s hk ((ch.getD k Jj).l.length - 1 - m) m (by omega)
    rw [show m + ((ch.getD k Jj).l.length - 1 - m) = (ch.getD k Jj).l.length - 1 by omega] at this
    show Uf ((F3 _ _ _).getD (Us c ch k ((ch.getD k Jj).l.length - 1)) 0) = _
    rw [this]
    have hr : B8 ((B7 c (An c pin S)).getD (Us c ch k m) 0) = (B7 c (An c pin S)).getD (Us c ch k m) 0 := by
      have hmC : (B7 c (An c pin S)).getD (Us c ch k m) 0 ∈ B7 c (An c pin S) := by
        rw [B2 (by rw [hC]; exact hq)]
        exact List.getElem_mem _
      exact q5s _ hmC
    unfold B8 at hr
    unfold Uf
    rw [if_neg]
    split at hr <;> omega
end
end Go.Lg
namespace Go.Lg
open Go Go.Proofs
variable {Γ : Tables}
theorem qA5 {Q : AX → St → Prop} (p : Pat) (hn : p.st.l.length ≤ 1000000)
    (h0 : Q (.exit 0) ⟨[(1, .t (.ip (tP p) 0)), (2, .lp 2 0 0), (3, .lp 3 0 0), (4, .t (tI p.st.l.length)), (13, .t (tB false))], [(2, .bx [.t (.sl [] (some 0) (some true)), .t (.sl [] (some 0) (some true))]), (3, .bx [.t (tV p.inn), .ls 27 0 p.st.l.length none]), (27, .sl 68 1 (Av (p.st.l.map B8)))]⟩) :
    ∀ (k i : Nat), k + i = p.st.l.length →
    run Tryz.prog Γ Rl Q ⟨[(1, .t (.ip (tP p) 0)), (2, .lp 2 0 0), (3, .lp 3 0 0), (4, .t (tI i))], [(2, .bx [.t (.sl [] (some 0) (some true)), .t (.sl [] (some 0) (some true))]), (3, .bx [.t (tV p.inn), .ls 27 0 i none]), (27, .sl 68 1 (Av ((p.st.l.take i).map B8)))]⟩
  | 0, i, h => by
    refine Yg fun K hK => ?_
    have h2 : i = p.st.l.length := by omega
    subst h2
    rw [List.take_length]
    simp [tP, tV, A0]
    simpa [tP, tV] using h0
  | k + 1, i, h => by
    refine Yg fun K hK => ?_
    have h2 : i < p.st.l.length := by omega
    have ih := qA5 p hn h0 k (i + 1) (by omega)
    rw [← List.take_append_getElem h2, List.map_append, List.map_cons, List.map_nil] at ih
    have e1 := gE (f := tK) 0 h2
    have e1' := gE' (f := tK) 0 h2
    rw [B2 h2] at e1 e1'
    generalize p.st.l[i] = v at *
    have hl : ((p.st.l.take i).map B8).length = i := by simp; omega
    generalize (p.st.l.take i).map B8 = out at *
    have vt : (Av out).take i = Av out := by rw [← hl]; exact G7
    have w1 : IntKind.i64.wrap ((i : Int) + 1) = (i : Int) + 1 := by rw [A7] <;> omega
    by_cases hv : 1 < v
    · have hr : B8 v = 2 := by unfold B8; rw [if_neg (by omega)]
      rw [hr] at ih
      have vs := G6 (l := out) (v := 2)
      simp [tP, tV] at ih
      simp [tP, tV, A0, Aa, h2, e1, e1', hv, vt, vs, hl, w1]
      refine ⟨by omega, ?_⟩
      rw [hK]
      simpa using ih
    · have hr : B8 v = v := by unfold B8; rw [if_pos (by omega)]
      rw [hr] at ih
      have vs := G6 (l := out) (v := v)
      simp [tP, tV] at ih
      simp [tP, tV, A0, Aa, h2, e1, e1', hv, vt, vs, hl, w1]
      refine ⟨by omega, ?_⟩
      rw [hK]
      simpa using ih
def Ut (p : Pat) : Pat := ⟨p.inn, ⟨p.st.l.map B8, none, none⟩⟩
theorem qDT {c : B9} {p : Pat} (h : POk c p) : POk c (Ut p) :=
  ⟨h.i, by simp [Ut, h.s], h.vi, fun v hv => by
    obtain ⟨x, hx, rfl⟩ := List.mem_map.1 hv
    have := h.vs x hx
    unfold B8 V4 at *
    split <;> omega⟩
theorem qA6 (p : Pat) (hn : p.st.l.length ≤ 1000000) : Ai Tryz.prog Γ 26 [.agg (tP p)] (.agg (tP (Ut p))) := by
  refine Ap q8C rfl ?_
  have g := fun Q h0 => qA5 (Γ := Γ) (Q := Q) p hn h0 p.st.l.length 0 (by omega)
  have ht : (Av (p.st.l.map B8)).take p.st.l.length = Av (p.st.l.map B8) := List.take_of_length_le (by rw [A0]; simp)
  simp only [Ut]
  generalize p.st.l.map B8 = R at *
  simp [tP, tV, Dh] at g
  simp [q3B, tP, tV]
  refine g _ ?_
  simp [St.freeze, Bl.closed, D3, frz1, frz0, Eo, del, Ak, ht, q3C]
theorem qJG (hΓ : GOk Γ) {c : B9} {ch : List (Sl Int)} (h : Em c ch) (hc : NOk c) (hn : (C7 c ch).nodes.l.length ≤ 19) : qKs Γ (C7 c ch) :=
  ⟨by have := Eu (C7 c ch); omega, fun p hp => qKq hΓ h hc hn rfl hp⟩
theorem qBQ {c : B9} : ∀ (l : List (List Int)) (s : List Int) (r : Rsp), r ∈ Do c s l → r.out.l.length = c.outs.l.length ∧ r.out.nl ≠ some true
  | [], _, r, h => by simp [Do] at h
  | x :: l, s, r, h => by
    simp only [Do, List.mem_cons] at h
    rcases h with rfl | h
    · exact ⟨by simp [q58, Ip], fun h => nomatch h⟩
    · exact qBQ l _ r h
theorem q4P (v : Int) : Ab Tryz.prog Γ 77 [tK v] (tB (Br v)) := by
  refine Ad q66 rfl ?_
  simp [q17, q18, Br]
def Uu (s : Sl Int) : Sl Int := ⟨(Ik s).l, some (Ik s).l.length, (Ik s).nl⟩
theorem q0e (p : Pat) (h1 : p.inn.nl = some true → p.inn.l = []) (h2 : p.st.nl = some true → p.st.l = []) (hl : p.inn.l.length ≤ 1000000 ∧ p.st.l.length ≤ 1000000) : Ai Tryz.prog Γ 78 [.agg (tP p)] (.agg [tV (Uu p.inn), tV (Uu p.st)]) := by
  refine Ap q4Q rfl ?_
  have e1 := q4M (Γ := Γ) p.inn h1 hl.1
  have e2 := q4M (Γ := Γ) p.st h2 hl.2
  have e3 := Vo (Γ := Γ) (Av (Ik p.inn).l) (Ik p.inn).cap (Ik p.inn).nl Aa
  have e4 := Vo (Γ := Γ) (Av (Ik p.st).l) (Ik p.st).cap (Ik p.st).nl Aa
  simp only [tV] at e1 e2
  simp only [Uu]
  generalize Ik p.inn = a at *
  generalize Ik p.st = b at *
  simp [Y2, tP, tV]
  refine A8 e1 rfl ?_
  simp
  refine A8 e3 rfl ?_
  simp
  refine A8 e2 rfl ?_
  simp
  refine A8 e4 rfl ?_
  simp [Y3, A0, Ak]
def qC4 (c : B9) (p : Pat) : Int := if Bi c ≠ 0 then Bi c else Ox c p
theorem qAU (hΓ : GOk Γ) (c : B9) (hc : COk c) (p : Pat) (hp : p.inn.l.length ≤ 1000000000 ∧ p.st.l.length ≤ 1000000000) : Ab Tryz.prog Γ 75 [.agg (tC c), .agg (tP p)] (tI (qC4 c p)) := by
  refine Ad q98 rfl ?_
  have e1 := q9K (Γ := Γ) hΓ c hc
  have e2 := qB3 (Γ := Γ) c hc p hp
  unfold qC4
  generalize Bi c = le at *
  generalize Ox c p = fe at *
  simp [tC, Ac, Ah, Am, Aw, tP, tV] at e1 e2
  simp [q4k, tC, Ac, Ah, Am, Aw, tP, tV]
  refine A6 e1 rfl ?_
  by_cases h : le = 0
  · simp [h]
    refine A6 e2 rfl ?_
    simp [q0k, h]
  · simp [h, q0k]
theorem qIC (L : List (List T)) (d : Nat) (hd : d < L.length) (e z : T) :
    (L.take d ++ ([[e]] ++ (L.take d ++ List.replicate (L.length + 1 - d) [z]).drop (d + 1))).take (d + 1) ++ ((L.drop d).take (L.length - d) ++ (L.take d ++ ([[e]] ++ (L.take d ++ List.replicate (L.length + 1 - d) [z]).drop (d + 1))).drop (d + 1 + (L.length - d))) = L.take d ++ [[e]] ++ L.drop d := by
  have h1 : (L.take d).length = d := by rw [List.length_take]; omega
  have h2 : (L.take d ++ List.replicate (L.length + 1 - d) [z]).drop (d + 1) = List.replicate (L.length - d) [z] := by
    rw [List.drop_append, List.drop_of_length_le (by omega), h1, List.nil_append, List.drop_replicate]
    congr 1; omega
  rw [h2]
  have h3 : (L.take d ++ ([[e]] ++ List.replicate (L.length - d) [z])).take (d + 1) = L.take d ++ [[e]] := by
    rw [← List.append_assoc, List.take_append_of_le_length (by simp; omega), List.take_of_length_le (by simp; omega)]
  have h4 : (L.take d ++ ([[e]] ++ List.replicate (L.length - d) [z])).drop (d + 1 + (L.length - d)) = [] :=
    List.drop_of_length_le (by simp; omega)
  have h5 : (L.drop d).take (L.length - d) = L.drop d := List.take_of_length_le (by simp)
  rw [h3, h4, h5, List.append_nil]
theorem qDU (L : List (List T)) (d : Nat) (hd : d < L.length) (hL : L.length ≤ 1000000) (hw : Ec 1 L) (e : T) (he : e.one = true) (ci : Option Nat) (ni : Option Bool) :
    Ai Tryz.prog Γ 108 [.sl L (some L.length) none, tI d, .sl [[e]] ci ni] (.sl (L.take d ++ [[e]] ++ L.drop d) none none) := by
  refine Ap Vy rfl ?_
  obtain ⟨M, hM⟩ : ∃ M, M = L.length + 1 := ⟨_, rfl⟩
  obtain ⟨Z, hZ⟩ : ∃ Z, Z = L.length + 1 - d := ⟨_, rfl⟩
  obtain ⟨D, hD⟩ : ∃ D, D = d + 1 := ⟨_, rfl⟩
  have w1 : IntKind.i64.wrap ((L.length : Int) + 1) = (M : Int) := by rw [A7] <;> omega
  have w2 : IntKind.i64.wrap ((M : Int) - d) = (Z : Int) := by rw [A7] <;> omega
  have w3 : IntKind.i64.wrap ((d : Int) + 1) = (D : Int) := by rw [A7] <;> omega
  have h1 : ¬ (d : Int) = L.length := by omega
  have h2 : ¬ d = L.length := by omega
  have h3 : (d : Int) ≤ L.length := by omega
  have h4 : d ≤ L.length := by omega
  have h5 : (L.length : Int) < M := by omega
  have h6 : L.length < M := by omega
  simp [K2, hw, w1, w2, w3, h1, h2, h3, h4, h5, h6]
  have hz1 : min Z 1 = 1 := by omega
  have hm : min (d + Z - D) (L.length - d) = L.length - d := by omega
  have hwt : Ec 1 (L.take d) := fun x hx => hw x (List.mem_of_mem_take hx)
  have hwd : Ec 1 ((L.drop d).take (L.length - d)) := fun x hx => hw x (List.mem_of_mem_drop (List.mem_of_mem_take hx))
  have hil := qIC L d hd e (.sl [] (some 0) (some true))
  have hlen : (L.take d ++ [[e]] ++ L.drop d).length = d + Z := by simp; omega
  have htk : (L.take d ++ [[e]] ++ L.drop d).take (d + Z) = L.take d ++ [[e]] ++ L.drop d := List.take_of_length_le (by omega)
  rw [← hD, ← hZ] at hil
  have ht1 : List.take 1 [[e]] = [[e]] := rfl
  have htt : ((L.drop d).take (L.length - d)).take (L.length - d) = (L.drop d).take (L.length - d) := by rw [List.take_take, Nat.min_self]
  rw [hz1, hm, ht1, ← hD, htt, hil]
  refine ⟨⟨by omega, ⟨hwt, by omega⟩, by omega⟩, by omega, hwd, ?_⟩
  simp only [K3]
  simp [Ak]
  simpa using htk
theorem q84 {Q : AX → St → Prop} (a b : Sl Int) (hab : a.l = b.l) (ha : a.l.length ≤ 1000000)
    (h0 : Q (.exit 0) ⟨[(0, .t (tV a)), (1, .t (tV b)), (5, .t (tI a.l.length)), (14, .t (tB false))], []⟩) :
    ∀ (k i : Nat), k + i = a.l.length → run Tryz.prog Γ Ux Q ⟨[(0, .t (tV a)), (1, .t (tV b)), (5, .t (tI i))], []⟩
  | 0, i, h => by
    refine q03 fun K hK => ?_
    have h2 : i = a.l.length := by omega
    subst h2
    simp [tV, A0]
    simpa [tV] using h0
  | k + 1, i, h => by
    refine q03 fun K hK => ?_
    have h2 : i < a.l.length := by omega
    have ih := q84 a b hab ha h0 k (i + 1) (by omega)
    have e1 := gE (f := tK) 0 h2
    have e1' := gE' (f := tK) 0 h2
    generalize a.l.getD i 0 = v at *
    have w1 : IntKind.i64.wrap ((i : Int) + 1) = (i : Int) + 1 := by rw [A7] <;> omega
    simp [tV] at ih
    simp [tV, ← hab, A0, Aa, h2, e1, e1', w1]
    rw [hK]
    simpa [← hab] using ih
theorem G3 (a b : Sl Int) (hab : a.l = b.l) (ha : a.l.length ≤ 1000000) : Ab Tryz.prog Γ 25 [tV a, tV b] (tB true) := by
  refine Ad q99 rfl ?_
  have g := fun Q h0 => q84 (Γ := Γ) (Q := Q) a b hab ha h0 a.l.length 0 (by omega)
  simp [tV, ← hab] at g
  simp [q4m, tV, ← hab, A0]
  refine g _ ?_
  simp [q4n]
theorem qDV {c : B9} {chs : Sl (Sl Int)} {s : Nat → List (List T)} {k : Nat → Option Nat} {n : Nat → Option Bool} {en : Int} (hI : qDN Γ c chs s k n en 0) (w : Int) (hw : w = 0 ∨ w = 1) (p1 p2 : Pat) (sc : Sl Int) (h1 : p1.inn.l.length = (Az c).length) (h2 : p2.inn.l.length = (Az c).length) (h3 : p1.st.l.length = (A5 c).length) (h4 : sc.l.length = if w = 0 then 0 else chs.l.length) (ha : ∀ v ∈ p1.inn.l ++ (p1.st.l ++ (p2.inn.l ++ sc.l)), Br v = false) (hpos : 0 < (Az c).length) :
    Ai Tryz.prog Γ 107 [.agg (tC c), Bn chs, tK w, .agg (tP p1 ++ tP p2), tV sc] (tI 0) := by
  refine Ap q5J rfl ?_
  have e1 := hI.call
  have e2 := q0R (Γ := Γ) c hI.ok
  have e3 := D9 (Γ := Γ) c hI.ok
  have hi := hI.inp
  have hs := hI.st
  have hc := hI.chl
  have hsl : sc.l.length ≤ 1000000 := by rw [h4]; split <;> omega
  have e4 := q0L (Γ := Γ) [p1.inn, p1.st, p2.inn, sc] (some 4) (some false) (by simp) (by simp; omega) (by simp; omega)
  have hfm : ([p1.inn, p1.st, p2.inn, sc].flatMap (·.l)) = p1.inn.l ++ (p1.st.l ++ (p2.inn.l ++ sc.l)) := by simp
  rw [hfm] at e4
  have e5 := E1 (Γ := Γ) (p1.inn.l ++ (p1.st.l ++ (p2.inn.l ++ sc.l))) none none 77 [] Br (fun x _ => q4P x) (by simp; omega)
  have hany : (p1.inn.l ++ (p1.st.l ++ (p2.inn.l ++ sc.l))).any Br = false := List.any_eq_false.2 fun v hv => by rw [ha v hv]; decide
  rw [hany] at e5
  generalize p1.inn.l ++ (p1.st.l ++ (p2.inn.l ++ sc.l)) = F at *
  have h1' : (p1.inn.l.length : Int) = (Az c).length := by omega
  have h2' : (p2.inn.l.length : Int) = (Az c).length := by omega
  have h3' : (p1.st.l.length : Int) = (A5 c).length := by omega
  simp [Ae, tV] at e4
  simp [tC, Ac, Ah, Am, Aw, Bn] at e1 e2 e3
  rcases hw with rfl | rfl
  · have h4' : sc.l.length = 0 := by simpa using h4
    have h4'' : (sc.l.length : Int) = 0 := by omega
    simp [R9, tC, Ac, Ah, Am, Aw, Bn, tP, tV]
    refine A8 e1 rfl ?_
    simp
    refine A8 e2 rfl ?_
    simp [A0, h1, h2, h3, h4', h4'', h1', h2', h3']
    refine A8 e3 rfl ?_
    simp [A0, h1, h2, h3, h4', h4'', h1', h2', h3']
    refine A6 e4 rfl ?_
    simp
    refine A6 e5 rfl ?_
    simp [Rb, Ak]
  · have h4' : sc.l.length = chs.l.length := by simpa using h4
    have h4'' : (sc.l.length : Int) = chs.l.length := by omega
    simp [R9, tC, Ac, Ah, Am, Aw, Bn, tP, tV]
    refine A8 e1 rfl ?_
    simp
    refine A8 e2 rfl ?_
    simp [A0, h1, h2, h3, h4', h4'', h1', h2', h3']
    refine A8 e3 rfl ?_
    simp [A0, h1, h2, h3, h4', h4'', h1', h2', h3']
    refine A6 e4 rfl ?_
    simp
    refine A6 e5 rfl ?_
    simp [Rb, Ak]
def Xr (w : Int) (n : Nat) (pin sc : List Int) : List Int := if w = 0 then pin ++ ([0] ++ Ag n) else pin ++ ([1] ++ sc)
def Po (ch : List (Sl Int)) (st pin2 pst : List Int) (row : List Int) : List (List Int) := (Nx ch st pin2 pst).take (C3 ch) ++ [row] ++ (Nx ch st pin2 pst).drop (C3 ch)
theorem qEd {c : B9} {chs : Sl (Sl Int)} {s : Nat → List (List T)} {k : Nat → Option Nat} {n : Nat → Option Bool} {en : Int} (hI : qDN Γ c chs s k n en 0) (w : Int) (hw : w = 0 ∨ w = 1) (p1 p2 : Pat) (sc : Sl Int) (h1 : p1.inn.l.length = (Az c).length) (h2 : p2.inn.l.length = (Az c).length) (h3 : p1.st.l.length = (A5 c).length) (h4 : sc.l.length = if w = 0 then 0 else chs.l.length) (ha : ∀ v ∈ p1.inn.l ++ (p1.st.l ++ (p2.inn.l ++ sc.l)), Br v = false) (hpos : 0 < (Az c).length) (hd : C3 chs.l ≤ 100000) :
    Ai Tryz.prog Γ 45 [.agg (tC c), Bn chs, tK w, .agg (tP p1 ++ tP p2), tV sc] (.tup [.sl (Ae Pl (Po chs.l (A5 c) p2.inn.l p1.st.l (Xr w chs.l.length p1.inn.l sc.l))) (some (2 * C3 chs.l + 2)) none, tI 0]) := by
  refine Ap q67 rfl ?_
  have e0 := qDV hI w hw p1 p2 sc h1 h2 h3 h4 ha hpos
  have hi := hI.inp
  have hs := hI.st
  have hc := hI.chl
  have hsl : sc.l.length ≤ 1000000 := by rw [h4]; split <;> omega
  have e1 := qGQ hI ⟨p2.inn, p1.st⟩ ⟨by show p2.inn.l.length ≤ _; omega, by show p1.st.l.length ≤ _; omega⟩
  have any0 : ∀ {l : List Int}, (∀ v ∈ l, Br v = false) → l.any Br = false := fun h => List.any_eq_false.2 fun v hv => by rw [h v hv]; decide
  have q2 : q6j c ⟨p2.inn, p1.st⟩ = 0 := by
    unfold q6j
    rw [if_neg (by simp [h2, h3]), if_neg]
    rw [any0 fun v hv => ha v (List.mem_append_right _ (List.mem_append_right _ (List.mem_append_left _ hv))), any0 fun v hv => ha v (List.mem_append_right _ (List.mem_append_left _ hv))]
    simp
  unfold qC1 at e1
  simp only [q2] at e1
  have hz2 : Av (Ag chs.l.length) = List.replicate chs.l.length [tK 0] := by simp [Ag, Ae]
  have e2 := q0L (Γ := Γ) [p1.inn, ⟨[0], some 1, some false⟩, ⟨Ag chs.l.length, none, none⟩] (some 3) (some false) (by simp) (by simp [Ag]; omega) (by simp; omega)
  have e3 := q0L (Γ := Γ) [p1.inn, ⟨[1], some 1, some false⟩, sc] (some 3) (some false) (by simp) (by simp; omega) (by simp; omega)
  have f2 : ([p1.inn, (⟨[0], some 1, some false⟩ : Sl Int), ⟨Ag chs.l.length, none, none⟩].flatMap (·.l)) = p1.inn.l ++ ([0] ++ Ag chs.l.length) := by simp
  have f3 : ([p1.inn, (⟨[1], some 1, some false⟩ : Sl Int), sc].flatMap (·.l)) = p1.inn.l ++ ([1] ++ sc.l) := by simp
  rw [f2] at e2
  rw [f3] at e3
  have g2 : Ae tV [p1.inn, (⟨[0], some 1, some false⟩ : Sl Int), ⟨Ag chs.l.length, none, none⟩] = [[.sl (Av p1.inn.l) p1.inn.cap p1.inn.nl], [.sl [[tK 0]] (some 1) (some false)], [.sl (List.replicate chs.l.length [tK 0]) none none]] := by rw [← hz2]; rfl
  have g3 : Ae tV [p1.inn, (⟨[1], some 1, some false⟩ : Sl Int), sc] = [[.sl (Av p1.inn.l) p1.inn.cap p1.inn.nl], [.sl [[tK 1]] (some 1) (some false)], [.sl (Av sc.l) sc.cap sc.nl]] := rfl
  rw [g2] at e2
  rw [g3] at e3
  have e4 := q25 (Γ := Γ) chs hI.chl hI.cs
  have hTl := qBN (ch := chs.l) (st := A5 c) (pin := p2.inn.l) (pst := p1.st.l)
  have e5 := fun row => Vo (Γ := Γ) (Av row) none none Aa
  have e6 := fun row => qDU (Γ := Γ) (Ae Pl (Nx chs.l (A5 c) p2.inn.l p1.st.l)) (C3 chs.l) (by rw [A0, hTl]; omega) (by rw [A0, hTl]; omega) Aa (Pl row) rfl (some 1) (some false)
  have e7 := fun row => q7S (Γ := Γ) (Ae Pl (Po chs.l (A5 c) p2.inn.l p1.st.l row)) none none Aa
  have hLl : ∀ row, (Po chs.l (A5 c) p2.inn.l p1.st.l row).length = 2 * C3 chs.l + 2 := fun row => by
    unfold Po
    rw [List.length_append, List.length_append, List.length_take, List.length_drop, hTl]
    simp; omega
  have hen : ∀ row, (Ae Pl (Nx chs.l (A5 c) p2.inn.l p1.st.l)).take (C3 chs.l) ++ [[Pl row]] ++ (Ae Pl (Nx chs.l (A5 c) p2.inn.l p1.st.l)).drop (C3 chs.l) = Ae Pl (Po chs.l (A5 c) p2.inn.l p1.st.l row) := fun row => by
    simp [Po, Ae, List.map_take, List.map_drop]
  simp only [hen, A0, hTl] at e6
  simp only [A0, hLl] at e7
  simp only [Pl] at e6
  generalize hLT : Po chs.l (A5 c) p2.inn.l p1.st.l = LT at *
  generalize Nx chs.l (A5 c) p2.inn.l p1.st.l = TL at *
  generalize C3 chs.l = d at *
  simp [tC, Ac, Ah, Am, Aw, Bn, tP, tV, hTl] at e0 e1 e4
  generalize hR0 : p1.inn.l ++ ([0] ++ Ag chs.l.length) = ROW0 at *
  generalize hR1 : p1.inn.l ++ ([1] ++ sc.l) = ROW1 at *
  have hx0 : Xr 0 chs.l.length p1.inn.l sc.l = ROW0 := by rw [← hR0]; rfl
  have hx1 : Xr 1 chs.l.length p1.inn.l sc.l = ROW1 := by rw [← hR1]; rfl
  rcases hw with rfl | rfl
  · rw [hx0]
    simp [Ua, tC, Ac, Ah, Am, Aw, Bn, tP, tV]
    refine A8 e0 rfl ?_
    simp
    refine A8 e1 rfl ?_
    simp [A0, St.freeze, Bl.closed, D3, frz1, frz0, Eo, del, Ak]
    refine ⟨by omega, ?_⟩
    refine A6 e2 rfl ?_
    simp
    refine A6 e4 rfl ?_
    simp
    refine A8 (e5 _) rfl ?_
    simp [A0]
    refine A8 (e6 _) rfl ?_
    simp
    refine A8 (e7 _) rfl ?_
    simp [Ub, Ak]
  · rw [hx1]
    simp [Ua, tC, Ac, Ah, Am, Aw, Bn, tP, tV]
    refine A8 e0 rfl ?_
    simp
    refine A8 e1 rfl ?_
    simp [A0, St.freeze, Bl.closed, D3, frz1, frz0, Eo, del, Ak]
    refine ⟨by omega, ?_⟩
    refine A6 e2 rfl ?_
    simp
    refine A6 e3 rfl ?_
    simp
    refine A6 e4 rfl ?_
    simp
    refine A8 (e5 _) rfl ?_
    simp [A0]
    refine A8 (e6 _) rfl ?_
    simp
    refine A8 (e7 _) rfl ?_
    simp [Ub, Ak]
def Im (y : q0d) (p q : PD) (sc fr : Sl Int) : List T := La y ++ (tPD p ++ (tPD q ++ [tV sc, tV fr]))
def q47 (l : List Int) (n : Nat) : List Int := (List.range' 0 n).map fun i => if l = [] then 0 else (l.getD (i % l.length) 0).tmod 4
theorem q7X {Q : AX → St → Prop} (y : q0d) (p q : PD) (sc fr : Sl Int) (ch : Sl (Sl Int)) (n : Nat) (hn : n ≤ 1000000) (hch : ch.l.length = n) (R : List Int)
    (h0 : Q (.exit 0) ⟨[(1, .t (Bn ch)), (2, .t (.ip (Im y p q sc fr) 0)), (5, .ls 31 0 n none), (6, .t (tI n)), (11, .t (tB false))], [(31, .sl 68 1 (Av R))]⟩) : ∀ (k i : Nat) (out : List Int), k + i = n → out.length = i → out ++ (List.range' i k).map (fun i => if sc.l = [] then 0 else (sc.l.getD (i % sc.l.length) 0).tmod 4) = R →
    run Tryz.prog Γ J4 Q ⟨[(1, .t (Bn ch)), (2, .t (.ip (Im y p q sc fr) 0)), (5, .ls 31 0 i none), (6, .t (tI i))], [(31, .sl 68 1 (Av out))]⟩
  | 0, i, out, h, hi, hR => by
    refine Ri fun K hK => ?_
    have h2 : i = n := by omega
    subst h2
    simp only [List.range'_zero, List.map_nil, List.append_nil] at hR
    subst hR
    simp [Bn, A0, hch]
    simpa [Bn] using h0
  | k + 1, i, out, h, hi, hR => by
    refine Ri fun K hK => ?_
    have h2 : i < n := by omega
    rw [List.range'_succ, List.map_cons] at hR
    have vt : (Av out).take i = Av out := by rw [← hi]; exact G7
    have w1 : IntKind.i64.wrap ((i : Int) + 1) = (i : Int) + 1 := by rw [A7] <;> omega
    by_cases h1 : sc.l = []
    · have ih := q7X y p q sc fr ch n hn hch R h0 k (i + 1) (out ++ [0]) (by omega) (by simp [hi]) (by rw [← hR]; simp [h1])
      have vs := G6 (l := out) (v := 0)
      simp [Im, La, I9, tPD, Bn, tV, h1] at ih
      simp [h2, hch, Im, La, I9, tPD, Bn, tV, A0, h1, w1, vt, vs, hi]
      refine ⟨by omega, ?_⟩
      rw [hK]
      simpa using ih
    · have hpos : 0 < sc.l.length := List.length_pos_iff.2 h1
      have hlt : i % sc.l.length < sc.l.length := Nat.mod_lt _ hpos
      have hmod : (i : Int).tmod (sc.l.length : Int) = ((i % sc.l.length : Nat) : Int) := by rw [Int.natCast_emod]; exact Int.tmod_eq_emod_of_nonneg (by omega)
      rw [if_neg h1] at hR
      have e := gE (f := tK) 0 hlt
      have e' := gE' (f := tK) 0 hlt
      generalize hj : i % sc.l.length = j at *
      generalize sc.l.getD j 0 = v at *
      have ih := q7X y p q sc fr ch n hn hch R h0 k (i + 1) (out ++ [v.tmod 4]) (by omega) (by simp [hi]) (by rw [← hR]; simp)
      have vs := G6 (l := out) (v := v.tmod 4)
      have hne : ¬ (sc.l.length : Int) = 0 := by omega
      have hp' : (0 : Int) < sc.l.length := by omega
      simp [Im, La, I9, tPD, Bn, tV] at ih
      simp [h2, hch, Im, La, I9, tPD, Bn, tV, A0, Aa, h1, hne, hpos, hp', hmod, hlt, e, e', w1, vt, vs, hi, -Int.natCast_emod]
      refine ⟨by omega, ?_⟩
      rw [hK]
      simpa using ih
theorem q7Y {Q : AX → St → Prop} (y : q0d) (p q : PD) (sc fr : Sl Int) (n : Nat) (hn : n ≤ 1000000) (R : List Int)
    (h0 : Q (.exit 0) ⟨[(2, .t (.ip (Im y p q sc fr) 0)), (5, .ls 34 0 n none), (6, .t (tI n)), (7, .t (tI n)), (14, .t (tB false))], [(34, .sl 68 1 (Av R))]⟩) : ∀ (k i : Nat) (out : List Int), k + i = n → out.length = i → out ++ (List.range' i k).map (fun i => if fr.l = [] then 2 else (fr.l.getD (i % fr.l.length) 0).tmod 4) = R →
    run Tryz.prog Γ J5 Q ⟨[(2, .t (.ip (Im y p q sc fr) 0)), (5, .ls 34 0 i none), (6, .t (tI n)), (7, .t (tI i))], [(34, .sl 68 1 (Av out))]⟩
  | 0, i, out, h, hi, hR => by
    refine Rj fun K hK => ?_
    have h2 : i = n := by omega
    subst h2
    simp only [List.range'_zero, List.map_nil, List.append_nil] at hR
    subst hR
    simp
    simpa using h0
  | k + 1, i, out, h, hi, hR => by
    refine Rj fun K hK => ?_
    have h2 : i < n := by omega
    rw [List.range'_succ, List.map_cons] at hR
    have vt : (Av out).take i = Av out := by rw [← hi]; exact G7
    have w1 : IntKind.i64.wrap ((i : Int) + 1) = (i : Int) + 1 := by rw [A7] <;> omega
    by_cases h1 : fr.l = []
    · have ih := q7Y y p q sc fr n hn R h0 k (i + 1) (out ++ [2]) (by omega) (by simp [hi]) (by rw [← hR]; simp [h1])
      have vs := G6 (l := out) (v := 2)
      simp [Im, La, I9, tPD, Bn, tV, h1] at ih
      simp [h2, Im, La, I9, tPD, Bn, tV, A0, h1, w1, vt, vs, hi]
      refine ⟨by omega, ?_⟩
      rw [hK]
      simpa using ih
    · have hpos : 0 < fr.l.length := List.length_pos_iff.2 h1
      have hlt : i % fr.l.length < fr.l.length := Nat.mod_lt _ hpos
      have hmod : (i : Int).tmod (fr.l.length : Int) = ((i % fr.l.length : Nat) : Int) := by rw [Int.natCast_emod]; exact Int.tmod_eq_emod_of_nonneg (by omega)
      rw [if_neg h1] at hR
      have e := gE (f := tK) 0 hlt
      have e' := gE' (f := tK) 0 hlt
      generalize hj : i % fr.l.length = j at *
      generalize fr.l.getD j 0 = v at *
      have ih := q7Y y p q sc fr n hn R h0 k (i + 1) (out ++ [v.tmod 4]) (by omega) (by simp [hi]) (by rw [← hR]; simp)
      have vs := G6 (l := out) (v := v.tmod 4)
      have hne : ¬ (fr.l.length : Int) = 0 := by omega
      have hp' : (0 : Int) < fr.l.length := by omega
      simp [Im, La, I9, tPD, Bn, tV] at ih
      simp [h2, Im, La, I9, tPD, Bn, tV, A0, Aa, h1, hne, hpos, hp', hmod, hlt, e, e', w1, vt, vs, hi, -Int.natCast_emod]
      refine ⟨by omega, ?_⟩
      rw [hK]
      simpa using ih
theorem qBR {l : List Int} {n : Nat} : (q47 l n).length = n := by simp [q47]
theorem qGW (y : q0d) (p q : PD) (sc fr : Sl Int) (ch : Sl (Sl Int)) (hch : ch.l.length ≤ 1000000) : Ai Tryz.prog Γ 44 [.agg (Im y p q sc fr), Bn ch] (.sl (Av (q47 sc.l ch.l.length)) none none) := by
  refine Ap q4S rfl ?_
  have g := fun Q h0 => q7X (Γ := Γ) (Q := Q) y p q sc fr ch ch.l.length hch rfl (q47 sc.l ch.l.length) h0 ch.l.length 0 [] (by omega) rfl (by simp [q47])
  have ht : (Av (q47 sc.l ch.l.length)).take ch.l.length = Av (q47 sc.l ch.l.length) := List.take_of_length_le (by rw [A0, qBR]; exact Nat.le_refl _)
  generalize q47 sc.l ch.l.length = R at *
  simp [Bn, Im, La, I9, tPD, tV] at g
  simp [Ya, Bn, Im, La, I9, tPD, tV]
  refine g _ ?_
  simp [Yb, Ak, ht]
theorem qBS (y : q0d) (p q : PD) (sc fr : Sl Int) (c : B9) (hc : COk c) (hs : (A5 c).length ≤ 1000000) : Ai Tryz.prog Γ 48 [.agg (Im y p q sc fr), .agg (tC c)] (.sl (Av (Ed fr.l (A5 c).length 4)) none none) := by
  refine Ap q4T rfl ?_
  have e := D9 (Γ := Γ) c hc
  have g := fun Q h0 => q7Y (Γ := Γ) (Q := Q) y p q sc fr (A5 c).length hs (Ed fr.l (A5 c).length 4) h0 (A5 c).length 0 [] (by omega) rfl (by simp [Ed])
  have ht : (Av (Ed fr.l (A5 c).length 4)).take (A5 c).length = Av (Ed fr.l (A5 c).length 4) := List.take_of_length_le (by rw [A0, Md]; exact Nat.le_refl _)
  generalize Ed fr.l (A5 c).length 4 = R at *
  generalize A5 c = st at *
  simp [tC, Ac, Ah, Am, Aw] at e
  simp [Im, La, I9, tPD, tV] at g
  simp [Yd, tC, Ac, Ah, Am, Aw, Im, La, I9, tPD, tV]
  refine A8 e rfl ?_
  simp [A0]
  refine g _ ?_
  simp [Ye, Ak, ht]
theorem q6l (hΓ : GOk Γ) {c : B9} (hc : NOk c) (p : Pat) (hP : POk c p) (hp1 : p.inn.nl = some true → p.inn.l = []) (hp2 : p.st.nl = some true → p.st.l = []) (i2 : Sl Int) (h1 : i2.l.length = p.inn.l.length) (h2 : ∀ v ∈ i2.l, V4 v) (h3 : i2.nl = some true → i2.l = []) :
    Ai Tryz.prog Γ 46 [.agg (tC c), .agg (tP p), tV i2] (.tup [.agg [tV (Uu p.inn), tV (Uu p.st), tV (Uu i2), tV (Uu ⟨B7 c (An c p.inn.l p.st.l), some (B7 c (An c p.inn.l p.st.l)).length, none⟩)], tI 0]) := by
  refine Ap q36 rfl ?_
  have hn2 := hc.n2
  have hil := Jf c
  have hsl := Eu c
  have hpi := hP.i
  have hps := hP.s
  have e1 := qBz (Γ := Γ) hΓ hc hP
  have e2 := E1 (Γ := Γ) i2.l i2.cap i2.nl 77 [] Br (fun x _ => q4P x) (by omega)
  have hany : i2.l.any Br = false := List.any_eq_false.2 fun v hv => by have := (h2 v hv).2; simp [Br]; omega
  rw [hany] at e2
  have e3 := q0e (Γ := Γ) p hp1 hp2 (by omega)
  have hnl : (B7 c (An c p.inn.l p.st.l)).length ≤ 16 := by rw [Jw]; omega
  generalize B7 c (An c p.inn.l p.st.l) = N at *
  have e4 := q0e (Γ := Γ) ⟨i2, ⟨N, some N.length, none⟩⟩ h3 (fun h => nomatch h) (by show i2.l.length ≤ _ ∧ N.length ≤ _; omega)
  generalize Ip c (An c p.inn.l p.st.l) = O at *
  generalize An c p.inn.l p.st.l = M at *
  have h1' : (i2.l.length : Int) = p.inn.l.length := by omega
  generalize Uu p.inn = a at *
  generalize Uu p.st = b at *
  generalize Uu i2 = a2 at *
  simp only at e4
  generalize Uu ⟨N, some N.length, none⟩ = b2 at *
  simp [tC, Ac, Ah, Am, Aw, tP, tV, Pl] at e1 e2 e3 e4
  simp [Wi, tC, Ac, Ah, Am, Aw, tP, tV]
  refine A8 e1 rfl ?_
  simp [A0, h1, h1']
  refine A6 e2 rfl ?_
  simp
  refine A8 e3 rfl ?_
  simp
  refine A8 e4 rfl ?_
  simp [Wj, Ak]
theorem qA7 {c : B9} {chs : Sl (Sl Int)} (hsc : Em c chs.l) {p : Pat} (hP : POk c p) : ∀ x ∈ Nx chs.l (A5 c) p.inn.l p.st.l, x.length = (Az (C7 c chs.l)).length ∧ ∀ v ∈ x, V4 v := by
  have z0 : V4 0 := by simp [V4]
  have z1 : V4 1 := by simp [V4]
  have hload4 : ∀ r ∈ Df chs.l (A5 c) p.st.l, ∀ v ∈ r, V4 v := by
    intro r hr v hv
    obtain ⟨t, _, rfl⟩ := List.mem_map.1 hr
    obtain ⟨s, _, rfl⟩ := List.mem_map.1 hv
    unfold Me
    split
    · have key : ∀ (Z : List (Int × Int)) (x : Int), (∀ q ∈ Z, V4 q.2) → V4 (Qk 0 x Z) := by
        intro Z x
        induction Z with
        | nil => intro _; exact z0
        | cons a Z ih =>
          intro h
          simp only [Qk]
          split
          · exact h a List.mem_cons_self
          · exact ih fun q hq => h q (List.mem_cons_of_mem _ hq)
      refine key _ _ fun q hq => ?_
      have := (List.of_mem_zip (show (q.1, q.2) ∈ (A5 c).zip (p.st.l.map B8) from hq)).2
      obtain ⟨y, hy, e⟩ := List.mem_map.1 this
      have h4 := hP.vs y hy
      rw [← e]
      unfold B8 V4 at *
      split <;> omega
    · exact z0
  have hz4 : ∀ n, ∀ v ∈ Ag n, V4 v := fun n v hv => by rw [List.eq_of_mem_replicate hv]; exact z0
  have hrow : ∀ x ∈ Nx chs.l (A5 c) p.inn.l p.st.l, x.length = (Az (C7 c chs.l)).length ∧ ∀ v ∈ x, V4 v := by
    intro x hx
    unfold Nx at hx
    have hcyc : ∀ (a : List Int) (e : Int) (b : List Int), a.length = (Az c).length → b.length = chs.l.length → (∀ v ∈ a, V4 v) → V4 e → (∀ v ∈ b, V4 v) → (a ++ ([e] ++ b)).length = (Az (C7 c chs.l)).length ∧ ∀ v ∈ a ++ ([e] ++ b), V4 v := fun a e b h1 h2 h3 h4 h5 =>
      ⟨q3y hsc h1 h2, fun v hv => by
        rcases List.mem_append.1 hv with hv | hv
        · exact h3 v hv
        · rcases List.mem_append.1 hv with hv | hv
          · simp at hv; subst hv; exact h4
          · exact h5 v hv⟩
    rcases List.mem_append.1 hx with hx | hx
    · obtain ⟨r, hr, rfl⟩ := List.mem_map.1 hx
      exact hcyc _ _ _ (by rw [Cj, hP.i]) (q5q r hr) (hz4 _) z1 (hload4 r hr)
    · rcases List.mem_append.1 hx with hx | hx
      · simp only [List.mem_singleton] at hx
        subst hx
        exact hcyc _ _ _ hP.i Cj hP.vi z0 (hz4 _)
      · rw [List.eq_of_mem_replicate hx]
        exact hcyc _ _ _ (by rw [Cj, hP.i]) Cj (hz4 _) z1 (hz4 _)
  exact hrow
theorem qDW {c : B9} {ch : List (Sl Int)} (hsc : Em c ch) {w : Int} {pin sc : List Int} (h1 : pin.length = (Az c).length) (h2 : ∀ v ∈ pin, V4 v) (h3 : w ≠ 0 → sc.length = ch.length) (h4 : ∀ v ∈ sc, V4 v) : (Xr w ch.length pin sc).length = (Az (C7 c ch)).length ∧ ∀ v ∈ Xr w ch.length pin sc, V4 v := by
  have z0 : V4 0 := by simp [V4]
  have z1 : V4 1 := by simp [V4]
  unfold Xr
  split
  · refine ⟨q3y hsc h1 Cj, fun v hv => ?_⟩
    rcases List.mem_append.1 hv with hv | hv
    · exact h2 v hv
    · rcases List.mem_append.1 hv with hv | hv
      · simp at hv; subst hv; exact z0
      · rw [List.eq_of_mem_replicate hv]; exact z0
  · rename_i h
    refine ⟨q3y hsc h1 (h3 h), fun v hv => ?_⟩
    rcases List.mem_append.1 hv with hv | hv
    · exact h2 v hv
    · rcases List.mem_append.1 hv with hv | hv
      · simp at hv; subst hv; exact z1
      · exact h4 v hv
theorem qDX {c : B9} {chs : Sl (Sl Int)} (hsc : Em c chs.l) {p : Pat} (hP : POk c p) {row : List Int} (hr : row.length = (Az (C7 c chs.l)).length ∧ ∀ v ∈ row, V4 v) : ∀ x ∈ Po chs.l (A5 c) p.inn.l p.st.l row, x.length = (Az (C7 c chs.l)).length ∧ ∀ v ∈ x, V4 v := by
  intro x hx
  unfold Po at hx
  rcases List.mem_append.1 hx with hx | hx
  · rcases List.mem_append.1 hx with hx | hx
    · exact qA7 hsc hP x (List.mem_of_mem_take hx)
    · simp at hx; subst hx; exact hr
  · exact qA7 hsc hP x (List.mem_of_mem_drop hx)
set_option maxHeartbeats 1000000 in
theorem q85 (hΓ : GOk Γ) {c : B9} {chs : Sl (Sl Int)} (hsc : Em c chs.l) (hc : NOk c) (hpl : Ei c = 0) (hsm : (C7 c chs.l).nodes.l.length ≤ 19) (ho1 : 1 ≤ c.outs.l.length) (hpos : 0 < (Az c).length) (w : Int) (hw : w = 0 ∨ w = 1) (p1 p2 : Pat) (hP1 : POk c p1) (hP2 : POk c p2) (sc : Sl Int) (h4 : sc.l.length = if w = 0 then 0 else chs.l.length) (hs4 : ∀ v ∈ sc.l, V4 v)
    (from' : Sl Int) (hf : from'.l.length = (A5 c).length ∧ ∀ v ∈ from'.l, V4 v) (hfn : from'.nl = some true → from'.l = []) (LT : List (List Int)) (hLT : Po chs.l (A5 c) p2.inn.l p1.st.l (Xr w chs.l.length p1.inn.l sc.l) = LT) :
    Ai Tryz.prog Γ 47 [.agg (tC c), Bn chs, tK w, tV from', .agg (tP p1 ++ tP p2), tV sc] (.tup [.agg [Pl (Il c chs.l ((Do (C7 c chs.l) from'.l LT).drop 1)), Pl (Lc c chs.l ((Do (C7 c chs.l) from'.l LT).drop 1))], tI 0]) := by
  have hn2 := hsc.n2
  have hle := q1g chs.l fun s hs => (hsc.ne s hs).1
  have hpe := hsc.perm.length_eq
  have hsl := Eu c
  have hil := Jf c
  have hos := hsc.outs.1
  have hs6 : ∀ s ∈ chs.l, s.l.length ≤ 1000000 := fun s hs => by have := hle.2 s hs; omega
  have hins : qD3 c chs := qDG hsc hpl chs.cap chs.nl
  obtain ⟨s, k, n, en, hI, h3⟩ := qC2 (Γ := Γ) hΓ hins (by omega) hs6
  have h3' : (s 3).length = c.outs.l.length + chs.l.length := by rw [h3, q6e hsc]; simp
  have hnd : (E2 chs.l).Nodup := hsc.perm.nodup_iff.2 (Dz [14] c.nodes.l 0).2
  have hd : C3 chs.l ≤ 16 := q8g fun s hs => by have := hle.2 s hs; omega
  have av : ∀ {v : Int}, V4 v → Br v = false := fun h => by have := h.2; simp [Br]; omega
  have e1 := qEd hI w hw p1 p2 sc hP1.i hP2.i hP1.s h4 (fun v hv => by
    rcases List.mem_append.1 hv with hv | hv
    · exact av (hP1.vi v hv)
    · rcases List.mem_append.1 hv with hv | hv
      · exact av (hP1.vs v hv)
      · rcases List.mem_append.1 hv with hv | hv
        · exact av (hP2.vi v hv)
        · exact av (hs4 v hv)) hpos (by omega)
  rw [hLT] at e1
  have e2 := q7z (Γ := Γ) hΓ c chs hins
  simp only [qFD] at e2
  have hrow := qDX hsc (p := ⟨p2.inn, p1.st⟩) ⟨hP2.i, hP1.s, hP2.vi, hP1.vs⟩ (qDW hsc (w := w) hP1.i hP1.vi (fun h => by rw [h4, if_neg h]) hs4)
  simp only [hLT] at hrow
  have hTl : LT.length = 2 * C3 chs.l + 2 := by
    rw [← hLT]
    unfold Po
    rw [List.length_append, List.length_append, List.length_take, List.length_drop, qBN (ch := chs.l)]
    simp; omega
  have hins4 : ∀ x ∈ LT.map (fun l => (⟨l, some l.length, none⟩ : Sl Int)), x.l.length = (Az (C7 c chs.l)).length ∧ ∀ v ∈ x.l, V4 v := by
    intro x hx
    obtain ⟨l, hl, rfl⟩ := List.mem_map.1 hx
    exact hrow l hl
  have hmm : (LT.map fun l => (⟨l, some l.length, none⟩ : Sl Int)).map (·.l) = LT := by
    rw [List.map_map]; exact List.map_id _
  have e3 := qGT (Γ := Γ) (C7 c chs.l) (qJG hΓ hsc hc hsm) (q3w hsc) from' (by rw [Dc hsc]; exact hf.1) hf.2 hfn (LT.map fun l => ⟨l, some l.length, none⟩) (some (2 * C3 chs.l + 2)) none (by
    intro e
    have := congrArg List.length e
    rw [List.length_map, hTl] at this
    simp at this) (by rw [List.length_map, hTl]; omega) hins4
  rw [hmm] at e3
  have henc : Ae tV (LT.map fun l => (⟨l, some l.length, none⟩ : Sl Int)) = Ae Pl LT := by
    unfold Ae
    rw [List.map_map]; rfl
  rw [henc] at e3
  have hRl : (Do (C7 c chs.l) from'.l LT).length = 2 * C3 chs.l + 2 := by rw [Xw, hTl]
  have hso : (C7 c chs.l).outs.l.length = c.outs.l.length + chs.l.length := by rw [← h3]; exact h3'
  have e4 := fun rc rn => qC3 hI h3' ⟨by omega, by show chs.l.length ≤ _; omega⟩ ho1 hnd ((Do (C7 c chs.l) from'.l LT).drop 1) rc rn (by rw [List.length_drop, hRl]; omega) (fun r hr => by
    have := qBQ _ _ r (List.mem_of_mem_drop hr)
    exact ⟨by rw [this.1]; exact hso, this.2⟩)
  have henD : (As Jk (Do (C7 c chs.l) from'.l LT)).drop 1 = As Jk ((Do (C7 c chs.l) from'.l LT).drop 1) := by simp [As, List.map_drop]
  have henL : (As Jk (Do (C7 c chs.l) from'.l LT)).tail.take (2 * C3 chs.l + 1) = As Jk ((Do (C7 c chs.l) from'.l LT).drop 1) := by
    rw [← List.drop_one, henD]
    exact List.take_of_length_le (by rw [Af, List.length_drop, hRl]; omega)
  refine Ap q5L rfl ?_
  generalize hR : Do (C7 c chs.l) from'.l LT = R at *
  generalize F3 (C7 c chs.l) from'.l LT = E at *
  generalize Il c chs.l (R.drop 1) = O at *
  generalize Lc c chs.l (R.drop 1) = N at *
  generalize Ae Aw (Td c chs.l).cl = s4 at *
  generalize Ao (Td c chs.l).ins = s6 at *
  generalize Ao (scJ c chs.l).muxes = s7 at *
  generalize C7 c chs.l = D at *
  simp [tC, Ac, Ah, Am, Aw, Bn, tP, tV, Pl, hTl] at e1 e2 e3 e4
  simp [q01, tC, Ac, Ah, Am, Aw, Bn, tP, tV]
  refine A8 e1 rfl ?_
  simp
  refine A8 e2 rfl ?_
  simp
  refine A8 e3 rfl ?_
  simp [Af, hRl, q1j, henL]
  refine A8 (e4 _ _) rfl ?_
  simp [q02, Pl, Ak]
def atZ : List Int → Nat → List (Int × Int)
  | [], _ => []
  | x :: l, i => (x, (i : Int)) :: atZ l (i + 1)
theorem qC5 : ∀ {l : List Int} {i : Nat}, (atZ l i).length = l.length
  | [], _ => rfl
  | x :: l, i => by simp only [atZ, List.length_cons]; rw [qC5]
theorem qDY : ∀ (l : List Int) (i : Nat), (atZ l i).map (·.1) = l
  | [], _ => rfl
  | x :: l, i => by simp only [atZ, List.map_cons]; rw [qDY]
theorem qFT : ∀ (l : List Int) (i j : Nat) (h : j < l.length), (atZ l i)[j]? = some (l.getD j 0, ((i + j : Nat) : Int))
  | [], _, _, h => absurd h (Nat.not_lt_zero _)
  | x :: l, i, 0, _ => rfl
  | x :: l, i, j + 1, h => by
    simp only [atZ, List.getElem?_cons_succ, List.getD_cons_succ]
    rw [qFT l (i + 1) j (by simpa using h)]
    congr 3; omega
theorem qDZ {l : List Int} {j : Nat} (h : j < l.length) : (atZ l 0).take (j + 1) = (atZ l 0).take j ++ [(l.getD j 0, (j : Int))] := by
  rw [List.take_add_one, qFT l 0 j h]
  simp
theorem qFU {l : List Int} (hd : l.Nodup) {j : Nat} (h : j < l.length) : l.getD j 0 ∉ ((atZ l 0).take j).map (·.1) := by
  rw [List.map_take, qDY]
  intro hm
  obtain ⟨q, hq, e⟩ := List.getElem_of_mem hm
  rw [List.length_take] at hq
  rw [List.getElem_take, List.getD_eq_getElem?_getD, List.getElem?_eq_getElem h] at e
  exact List.pairwise_iff_getElem.1 hd q j (by omega) h (by omega) e
theorem qID : ∀ (l : List Int) (i j : Nat), l.Nodup → j < l.length → Qk 0 (l.getD j 0) (atZ l i) = ((i + j : Nat) : Int)
  | [], _, _, _, h => absurd h (Nat.not_lt_zero _)
  | x :: l, i, 0, _, _ => by simp [atZ, Qk]
  | x :: l, i, j + 1, hd, h => by
    have h' : j < l.length := by simpa using h
    simp only [atZ, List.getD_cons_succ, Qk]
    rw [if_neg, qID l (i + 1) j (List.nodup_cons.1 hd).2 h']
    · congr 1; omega
    · intro e
      apply (List.nodup_cons.1 hd).1
      rw [← e, List.getD_eq_getElem?_getD, List.getElem?_eq_getElem h']
      exact List.getElem_mem _
theorem qIE {Q : AX → St → Prop} (t1 t2 t3 : T) (st : List Int) (sc : Option Nat) (sn : Option Bool) (hd : st.Nodup) (hst : st.length ≤ 1000000)
    (h0 : Q (.exit 0) ⟨[(1, .t t1), (2, .t t2), (3, .t t3), (9, .t (.sl (Ao st) sc sn)), (10, .lm 21), (22, .t (.sl (Ao st) sc sn)), (23, .t (tI st.length)), (24, .t (tI st.length)), (25, .t (tB false))], [(21, .mp (mpE tI (atZ st 0)))]⟩) :
    ∀ (k i : Nat), k + i = st.length →
    run Tryz.prog Γ Hr Q ⟨[(1, .t t1), (2, .t t2), (3, .t t3), (9, .t (.sl (Ao st) sc sn)), (10, .lm 21), (22, .t (.sl (Ao st) sc sn)), (23, .t (tI st.length)), (24, .t (tI i))], [(21, .mp (mpE tI ((atZ st 0).take i)))]⟩
  | 0, i, h => by
    refine Q2 fun K hK => ?_
    have h2 : i = st.length := by omega
    subst h2
    rw [List.take_of_length_le (by rw [qC5]; exact Nat.le_refl _)]
    simp
    simpa using h0
  | k + 1, i, h => by
    refine Q2 fun K hK => ?_
    have h2 : i < st.length := by omega
    have ih := qIE t1 t2 t3 st sc sn hd hst h0 k (i + 1) (by omega)
    rw [qDZ h2] at ih
    have hn := qFU hd h2
    have e1 := gE (f := tI) 0 h2
    have e1' := gE' (f := tI) 0 h2
    have w1 : IntKind.i64.wrap ((i : Int) + 1) = (i : Int) + 1 := by rw [A7] <;> omega
    generalize (atZ st 0).take i = Z at *
    generalize st.getD i 0 = x at *
    have em := q6i (f := tI) x (i : Int) Z hn
    have ef := Xq (f := tI) Z
    generalize mpE tI Z = M at *
    simp [A0, Aa, h2, e1, e1', w1]
    simp [em, ef, KT.fits, w1]
    rw [hK]
    simpa using ih
end Go.Lg
