/- Circuits from plain data are valid. Conditions: none. -/
import Derived.Test.YtgnomdkcimglbaaGreatDoorPkD
import Derived.Test.YtgnomdkcimglbaaGreatDoorPkE
import Derived.Test.YtgnomdkcimglbaaGreatDoorPkC
import Derived.Test.YtgnomdkcimglbaaGreatDoorProg
import Derived.KernelRfl
set_option linter.unusedSimpArgs false
set_option linter.unusedVariables false
set_option maxRecDepth 100000
namespace Go.Lg
open Go Go.Proofs
structure NG (B : Bool) (ns : List Nd) (i : Nat) (x : Nd) : Prop where
  k : 0 ≤ x.k ∧ x.k ≤ 15
  f : (fan x.k).1 ≤ x.inn.l.length ∧ (x.inn.l.length : Int) ≤ (fan x.k).2
  inn : ∀ p ∈ x.inn.l, 0 ≤ p ∧ p < ns.length
  top : 1 ≤ x.k ∧ x.k ≤ 13 → ∀ p ∈ x.inn.l, p < i
  bus : x.k = 13 → ∀ p ∈ x.inn.l, (ns.getD p.toNat Nd.d).k = 12
  mm : (x.k ≠ 15 → x.mem = 0 ∧ x.bit = 0) ∧ (x.k = 15 → B = true ∧ x.mem = 0 ∧ 0 ≤ x.bit ∧ x.bit ≤ 1)
theorem NG.mono {B : Bool} {ns ys : List Nd} {i : Nat} {x : Nd} (h : NG B ns i x) : NG B (ns ++ ys) i x :=
  ⟨h.k, h.f, fun p hp => by have := h.inn p hp; simp; omega, h.top, fun hk p hp => by
    have h1 := h.inn p hp
    rw [List.getD_eq_getElem?_getD, List.getElem?_append_left (by omega), ← List.getD_eq_getElem?_getD]
    exact h.bus hk p hp, h.mm⟩
def GNs (B : Bool) (ns : List Nd) : Prop := ∀ i (h : i < ns.length), NG B ns i ns[i]
theorem GNs.add {B : Bool} {ns : List Nd} {y : Nd} (h : GNs B ns) (hy : NG B (ns ++ [y]) ns.length y) : GNs B (ns ++ [y]) := by
  intro i hi
  by_cases h1 : i < ns.length
  · rw [List.getElem_append_left h1]; exact (h i h1).mono
  · have : i = ns.length := by simp at hi; omega
    subst this
    simpa using hy
theorem fan_at : fan 0 = (0, 0) ∧ fan 1 = (0, 0) ∧ fan 2 = (0, 0) ∧ fan 3 = (1, 1) ∧ fan 4 = (1, 1) ∧ fan 5 = (2, 16) ∧ fan 6 = (2, 16) ∧ fan 7 = (2, 16) ∧ fan 8 = (2, 16) ∧ fan 9 = (2, 16) ∧ fan 10 = (2, 16) ∧ fan 11 = (3, 3) ∧ fan 12 = (2, 2) ∧ fan 13 = (1, 16) ∧ fan 14 = (1, 1) ∧ fan 15 = (0, 0) := by decide
theorem ng_inp {B : Bool} {ns : List Nd} {i : Nat} : NG B ns i inpN := ⟨by decide, by decide, by simp [inpN], by simp [inpN], by simp [inpN], by simp [inpN]⟩
theorem ng_dff {B : Bool} {ns : List Nd} {i : Nat} {v : Int} (h : 0 ≤ v ∧ v < ns.length) : NG B ns i (dffN v) := ⟨by simp [dffN], by simp [dffN, fan_at], by simp [dffN]; exact h, by simp [dffN], by simp [dffN], by simp [dffN]⟩
theorem ng_mem {ns : List Nd} {i : Nat} {b : Int} (h : b = 0 ∨ b = 1) : NG true ns i (memN b) := ⟨by simp [memN], by simp [memN, fan_at], by simp [memN], by simp [memN], by simp [memN], by simp [memN]; omega⟩
theorem tri_at {ns : List Nd} : ∀ p ∈ triL ns, 0 ≤ p ∧ p < ns.length ∧ (ns.getD p.toNat Nd.d).k = 12 := by
  intro p hp
  obtain ⟨h1, h2, h3⟩ := ofL_kind [12] ns 0 p hp
  refine ⟨by omega, by omega, ?_⟩
  simpa using h3
theorem getD_in {l : List Int} {q : Nat} (h : q < l.length) : l.getD q 0 ∈ l := by
  rw [List.getD_eq_getElem?_getD, List.getElem?_eq_getElem h]; exact List.getElem_mem h
theorem ng_gate {B bus : Bool} {g : Gd} {ns : List Nd} (hg : GdOk g) (h0 : 1 ≤ ns.length) : NG B (ns ++ [gateN bus g ns]) ns.length (gateN bus g ns) := by
  have a := tmod_lt (n := ns.length) hg.2.1.1 (by omega)
  have b := tmod_lt (n := ns.length) hg.2.2.1.1 (by omega)
  have d := tmod_lt (n := ns.length) hg.2.2.2.1 (by omega)
  have m13 : 0 ≤ g.k.tmod 13 ∧ g.k.tmod 13 < 13 := tmod_lt (n := 13) hg.1.1 (by omega)
  have m9 : 0 ≤ g.k.tmod 9 ∧ g.k.tmod 9 < 9 := tmod_lt (n := 9) hg.1.1 (by omega)
  have ma : 0 ≤ g.a.tmod 2 ∧ g.a.tmod 2 < 2 := tmod_lt (n := 2) hg.2.1.1 (by omega)
  have hkk : 0 ≤ (if bus then g.k.tmod 13 else g.k.tmod 9) ∧ (if bus then g.k.tmod 13 else g.k.tmod 9) < 13 := by cases bus <;> simp <;> omega
  have ht := tri_at (ns := ns)
  obtain ⟨y, hy⟩ : ∃ y, y = gateN bus g ns := ⟨_, rfl⟩
  rw [← hy]
  have hlen : (ns ++ [y]).length = ns.length + 1 := by simp
  have old : ∀ p : Int, 0 ≤ p → p < ns.length → ((ns ++ [y]).getD p.toNat Nd.d).k = (ns.getD p.toNat Nd.d).k := fun p h1 h2 => by
    rw [List.getD_eq_getElem?_getD, List.getElem?_append_left (by omega), ← List.getD_eq_getElem?_getD]
  -- what suffices of a plain gate
  have mk : ∀ (k : Int) (l : List Int) (cap : Option Nat) (nl : Option Bool), 0 ≤ k → k ≤ 15 → k ≠ 13 → k ≠ 15 → (fan k).1 ≤ l.length → (l.length : Int) ≤ (fan k).2 → (∀ p ∈ l, 0 ≤ p ∧ p < ns.length) → NG B (ns ++ [y]) ns.length ⟨k, ⟨l, cap, nl⟩, 0, 0⟩ := fun k l cap nl h1 h2 h3 h4 h5 h6 h7 =>
    ⟨⟨h1, h2⟩, ⟨h5, h6⟩, fun p hp => by have := h7 p hp; omega, fun _ p hp => (h7 p hp).2, fun e => absurd e h3, fun _ => ⟨rfl, rfl⟩, fun e => absurd e h4⟩
  unfold gateN gateT at hy
  simp only at hy
  generalize g.a.tmod ns.length = a' at *
  generalize g.b.tmod ns.length = b' at *
  generalize g.d.tmod ns.length = d' at *
  generalize (if bus = true then g.k.tmod 13 else g.k.tmod 9) = kk at *
  have two : ∀ p ∈ [a', b'], 0 ≤ p ∧ p < ns.length := by intro p hp; simp at hp; rcases hp with rfl | rfl; exact a; exact b
  have three : ∀ p ∈ [a', b', d'], 0 ≤ p ∧ p < ns.length := by intro p hp; simp at hp; rcases hp with rfl | rfl | rfl; exact a; exact b; exact d
  have one : ∀ p ∈ [a'], 0 ≤ p ∧ p < ns.length := by intro p hp; simp at hp; rcases hp with rfl; exact a
  split at hy
  · rename_i h6
    have hc : kk = 0 ∨ kk = 1 ∨ kk = 2 ∨ kk = 3 ∨ kk = 4 ∨ kk = 5 := by omega
    split at hy
    · rw [hy]
      have hf : (fan (5 + kk)).1 = 2 ∧ (fan (5 + kk)).2 = 16 := by rcases hc with rfl | rfl | rfl | rfl | rfl | rfl <;> decide
      rw [← hy]
      have := mk (5 + kk) [a', b', d'] none none (by omega) (by omega) (by omega) (by omega) (by rw [hf.1]; simp) (by rw [hf.2]; simp) three
      rw [← hy] at this; exact this
    · have hf : (fan (5 + kk)).1 = 2 ∧ (fan (5 + kk)).2 = 16 := by rcases hc with rfl | rfl | rfl | rfl | rfl | rfl <;> decide
      have := mk (5 + kk) [a', b'] none none (by omega) (by omega) (by omega) (by omega) (by rw [hf.1]; simp) (by rw [hf.2]; simp) two
      rw [← hy] at this; exact this
  split at hy
  · have := mk 4 [a'] none none (by omega) (by omega) (by omega) (by omega) (by simp [fan_at]) (by simp [fan_at]) one
    rw [← hy] at this; exact this
  split at hy
  · have := mk 11 [a', b', d'] none none (by omega) (by omega) (by omega) (by omega) (by simp [fan_at]) (by simp [fan_at]) three
    rw [← hy] at this; exact this
  split at hy
  · have := mk 12 [a', b'] none none (by omega) (by omega) (by omega) (by omega) (by simp [fan_at]) (by simp [fan_at]) two
    rw [← hy] at this; exact this
  split at hy
  · rename_i ht2
    generalize triL ns = t at *
    have mt := tmod_lt (n := t.length) hg.2.1.1 ht2.2
    have mt2 := tmod_lt (a := g.a.tmod t.length + 1) (n := t.length) (by omega) ht2.2
    have q1 := ht _ (getD_in (l := t) (q := (g.a.tmod t.length).toNat) (by omega))
    have q2 := ht _ (getD_in (l := t) (q := ((g.a.tmod t.length + 1).tmod t.length).toNat) (by omega))
    generalize t.getD (g.a.tmod t.length).toNat 0 = u1 at *
    generalize t.getD ((g.a.tmod t.length + 1).tmod t.length).toNat 0 = u2 at *
    have mkb : ∀ (l : List Int) (cap : Option Nat) (nl : Option Bool), 1 ≤ l.length → l.length ≤ 16 → (∀ p ∈ l, 0 ≤ p ∧ p < ns.length ∧ (ns.getD p.toNat Nd.d).k = 12) → NG B (ns ++ [y]) ns.length ⟨13, ⟨l, cap, nl⟩, 0, 0⟩ := fun l cap nl h5 h6 h7 =>
      ⟨by simp, ⟨by simp [fan_at]; omega, by simp [fan_at]; omega⟩, fun p hp => by have := h7 p hp; omega, fun _ p hp => (h7 p hp).2.1, fun _ p hp => by rw [old p (h7 p hp).1 (h7 p hp).2.1]; exact (h7 p hp).2.2, fun _ => ⟨rfl, rfl⟩, fun e => by simp at e⟩
    split at hy
    · have := mkb [u1, u2] none none (by simp) (by simp) (by intro p hp; simp at hp; rcases hp with rfl | rfl; exact q1; exact q2)
      rw [← hy] at this; exact this
    · have := mkb [u1] none none (by simp) (by simp) (by intro p hp; simp at hp; rcases hp with rfl; exact q1)
      rw [← hy] at this; exact this
  split at hy
  · have hc : g.a.tmod 2 = 0 ∨ g.a.tmod 2 = 1 := by omega
    have hf : (fan (1 + g.a.tmod 2)).1 = 0 ∧ (fan (1 + g.a.tmod 2)).2 = 0 := by rcases hc with e | e <;> rw [e] <;> decide
    have := mk (1 + g.a.tmod 2) [] (some 0) (some true) (by omega) (by omega) (by omega) (by omega) (by rw [hf.1]; simp) (by rw [hf.2]; simp) (by simp)
    rw [← hy] at this; exact this
  · have := mk 3 [a'] none none (by omega) (by omega) (by omega) (by omega) (by simp [fan_at]) (by simp [fan_at]) one
    rw [← hy] at this; exact this
theorem gns_gates {B bus : Bool} : ∀ {l : List Gd} {ns : List Nd}, (∀ g ∈ l, GdOk g) → 1 ≤ ns.length → GNs B ns → GNs B (gatesN bus l ns)
  | [], ns, _, _, h => h
  | g :: l, ns, hg, h0, h => by
    simp only [gatesN]
    exact gns_gates (fun y hy => hg y (List.mem_cons_of_mem _ hy)) (by simp) (h.add (ng_gate (hg g List.mem_cons_self) h0))
theorem gns_set {B : Bool} {ns : List Nd} {j : Nat} {v : Int} (h : GNs B ns) (hj : j < ns.length) (hk : ns[j].k = 14) (hv : 0 ≤ v ∧ v < ns.length) : GNs B (setIn ns j v) := by
  have hm := (h j hj).mm.1 (by rw [hk]; decide)
  have hgd : ns.getD j Nd.d = ns[j] := by simp [List.getD_eq_getElem?_getD, hj]
  have kinds : ∀ q : Nat, ((setIn ns j v).getD q Nd.d).k = (ns.getD q Nd.d).k := fun q => by
    unfold setIn
    simp only [List.getD_eq_getElem?_getD, List.getElem?_set]
    split
    · rename_i e; subst e; simp [hj]
    · rfl
  intro i hi
  have hi' : i < ns.length := by rw [setIn_len] at hi; exact hi
  by_cases hij : i = j
  · subst hij
    have : (setIn ns i v)[i] = ⟨14, ⟨[v], some 1, some false⟩, 0, 0⟩ := by
      simp only [setIn, hgd, hk, hm.1, hm.2, List.getElem_set_self]
    rw [this]
    exact ⟨by simp, by simp [fan_at], by simp [setIn_len]; exact hv, by simp, by simp, by simp⟩
  · have : (setIn ns j v)[i] = ns[i] := by
      simp only [setIn]
      rw [List.getElem_set_ne (fun e => hij e.symm)]
    rw [this]
    have hn := h i hi'
    exact ⟨hn.k, hn.f, fun p hp => by rw [setIn_len]; exact hn.inn p hp, hn.top, fun hk p hp => by rw [kinds]; exact hn.bus hk p hp, hn.mm⟩
theorem setIn_kind {ns : List Nd} {j q : Nat} {v : Int} : ((setIn ns j v).getD q Nd.d).k = (ns.getD q Nd.d).k := by
  unfold setIn
  simp only [List.getD_eq_getElem?_getD, List.getElem?_set]
  split
  · rename_i e; subst e
    split
    · simp
    · rename_i h; simp [List.getElem?_eq_none (Nat.le_of_not_lt h)]
  · rfl
theorem gns_data {B : Bool} {x : CD} {first : Nat} (h0 : Byt x.d0) (h1 : Byt x.d1) : ∀ {k i : Nat} {ns : List Nd}, GNs B ns → (∀ q, q < i + k → first + q < ns.length ∧ (ns.getD (first + q) Nd.d).k = 14) → GNs B (dataN x first k i ns)
  | 0, _, _, h, _ => h
  | k + 1, i, ns, h, hq => by
    simp only [dataN]
    obtain ⟨hl, hk⟩ := hq i (by omega)
    have hd : 0 ≤ ddN x i := by unfold ddN; split; exact h0.1; exact h1.1
    have hv := tmod_lt (n := ns.length) hd (by omega)
    refine gns_data h0 h1 (gns_set h hl (by simpa [List.getD_eq_getElem?_getD, hl] using hk) hv) fun q hq' => ?_
    rw [setIn_len, setIn_kind]
    exact hq q (by omega)
theorem gatesN_kind {bus : Bool} : ∀ {l : List Gd} {ns : List Nd} {q : Nat}, q < ns.length → ((gatesN bus l ns).getD q Nd.d) = (ns.getD q Nd.d)
  | [], _, _, _ => rfl
  | g :: l, ns, q, h => by
    simp only [gatesN]
    rw [gatesN_kind (by simp; omega)]
    rw [List.getD_eq_getElem?_getD, List.getElem?_append_left h, ← List.getD_eq_getElem?_getD]
theorem gns_rep {B : Bool} {x : Nd} (h : ∀ ns : List Nd, 1 ≤ ns.length → ∀ i, NG B ns i x) : ∀ (k : Nat) {ns : List Nd}, GNs B ns → GNs B (ns ++ List.replicate k x)
  | 0, ns, hn => by simpa using hn
  | k + 1, ns, hn => by
    rw [List.replicate_succ, List.append_cons]
    exact gns_rep h k (hn.add (h _ (by simp) _))
theorem nodes5_good {x : CD} (hx : CDOk x) : GNs x.mem (nodes5 x) := by
  have m4 : 0 ≤ x.i.tmod 4 ∧ x.i.tmod 4 < 4 := tmod_lt (n := 4) hx.i.1 (by omega)
  have m3 : 0 ≤ x.f.tmod 3 ∧ x.f.tmod 3 < 3 := tmod_lt (n := 3) hx.f.1 (by omega)
  have g0 : GNs x.mem [] := fun i h => by simp at h
  have g1 : GNs x.mem (nodes1 x) := by
    have := gns_rep (B := x.mem) (x := inpN) (fun ns _ i => ng_inp) (x.i.tmod 4 + 1).toNat g0
    simpa [nodes1] using this
  have l1 : 1 ≤ (nodes1 x).length := by simp [nodes1]; omega
  have g2 : GNs x.mem (nodes2 x) := gns_rep (fun ns h i => ng_dff ⟨by omega, by omega⟩) _ g1
  have l2 : (nodes2 x).length = (nodes1 x).length + (x.f.tmod 3).toNat := by simp [nodes2]
  have g3 : GNs x.mem (nodes3 x) := by
    unfold nodes3
    split
    · rename_i hm
      rw [hm] at g2 ⊢
      have a1 := g2.add (y := memN 0) (ng_mem (.inl rfl))
      have a2 := a1.add (y := memN 1) (ng_mem (.inr rfl))
      rw [List.append_assoc] at a2
      exact a2
    · exact g2
  have l3 : (nodes2 x).length ≤ (nodes3 x).length := by unfold nodes3; split <;> simp
  have g4 : GNs x.mem (nodes4 x) := gns_gates (fun g hg => hx.gates g (List.mem_of_mem_take hg)) (by omega) g3
  have l4 : (nodes3 x).length ≤ (nodes4 x).length := by unfold nodes4; rw [gatesN_len]; omega
  refine gns_data hx.d0 hx.d1 g4 fun q hq => ⟨by omega, ?_⟩
  unfold nodes4
  rw [gatesN_kind (by omega)]
  have e : (nodes3 x).getD ((nodes1 x).length + q) Nd.d = (nodes2 x).getD ((nodes1 x).length + q) Nd.d := by
    unfold nodes3
    split
    · rw [List.getD_eq_getElem?_getD, List.getElem?_append_left (by omega), ← List.getD_eq_getElem?_getD]
    · rfl
  rw [e]
  unfold nodes2
  rw [List.getD_eq_getElem?_getD, List.getElem?_append_right (by omega)]
  simp only [Nat.add_sub_cancel_left]
  rw [List.getElem?_replicate, if_pos (by omega)]
  rfl
theorem firstErr_all {α : Type} {f : α → Int} : ∀ {l : List α}, (∀ x ∈ l, f x = 0) → firstErr (l.map f) = 0
  | [], _ => rfl
  | x :: l, h => by
    simp only [List.map_cons, firstErr, h x List.mem_cons_self, ne_eq, not_true_eq_false, if_false]
    exact firstErr_all fun y hy => h y (List.mem_cons_of_mem _ hy)
theorem names_fine : ∀ n, n ≤ 16 → namesErr [] ((List.range' 0 n).map nameL) = 0 := by
  intro n hn
  have : n = 0 ∨ n = 1 ∨ n = 2 ∨ n = 3 ∨ n = 4 ∨ n = 5 ∨ n = 6 ∨ n = 7 ∨ n = 8 ∨ n = 9 ∨ n = 10 ∨ n = 11 ∨ n = 12 ∨ n = 13 ∨ n = 14 ∨ n = 15 ∨ n = 16 := by omega
  rcases this with rfl | rfl | rfl | rfl | rfl | rfl | rfl | rfl | rfl | rfl | rfl | rfl | rfl | rfl | rfl | rfl | rfl <;> decide +kernel
theorem ofC_shape {x : CD} (hx : CDOk x) : shapeErr (ofC x) = 0 := by
  have hl := nodes4_len hx
  have h5 := nodes5_len hx
  have hg := nodes5_good hx
  have hN : (ofC x).nodes.l = nodes5 x := rfl
  have hmods : ∀ b, Byt b → 0 ≤ b.tmod (nodes4 x).length ∧ b.tmod (nodes4 x).length < (nodes5 x).length := fun b hb => by
    have := tmod_lt (n := (nodes4 x).length) hb.1 (by omega); omega
  have hout : ∀ n, 0 ≤ n ∧ n < ((nodes5 x).length : Int) → outP (ofC x) n = false := fun n h => by simp [outP, hN]; omega
  have hnode : ∀ y ∈ nodes5 x, nodeErr (ofC x) y = 0 := by
    intro y hy
    obtain ⟨i, hi, rfl⟩ := List.getElem_of_mem hy
    have hn := hg i hi
    unfold nodeErr
    rw [if_neg (by have := hn.k; omega), if_neg (by have := hn.f; omega)]
    have h1 : (nodes5 x)[i].inn.l.any (outP (ofC x)) = false := List.any_eq_false.2 fun p hp => by rw [hout p (hn.inn p hp)]; simp
    rw [h1]
    have h2 : ¬ ((nodes5 x)[i].k = 13 ∧ (nodes5 x)[i].inn.l.any (notTri (ofC x)) = true) := by
      rintro ⟨hk, ha⟩
      obtain ⟨p, hp, hq⟩ := List.any_eq_true.1 ha
      have := hn.bus hk p hp
      simp [notTri, hN] at hq
      rw [List.getD_eq_getElem?_getD] at this
      exact hq this
    rw [if_neg (by simp), if_neg h2]
    have h3 : bitOk (ofC x) (nodes5 x)[i] = true := by
      unfold bitOk
      by_cases hk : (nodes5 x)[i].k = 15
      · obtain ⟨hm, e1, e2, e3⟩ := hn.mm.2 hk
        simp only [hk, ne_eq, not_true_eq_false, if_false, decide_eq_true_eq]
        simp [ofC, memM, hm, e1]
        omega
      · have := hn.mm.1 hk
        simp [hk, this]
    rw [h3]; simp
  unfold shapeErr
  have e1 : ¬ (16384 < (ofC x).nodes.l.length ∨ 16 < (ofC x).mems.l.length ∨ 16384 < (ofC x).outs.l.length) := by
    have : (ofC x).mems.l.length ≤ 1 := by simp only [ofC, memM]; split <;> simp
    have : (ofC x).outs.l.length ≤ 4 := by simp [ofC]; omega
    rw [hN]; omega
  have e2 : (ofC x).names.l.length = (ofC x).nodes.l.length := by rw [hN]; simp [ofC]; omega
  rw [if_neg e1, if_neg (by simp [e2]), if_neg (by rw [hN, firstErr_all hnode]; simp), if_neg (by
    rw [show (ofC x).names.l = (List.range' 0 (nodes4 x).length).map nameL from rfl, names_fine _ hl.2]; simp), if_neg (by
    rw [firstErr_all]
    · simp
    · intro m hm
      simp only [ofC, memM] at hm
      split at hm
      · simp at hm; subst hm
        unfold memErr
        have a0 := hout _ (hmods _ hx.p0)
        have a1 := hout _ (hmods _ hx.p1)
        have a2 := hout _ (hmods _ hx.p2)
        have a3 := hout _ (hmods _ hx.p3)
        simp [memOut, a0, a1, a2, a3]
      · cases hm)]
  have ho : (ofC x).outs.l.any (outP (ofC x)) = false := by
    refine List.any_eq_false.2 fun p hp => ?_
    have : 0 ≤ p ∧ p < ((nodes5 x).length : Int) := by
      simp only [ofC, List.mem_append, List.mem_map, List.mem_singleton] at hp
      rcases hp with ⟨b, hb, rfl⟩ | rfl
      · exact hmods b (hx.outs b (List.mem_of_mem_take hb))
      · omega
    rw [hout p this]; simp
  rw [ho]; rfl
theorem ofC_valid {x : CD} (hx : CDOk x) : levErr (ofC x) = 0 := by
  have hs := ofC_shape hx
  have hg := nodes5_good hx
  have hN : (ofC x).nodes.l = nodes5 x := rfl
  have hin : ∀ y ∈ (ofC x).nodes.l, ∀ p ∈ y.inn.l, 0 ≤ p ∧ p < (ofC x).nodes.l.length := by
    intro y hy p hp
    rw [hN] at hy ⊢
    obtain ⟨i, hi, rfl⟩ := List.getElem_of_mem hy
    exact (hg i hi).inn p hp
  have hd := levels_done (ofC x) (shape_facts hs).2.1 hin (by
    intro i hi hc p hp
    rw [hN] at hi
    have e : (ofC x).nodes.l.getD i Nd.d = (nodes5 x)[i] := by rw [hN]; simp [List.getD_eq_getElem?_getD, hi]
    simp only [kindAt, innAt, e] at hc hp
    exact (hg i hi).top (by simpa [combB] using hc) p hp)
  unfold levErr
  rw [if_neg (by simp [hs]), if_neg hd]
theorem ofC_plain {x : CD} (hx : CDOk x) (hm : x.mem = false) : plainErr (ofC x) = 0 := by
  have hv := ofC_valid hx
  have hg := nodes5_good hx
  have h1 : (ofC x).mems.l = [] := by simp [ofC, memM, hm]
  have h2 : mems (ofC x) = [] := by
    refine List.eq_nil_iff_forall_not_mem.2 fun n hn => ?_
    obtain ⟨a, b, h3⟩ := ofL_kind [15] (ofC x).nodes.l 0 n hn
    have hi : n.toNat < (nodes5 x).length := by have : (ofC x).nodes.l = nodes5 x := rfl; rw [this] at b; omega
    have hk : (nodes5 x)[n.toNat].k = 15 := by
      have : (ofC x).nodes.l = nodes5 x := rfl
      rw [this] at h3
      simpa [List.getD_eq_getElem?_getD, hi] using h3
    have := ((hg _ hi).mm.2 hk).1
    rw [hm] at this; cases this
  unfold plainErr
  rw [if_neg (by simp [hv]), h1, h2]; simp
end Go.Lg
namespace Go.Lg
open Go Go.Proofs
variable {Γ : Tables}
structure JS where
  nodes : List Nd
  names : List (List UInt8)
  muxes : List Int
def muxN (e d b : Int) : Nd := ⟨11, ⟨[e, d, b], some 3, some false⟩, 0, 0⟩
def in0 (c : Cir) (n : Int) : Int := (innAt c n.toNat).getD 0 0
def stepSt (c : Cir) (en : Int) (bef : List (Int × Int)) (i : Nat) (n : Int) (J : JS) : JS :=
  ⟨setIn (J.nodes ++ [muxN en (in0 c n) (befOf bef n)]) n.toNat J.nodes.length, J.names ++ [smN i], J.muxes ++ [(J.nodes.length : Int)]⟩
def goSt (c : Cir) (en : Int) (bef : List (Int × Int)) : Nat → List Int → JS → JS
  | _, [], J => J
  | i, n :: l, J => goSt c en bef (i + 1) l (stepSt c en bef i n J)
structure StOne (c : Cir) (i : Nat) (n : Int) (J : JS) : Prop where
  nodes : J.nodes.length ≤ 100000
  names : J.names.length ≤ 100000
  muxes : J.muxes.length ≤ 100000
  nm : smN i ∉ J.names
  i100 : i < 100
  n0 : 0 ≤ n
  n1 : n < c.nodes.l.length
  n2 : n < J.nodes.length
  inn : innAt c n.toNat ≠ []
def okSt (c : Cir) (en : Int) (bef : List (Int × Int)) : Nat → List Int → JS → Prop
  | _, [], _ => True
  | i, n :: l, J => StOne c i n J ∧ okSt c en bef (i + 1) l (stepSt c en bef i n J)
def i8E (c : Cir) (st : List Int) (sc : Option Nat) (sn : Option Bool) (i : Nat) : List (Nat × AV) :=
  [(2, .t (.ip (tC c) 0)), (4, .lp 4 0 0), (8, .lp 46 0 0), (11, .lp 11 0 0), (12, .lm 64), (116, .t (.sl (ints st) sc sn)), (117, .t (tI st.length)), (118, .t (tI i))]
def i8R (en : Int) (S : IS) (J : JS) : List (Nat × Reg) :=
  i3G (r11 en S.cl.length J.muxes.length) (.mp (seenM J.names)) (r46 J.nodes.length J.names.length (.ls 111 0 S.outs.length none)) (.sl 33 1 (enc1 tSl S.cl)) (.sl 3 1 (ints S.ins)) (.sl 3 1 (ints S.outs)) (.sl 3 1 (ints J.muxes)) (.sl 104 4 (encN tNd J.nodes)) (.sl 9 1 (enc1 tS J.names)) S.bef
theorem nd_at {c : Cir} {n : Int} (h0 : 0 ≤ n) (h : n < c.nodes.l.length) : (encN tNd c.nodes.l)[n.toNat]?.getD [] = tNd (c.nodes.l.getD n.toNat Nd.d) := gN (by omega)
set_option maxHeartbeats 2000000 in
theorem ins_l7 {Q : AX → St → Prop} (c : Cir) (hcn : c.nodes.l.length ≤ 100000) (st : List Int) (hst : st.length ≤ 100) (sc : Option Nat) (sn : Option Bool) (en : Int) (S : IS) (R : JS)
    (h0 : Q (.exit 6) ⟨i8E c st sc sn st.length ++ [(119, .t (tB false))], i8R en S R⟩) :
    ∀ (k i : Nat) (J : JS), k + i = st.length → okSt c en S.bef i (st.drop i) J → goSt c en S.bef i (st.drop i) J = R →
    run Tryz.prog Γ scans_Insert_l7 Q ⟨i8E c st sc sn i, i8R en S J⟩
  | 0, i, J, h, hk, hR => by
    refine scans_Insert_l7_run fun K hK => ?_
    have h3 : i = st.length := by omega
    subst h3
    rw [List.drop_of_length_le (Nat.le_refl _)] at hR
    simp only [goSt] at hR
    subst hR
    simp [i8E, i8R, i3G, Z8]
    simpa [i8E, i8R, i3G, Z8] using h0
  | k + 1, i, J, h, hk, hR => by
    refine scans_Insert_l7_run fun K hK => ?_
    have h2 : i < st.length := by omega
    rw [List.drop_eq_getElem_cons h2] at hR hk
    have e := gi1 (f := tI) h2
    rw [getD_eq h2] at e
    generalize st[i] = n at *
    obtain ⟨h1, h5⟩ := hk
    simp only [goSt] at hR
    have ih := ins_l7 c hcn st hst sc sn en S R h0 k (i + 1) (stepSt c en S.bef i n J) (by omega) h5 hR
    have e' : ∀ h : i < (ints st).length, (ints st)[i] = [tI n] := fun h => by rw [← e]; simp [h]
    have n0 := h1.n0
    have n1 := h1.n1
    have n2 := h1.n2
    have n3 : n.toNat < c.nodes.l.length := by omega
    have n4 : n.toNat < J.nodes.length := by omega
    have en1 := nd_at (c := c) n0 n1
    have en1' : ∀ h : n.toNat < (encN tNd c.nodes.l).length, (encN tNd c.nodes.l)[n.toNat] = tNd (c.nodes.l.getD n.toNat Nd.d) := fun h => by rw [← en1]; simp [h]
    have hin : innAt c n.toNat = (c.nodes.l.getD n.toNat Nd.d).inn.l := rfl
    have hne := h1.inn
    have hd : (ints (c.nodes.l.getD n.toNat Nd.d).inn.l)[0]?.getD [] = [tI (in0 c n)] := by
      rw [← hin]
      cases hl : innAt c n.toNat with
      | nil => exact absurd hl hne
      | cons a l => simp [in0, hl, enc1]
    rw [hin] at hne
    have hlp : 0 < (c.nodes.l.getD n.toNat Nd.d).inn.l.length := List.length_pos_iff.2 hne
    generalize c.nodes.l.getD n.toNat Nd.d = x at *
    have hd' : ∀ h : 0 < (ints x.inn.l).length, (ints x.inn.l)[0] = [tI (in0 c n)] := fun h => by rw [← hd]; simp [h]
    have hb := befM_find n S.bef
    have hbf := befM_fit S.bef
    have c3 := itoa_spec (Γ := Γ) i h1.i100
    have z1 := h1.nodes
    have z2 := h1.names
    have c4 := add_rr (Γ := Γ) J.names J.nodes J.names S.outs (muxN en (in0 c n) (befOf S.bef n)) (smN i) (by omega) (by omega) h1.nm smN_len
    have hil : 2 + (itoaL i).length ≤ 9223372036854775807 := by unfold itoaL; split <;> simp
    have q1 : ints J.muxes ++ [[tI J.nodes.length]] = ints (J.muxes ++ [(J.nodes.length : Int)]) := enc1_snoc
    have tk1 : (ints J.muxes).take J.muxes.length = ints J.muxes := enc1_take_len
    simp [i8E, i8R, i3G, r11, r46, h2, enc1_len, enc1_wid, e, e', tC, tNodes, encN_len, tNd_wid, n0, n1, en1, en1', tNd, tSl, hd, hd', hlp, hb, hbf, KT.fits]
    refine callK_fresh c3 rfl ?_
    simp [tS, sV, ba_cat, List.idxOf_cons, Z8]
    refine ⟨hil, ?_⟩
    simp [tNd, muxN, tSl, enc1_nil, tS, sV, smN] at c4
    have hm : (⟨11, ⟨[en, in0 c n, befOf S.bef n], some 3, some false⟩, 0, 0⟩ : Nd) = muxN en (in0 c n) (befOf S.bef n) := rfl
    rw [hm] at c4
    have hLl : (J.nodes ++ [muxN en (in0 c n) (befOf S.bef n)]).length = J.nodes.length + 1 := by simp
    have y1 := gN (l := J.nodes ++ [muxN en (in0 c n) (befOf S.bef n)]) (i := n.toNat) (by omega)
    have y2 : ∀ y : Nd, (J.nodes ++ [muxN en (in0 c n) (befOf S.bef n)]).getD n.toNat Nd.d = y → (encN tNd (J.nodes ++ [muxN en (in0 c n) (befOf S.bef n)])).set n.toNat [tK y.k, .sl [[tI J.nodes.length]] (some 1) (some false), tI y.mem, tI y.bit] = encN tNd (setIn (J.nodes ++ [muxN en (in0 c n) (befOf S.bef n)]) n.toNat J.nodes.length) := fun y hy => by
      unfold setIn
      rw [hy]
      exact encN_set (f := tNd) (x := ⟨y.k, ⟨[(J.nodes.length : Int)], some 1, some false⟩, y.mem, y.bit⟩)
    have ihn : (stepSt c en S.bef i n J).nodes = setIn (J.nodes ++ [muxN en (in0 c n) (befOf S.bef n)]) n.toNat J.nodes.length := rfl
    have ihl : (setIn (J.nodes ++ [muxN en (in0 c n) (befOf S.bef n)]) n.toNat J.nodes.length).length = J.nodes.length + 1 := by unfold setIn; simp
    simp [i8E, i8R, i3G, r11, r46, Z8, ihn, ihl, tC, tNodes] at ih
    generalize J.nodes ++ [muxN en (in0 c n) (befOf S.bef n)] = L at *
    generalize setIn L n.toNat J.nodes.length = L2 at *
    have y3 := y2 _ rfl
    generalize L.getD n.toNat Nd.d = y at *
    have y1' : ∀ h : n.toNat < (encN tNd L).length, (encN tNd L)[n.toNat] = tNd y := fun h => by rw [← y1]; simp [h]
    have n5 : n < (J.nodes.length : Int) + 1 := by omega
    have n6 : n.toNat < J.nodes.length + 1 := by omega
    refine ⟨_, _, c4, ?_⟩
    simp [List.idxOf_cons, renSt, wid1s, tk1, q1, enc1_len, encN_len, hLl, n0, n5, n6, y1, y1', y3, tNd_wid, tNd, tSl]
    refine ⟨by have := h1.muxes; omega, ?_⟩
    rw [wrap_i64 (by omega) (by omega), hK]
    simpa [stepSt, nilT, smN, tSl] using ih
end Go.Lg
namespace Go.Lg
open Go Go.Proofs
variable {Γ : Tables}
def seN : List UInt8 := [115, 101]
def scS0 (c : Cir) : IS := ⟨c.nodes.l.map cpNd ++ [inpN], c.names.l ++ [seN], [], [], [], c.outs.l⟩
def scS (c : Cir) (chs : List (Sl Int)) : IS := goCh 0 chs (scS0 c)
def scJ (c : Cir) (chs : List (Sl Int)) : JS := goSt c c.nodes.l.length (scS c chs).bef 0 (states c) ⟨(scS c chs).nodes, (scS c chs).names, []⟩
def scC (c : Cir) (chs : List (Sl Int)) : Cir :=
  ⟨⟨(scJ c chs).nodes, some (scJ c chs).nodes.length, none⟩, ⟨(scJ c chs).names, some (scJ c chs).names.length, none⟩, ⟨[], some 0, some true⟩, ⟨(scS c chs).outs, some (scS c chs).outs.length, if chs = [] then (if c.outs.nl = some true then some true else none) else none⟩⟩
structure InsOk (c : Cir) (chs : Sl (Sl Int)) : Prop where
  ok : COk c
  cp : CpOk c
  names : c.names.l.Nodup
  se : seN ∉ c.names.l
  len : chs.l.length ≤ 100
  lens : ∀ s ∈ chs.l, s.l.length ≤ 1000000000
  n16 : c.nodes.l.length ≤ 1000
  n1 : c.names.l.length ≤ 1000
  s100 : (states c).length ≤ 100
  ch : okCh 0 chs.l (scS0 c)
  st : okSt c c.nodes.l.length (scS c chs.l).bef 0 (states c) ⟨(scS c chs.l).nodes, (scS c chs.l).names, []⟩
  both : chs.l = [] → states c = []
  err : checkErr c chs.l = 0
def tScan (c : Cir) (chs : List (Sl Int)) : T :=
  .agg (tC (scC c chs) ++ [.sl (enc1 tSl (scS c chs).cl) (some (scS c chs).cl.length) none, tI c.nodes.l.length, .sl (ints (scS c chs).ins) (some (scS c chs).ins.length) none, .sl (ints (scJ c chs).muxes) (some (scJ c chs).muxes.length) none])
theorem clip_node (es : List (List T)) (cap : Option Nat) (nl : Option Bool) (hw : wid 4 es) : PureCalls Tryz.prog Γ 88 [.sl es cap nl] (.sl es (some es.length) nl) := by
  refine run_pureQ slices_Clip_api_Node_chk rfl ?_
  simp [slices_Clip_api_Node_ic, slices_Clip_api_Node_rv, hw]
theorem clip_string (es : List (List T)) (cap : Option Nat) (nl : Option Bool) (hw : wid 1 es) : PureCalls Tryz.prog Γ 89 [.sl es cap nl] (.sl es (some es.length) nl) := by
  refine run_pureQ slices_Clip_string_chk rfl ?_
  simp [slices_Clip_string_ic, slices_Clip_string_rv, hw]
theorem goCh_len : ∀ {l : List (Sl Int)} {i : Nat} {S : IS}, S.ins.length = S.cl.length → (goCh i l S).ins.length = (goCh i l S).cl.length
  | [], _, _, h => h
  | s :: l, i, S, h => goCh_len (l := l) (by simp [stepCh, h])
set_option maxHeartbeats 4000000 in
theorem Insert_spec (hΓ : GOk Γ) (c : Cir) (chs : Sl (Sl Int)) (h : InsOk c chs) : PureCalls Tryz.prog Γ 29 [.agg (tC c), tChs chs] (.tup [tScan c chs.l, tI 0]) := by
  refine run_pureQ scans_Insert_chk rfl ?_
  have e1 := scheck_spec hΓ c h.ok chs (by have := h.len; omega) h.lens
  rw [h.err] at e1
  have e2 := states_spec (Γ := Γ) c h.ok
  have e3 := copy_spec (Γ := Γ) c h.cp
  have hn := h.n16
  have hn1 := h.n1
  have hm := h.len
  have hs := h.s100
  simp [scans_Insert_ic]
  simp [tC, tNodes, tNames, tMems, tSl, tChs] at e1 e2 e3
  simp [tC, tNodes, tNames, tMems, tSl, tChs]
  refine callK_fresh e1 rfl ?_
  simp
  refine callK_pure e2 rfl ?_
  have hlim : ¬ (16384 : Int) < (c.nodes.l.length : Int) + 1 + (chs.l.length : Int) + ((states c).length : Int) := by omega
  simp (disch := omega) [encN_len, enc1_len, wrap_i64, hlim]
  refine callK_pure e3 rfl ?_
  have g1 := fun Q N M O h0 => ins_l1 (Γ := Γ) (Q := Q) (.sl (enc1 tSl chs.l) chs.cap chs.nl) (.sl (ints (states c)) (some (states c).length) none) c c.names (by omega) h.names N M O h0 c.names.l.length 0 (by omega)
  simp [tC, tNodes, tNames, tMems, tSl, Z8, nilT, show seenM [] = [] from rfl] at g1
  simp [copyC, enc1_len, cpS, show encN tMm [] = [] from rfl, enc1_nil]
  refine g1 _ _ _ _ ?_
  simp [List.idxOf_cons, sV]
  have c4 := add_tt (Γ := Γ) c.names.l (c.nodes.l.map cpNd) c.names.l c.outs.l (some c.outs.l.length) (if c.outs.nl = some true then some true else none) inpN seN (by simp; omega) (by omega) h.se (by simp [seN])
  simp [tNd, inpN, tSl, enc1_nil, tS, sV, seN] at c4
  refine ⟨_, _, c4, ?_⟩
  simp [List.idxOf_cons, renSt]
  have g5 := fun Q h0 h0t => ins_l5t (Γ := Γ) (Q := Q) c (.sl (ints (states c)) (some (states c).length) none) chs h.len c.nodes.l.length (scS c chs.l) (if c.outs.nl = some true then some true else none) (scS0 c) h0 h0t rfl h.ch rfl
  have hst := h.st
  have hJ : scJ c chs.l = goSt c c.nodes.l.length (scS c chs.l).bef 0 (states c) ⟨(scS c chs.l).nodes, (scS c chs.l).names, []⟩ := rfl
  have hC : scC c chs.l = ⟨⟨(scJ c chs.l).nodes, some (scJ c chs.l).nodes.length, none⟩, ⟨(scJ c chs.l).names, some (scJ c chs.l).names.length, none⟩, ⟨[], some 0, some true⟩, ⟨(scS c chs.l).outs, some (scS c chs.l).outs.length, if chs.l = [] then (if c.outs.nl = some true then some true else none) else none⟩⟩ := rfl
  unfold tScan
  rw [hC]
  have hS0 : scS0 c = scS c [] := rfl
  have hSe : chs.l = [] → scS c chs.l = scS0 c := fun e => by rw [e]; rfl
  have hil : (scS c chs.l).ins.length = (scS c chs.l).cl.length := goCh_len rfl
  generalize scS c chs.l = S at *
  generalize scJ c chs.l = J at *
  have g7 := fun Q h0 => ins_l7 (Γ := Γ) (Q := Q) c (by omega) (states c) hs (some (states c).length) none c.nodes.l.length S J h0 (states c).length 0 ⟨S.nodes, S.names, []⟩ (by omega) hst hJ.symm
  simp [i6E, i6T, i6R, i3H, i3G, r11, r46, scS0, Z8, nilT, tC, tNodes, tNames, tMems, tSl, enc1_nil, inpN, seN, show befM [] = [] from rfl] at g5
  simp [i8E, i8R, i3G, r11, r46, Z8, nilT, tC, tNodes, tNames, tMems, tSl, enc1_nil] at g7
  simp [enc1_len]
  refine g5 _ (fun hne => ?_) (fun he => ?_)
  · simp [enc1_len]
    refine g7 _ ?_
    have k1 : (enc1 tSl S.cl).take S.cl.length = enc1 tSl S.cl := enc1_take_len
    have k2 : (ints S.ins).take S.cl.length = ints S.ins := by rw [← hil]; exact enc1_take_len
    have k3 : (ints S.outs).take S.outs.length = ints S.outs := enc1_take_len
    have k4 : (ints J.muxes).take J.muxes.length = ints J.muxes := enc1_take_len
    have k5 : (encN tNd J.nodes).take J.nodes.length = encN tNd J.nodes := encN_take_len
    have k6 : (enc1 tS J.names).take J.names.length = enc1 tS J.names := enc1_take_len
    simp [St.freeze, Reg.closed, frzRef, frz1, frz0, frzReg, del, reify, k1, k2, k3, k4, k5, k6]
    refine callK_pure (clip_node (encN tNd J.nodes) none none tNd_wid) rfl ?_
    simp
    refine callK_pure (clip_string (enc1 tS J.names) none none enc1_wid) rfl ?_
    simp
    refine callK_pure (clip_int (ints S.outs) none none enc1_wid) rfl ?_
    simp
    refine callK_pure (clip_ints (enc1 tSl S.cl) none none enc1_wid) rfl ?_
    simp
    refine callK_pure (clip_int (ints S.ins) none none enc1_wid) rfl ?_
    simp
    refine callK_pure (clip_int (ints J.muxes) none none enc1_wid) rfl ?_
    simp [scans_Insert_rv, tC, tNodes, tNames, tMems, tSl, encN_len, enc1_len, hne, show encN tMm [] = [] from rfl]
  · have hse : states c = [] := h.both he
    have hS := hSe he
    have hJe : J = ⟨S.nodes, S.names, []⟩ := by rw [hJ, hse]; rfl
    have hl0 : chs.l.length = 0 := by rw [he]; rfl
    subst hJe
    subst hS
    have k5 : (encN tNd (scS0 c).nodes).take (c.nodes.l.length + 1) = encN tNd (scS0 c).nodes := List.take_of_length_le (by simp [scS0, encN])
    have k6 : (enc1 tS (scS0 c).names).take (c.names.l.length + 1) = enc1 tS (scS0 c).names := List.take_of_length_le (by simp [scS0, enc1])
    simp [scS0, inpN, seN] at k5 k6
    simp [enc1_len, hse]
    refine scans_Insert_l7_run fun K hK => ?_
    simp [enc1_len, hse, St.freeze, Reg.closed, frzRef, frz1, frz0, frzReg, del, reify, k5, k6]
    refine callK_pure (clip_node _ none none tNd_wid) rfl ?_
    simp
    refine callK_pure (clip_string _ none none enc1_wid) rfl ?_
    simp
    refine callK_pure (clip_int (ints c.outs.l) (some c.outs.l.length) (if c.outs.nl = some true then some true else none) enc1_wid) rfl ?_
    simp
    refine callK_pure (clip_ints [] none none wid_nil) rfl ?_
    simp
    refine callK_pure (clip_int [] none none wid_nil) rfl ?_
    simp
    refine callK_pure (clip_int [] none none wid_nil) rfl ?_
    simp [scans_Insert_rv, tC, tNodes, tNames, tMems, tSl, encN_len, enc1_len, he, enc1_nil, show encN tMm [] = [] from rfl]
    simp [scS0, inpN, seN, enc1_nil]
end Go.Lg
namespace Go.Lg
open Go Go.Proofs
variable {Γ : Tables}
def elems (l : List (Sl Int)) : List Int := (l.map fun s => s.l).flatten
end Go.Lg
namespace Go.Lg
open Go Go.Proofs
def noMem (x : CD) : CD := { x with mem := false }
theorem noMem_ok {x : CD} (hx : CDOk x) : CDOk (noMem x) := ⟨hx.i, hx.f, hx.d0, hx.d1, hx.p0, hx.p1, hx.p2, hx.p3, hx.gates, hx.outs⟩
end Go.Lg
namespace Go.Lg
open Go Go.Proofs
def m0 (c : Cir) (ch : List (Sl Int)) : Nat := c.nodes.l.length + 1 + ch.length
end Go.Lg
namespace Go.Lg
open Go Go.Proofs
variable {Γ : Tables}
structure NOk (c : Cir) : Prop where
  ok : COk c
  lev : levErr c = 0
  mm : c.mems.l = []
  m0 : mems c = []
  n1 : 1 ≤ c.nodes.l.length
  n2 : c.nodes.l.length ≤ 16
  k : ∀ i, i < c.nodes.l.length → 0 ≤ kindAt c i ∧ kindAt c i ≤ 14
theorem NOk_of {x : CD} (hx : CDOk x) (hm : x.mem = false) : NOk (ofC x) := by
  have hl := nodes4_len hx
  have h5 := nodes5_len hx
  have hN : (ofC x).nodes.l = nodes5 x := rfl
  have hp := ofC_plain hx hm
  have hv := ofC_valid hx
  have h1 : (ofC x).mems.l = [] := by simp [ofC, memM, hm]
  have h2 : mems (ofC x) = [] := by
    unfold plainErr at hp
    rw [if_neg (by simp [hv])] at hp
    split at hp
    · cases hp
    · rename_i h; exact List.eq_nil_of_length_eq_zero (by omega)
  refine ⟨ofC_ok hx, hv, h1, h2, by rw [hN]; omega, by rw [hN]; omega, fun i hi => ?_⟩
  have hs := (levErr_zero hv).1
  have hn := (shape_facts hs).2.2.1 _ (List.getElem_mem hi)
  have hk : kindAt (ofC x) i = (ofC x).nodes.l[i].k := by simp [kindAt, hi]
  have hkk := (ofC_ok hx).kind _ (List.getElem_mem hi)
  have h15 : ¬ kindAt (ofC x) i = 15 := fun e => by
    have : (i : Int) ∈ mems (ofC x) := (mem_ofL hi).2 e
    rw [h2] at this; cases this
  have hle : ¬ 15 < (ofC x).nodes.l[i].k := fun h => by
    unfold nodeErr at hn
    rw [if_pos h] at hn; cases hn
  rw [hk] at h15 ⊢
  omega
theorem taken_4 {l : List Int} {n : Nat} {most : Int} (hl : ∀ v ∈ l, 0 ≤ v) (hm : 0 < most ∧ most ≤ 4) : ∀ v ∈ takenL l n most, V4 v := by
  intro v hv
  obtain ⟨i, _, rfl⟩ := List.mem_map.1 hv
  split
  · simp [V4]
  · rename_i h
    have hpos : 0 < l.length := List.length_pos_iff.2 h
    have h0 : 0 ≤ l.getD (i % l.length) 0 := by
      rw [getD_eq (Nat.mod_lt _ hpos)]; exact hl _ (List.getElem_mem _)
    generalize l.getD (i % l.length) 0 = u at *
    rw [Int.tmod_eq_emod_of_nonneg h0]
    have := Int.emod_nonneg u (show most ≠ 0 by omega)
    have := Int.emod_lt_of_pos u hm.1
    unfold V4; omega
structure POk (c : Cir) (p : Pat) : Prop where
  i : p.inn.l.length = (inputs c).length
  s : p.st.l.length = (states c).length
  vi : ∀ v ∈ p.inn.l, V4 v
  vs : ∀ v ∈ p.st.l, V4 v
theorem patOf_ok {q : PD} (hq : PDOk q) (c : Cir) : POk c (patOf q c) :=
  ⟨takenL_len, takenL_len, taken_4 (fun v hv => (hq.1 v hv).1) (by omega), taken_4 (fun v hv => (hq.2 v hv).1) (by omega)⟩
theorem fits_zero {c : Cir} (hc : NOk c) {p : Pat} (hp : POk c p) : runErr c p = 0 := by
  unfold runErr
  rw [if_neg (by simp [hc.lev])]
  unfold fitsErr
  have a1 : ∀ {l : List Int}, (∀ v ∈ l, V4 v) → l.any aboveV = false := fun h => List.any_eq_false.2 fun v hv => by have := (h v hv).2; simp [aboveV]; omega
  rw [if_neg (by rw [hc.mm, hc.m0]; simp), if_neg (by simp [hp.i, hp.s]), a1 hp.vi, a1 hp.vs]
  simp
theorem Run_ok (hΓ : GOk Γ) {c : Cir} (hc : NOk c) {p : Pat} (hp : POk c p) :
    PureCalls Tryz.prog Γ 15 [.agg (tC c), .agg (tP p)] (.tup [.agg [tVs (outL c (netsL c p.inn.l p.st.l)), tVs (nextsL c (netsL c p.inn.l p.st.l))], .sl (vals (netsL c p.inn.l p.st.l)) (some c.nodes.l.length) none, tI 0]) := by
  have hcn := hc.n2
  have h := Run_spec hΓ c hc.ok (by omega) p ⟨by rw [hp.i]; have := inputs_len c; omega, by rw [hp.s]; have := states_len' c; omega⟩ ⟨fun v hv => (hp.vi v hv).1, fun v hv => (hp.vs v hv).1⟩
  unfold runRes at h
  rwa [if_pos (fits_zero hc hp)] at h
theorem nets_len {c : Cir} {a b : List Int} : (netsL c a b).length = c.nodes.l.length := by unfold netsL; rw [runL_len, loadL_len]
end Go.Lg
namespace Go.Lg
open Go Go.Proofs
variable {c : Cir} {ch : List (Sl Int)}
def slD : Sl Int := ⟨[], none, none⟩
end Go.Lg
namespace Go.Lg
open Go Go.Proofs
variable {Γ : Tables}
theorem gE' {α : Type} {f : α → T} {l : List α} {i : Nat} (d : α) (h0 : i < l.length) : ∀ h : i < (enc1 f l).length, (enc1 f l)[i] = [f (l.getD i d)] := fun h => by
  have := enc1_get (f := f) d h0
  rw [List.getElem?_eq_getElem h] at this
  simpa [List.getD_eq_getElem?_getD] using this
theorem gE {α : Type} {f : α → T} {l : List α} {i : Nat} (d : α) (h0 : i < l.length) : (enc1 f l)[i]?.getD [] = [f (l.getD i d)] := by
  rw [List.getElem?_eq_getElem (by rw [enc1_len]; exact h0)]
  exact gE' d h0 _
def takS (l : List Int) (n : Nat) (most : Int) : Sl Int := if n = 0 then ⟨[], some 0, some true⟩ else ⟨takenL l n most, none, none⟩
theorem takS_l {l : List Int} {n : Nat} {most : Int} : (takS l n most).l = takenL l n most := by
  unfold takS
  split
  · rename_i h; subst h; rfl
  · rfl
theorem takS_ok {l : List Int} {n : Nat} {most : Int} (hn : n ≤ 1000000) : SlOk (takS l n most) := by
  unfold takS
  split
  · exact ⟨fun _ => rfl, (fun h => nomatch h), Nat.zero_le _⟩
  · rename_i h
    refine ⟨(fun h => nomatch h), fun _ e => h (by have := congrArg List.length (show takenL l n most = [] from e); rwa [takenL_len] at this), by show (takenL l n most).length ≤ _; rw [takenL_len]; exact hn⟩
theorem takS_spec (l : Sl Int) (n : Nat) (hn : n ≤ 1000000000) (most : Int) (hm : 0 < most) : FreshCalls Tryz.prog Γ 51 [tV l, tI n, tK most] (tV (takS l.l n most)) := by
  by_cases h : n = 0
  · subst h
    refine run_freshQ law06_taken0_chk rfl ?_
    simp [law06_taken0_ic]
    refine law06_taken0_l1_run fun K hK => ?_
    simp [law06_taken0_rv, takS, tV, enc1_nil]
  · have := taken_spec (Γ := Γ) l n hn most hm
    simpa [takS, h, tV] using this
def patOf2 (q : PD) (c : Cir) : Pat := ⟨takS q.i.l (inputs c).length 4, takS q.s.l (states c).length 3⟩
theorem pat2_i {q : PD} {c : Cir} : (patOf2 q c).inn.l = patI q c := takS_l
theorem pat2_s {q : PD} {c : Cir} : (patOf2 q c).st.l = patS q c := takS_l
theorem pat2_ok {q : PD} (hq : PDOk q) (c : Cir) : POk c (patOf2 q c) := by
  have h := patOf_ok hq c
  exact ⟨by rw [pat2_i]; exact h.i, by rw [pat2_s]; exact h.s, by rw [pat2_i]; exact h.vi, by rw [pat2_s]; exact h.vs⟩
theorem P_Of2_spec (q : PD) (hq : PDOk q) (c : Cir) (hc : COk c) : PureCalls Tryz.prog Γ 14 [.agg (tPD q), .agg (tC c)] (.agg (tP (patOf2 q c))) := by
  refine run_pureQ law06_P_Of0_chk rfl ?_
  have h1 := takS_spec (Γ := Γ) q.i (inputs c).length (Nat.le_trans (inputs_len c) hc.nodes) 4 (by omega)
  have h2 := takS_spec (Γ := Γ) q.s (states c).length (Nat.le_trans (states_len' c) hc.nodes) 3 (by omega)
  simp only [patOf2, tP]
  generalize takS q.i.l (inputs c).length 4 = A at *
  generalize takS q.s.l (states c).length 3 = B at *
  simp [law06_P_Of0_ic, tC, tNodes, tNames, tMems, tSl, tPD, tV]
  refine callK_fresh (count_spec c hc 0) rfl ?_
  simp
  refine callK_fresh h1 rfl ?_
  simp
  refine callK_fresh (count_spec c hc 14) rfl ?_
  simp
  refine callK_fresh h2 rfl ?_
  simp [law06_P_Of0_rv, tV]
end Go.Lg
namespace Go.Lg
open Go Go.Proofs
variable {Γ : Tables}
def mpE {α : Type} (f : α → T) (l : List (Int × α)) : List (Value × T) := l.map fun p => (.int .i64 p.1, f p.2)
def mpOf {α : Type} (d : α) (n : Int) : List (Int × α) → α
  | [] => d
  | p :: l => if n = p.1 then p.2 else mpOf d n l
theorem mpE_fit {α : Type} {f : α → T} (l : List (Int × α)) : keysFit (.int .i64) (mpE f l) := by
  intro e he; obtain ⟨s, _, rfl⟩ := List.mem_map.1 he; rfl
theorem mpE_find {α : Type} {f : α → T} (d : α) (n : Int) : ∀ l : List (Int × α), (findM (.int .i64 n) (mpE f l)).getD (f d) = f (mpOf d n l)
  | [] => rfl
  | p :: l => by
    have ih := mpE_find (f := f) d n l
    simp only [mpE, List.map_cons, findM, keyEq, mpOf] at ih ⊢
    by_cases h : n = p.1
    · simp [h]
    · simp [h, ih]
theorem mpE_set {α : Type} {f : α → T} (n : Int) (a : α) : ∀ l : List (Int × α), n ∉ l.map (·.1) → setM (.int .i64 n) (f a) (mpE f l) = mpE f (l ++ [(n, a)])
  | [], _ => rfl
  | p :: l, h => by
    simp only [List.map_cons, List.mem_cons, not_or] at h
    have ih := mpE_set (f := f) n a l h.2
    simp only [mpE, List.map_cons, setM, keyEq, List.cons_append] at ih ⊢
    simp [h.1, ih]
def depL (l : List (Sl Int)) : Nat := l.foldl (fun n s => max n s.l.length) 0
theorem dep_loop {Q : AX → St → Prop} (chs : Sl (Sl Int)) (hl : chs.l.length ≤ 1000000) (hs : ∀ s ∈ chs.l, s.l.length ≤ 1000000) (R : Nat)
    (h0 : Q (.exit 0) ⟨[(3, .t (tI R)), (6, .t (.sl (enc1 tSl chs.l) chs.cap chs.nl)), (7, .t (tI chs.l.length)), (8, .t (tI chs.l.length)), (9, .t (tB false))], []⟩) :
    ∀ (k i n : Nat), k + i = chs.l.length → (chs.l.drop i).foldl (fun n s => max n s.l.length) n = R →
    run Tryz.prog Γ shifts_Depth_l1 Q ⟨[(3, .t (tI n)), (6, .t (.sl (enc1 tSl chs.l) chs.cap chs.nl)), (7, .t (tI chs.l.length)), (8, .t (tI i))], []⟩
  | 0, i, n, h, hR => by
    refine shifts_Depth_l1_run fun K hK => ?_
    rw [List.drop_of_length_le (by omega)] at hR
    have h2 : i = chs.l.length := by omega
    subst h2
    have hR : n = R := hR
    subst hR
    simp
    simpa using h0
  | k + 1, i, n, h, hR => by
    refine shifts_Depth_l1_run fun K hK => ?_
    have h2 : i < chs.l.length := by omega
    rw [List.drop_eq_getElem_cons h2, List.foldl_cons] at hR
    have e := gE (f := tSl) ⟨[], none, none⟩ h2
    have e' := gE' (f := tSl) ⟨[], none, none⟩ h2
    rw [show chs.l.getD i ⟨[], none, none⟩ = chs.l[i] by simp [List.getD_eq_getElem?_getD, h2]] at e e'
    have ih := dep_loop chs hl hs R h0 k (i + 1) _ (by omega) hR
    generalize chs.l[i] = s at *
    simp only [tSl] at e e'
    have w1 : IntKind.i64.wrap ((i : Int) + 1) = (i : Int) + 1 := by rw [wrap_i64] <;> omega
    have hm3 : (if n < s.l.length then (s.l.length : Int) else n) = ((max n s.l.length : Nat) : Int) := by split <;> omega
    have hm : (if (s.l.length : Int) > n then (s.l.length : Int) else n) = ((max n s.l.length : Nat) : Int) := by split <;> omega
    have hm2 : (if (n : Int) < s.l.length then (s.l.length : Int) else n) = ((max n s.l.length : Nat) : Int) := by split <;> omega
    simp [h2, enc1_len, enc1_wid, e, e', w1, hm, hm2, hm3]
    rw [hK]
    simpa using ih
theorem Depth_spec (chs : Sl (Sl Int)) (hl : chs.l.length ≤ 1000000) (hs : ∀ s ∈ chs.l, s.l.length ≤ 1000000) : FreshCalls Tryz.prog Γ 39 [tChs chs] (tI (depL chs.l)) := by
  refine run_freshQ shifts_Depth_chk rfl ?_
  have g := fun Q h0 => dep_loop (Γ := Γ) (Q := Q) chs hl hs (depL chs.l) h0 chs.l.length 0 0 (by omega) (by simp [depL])
  simp [shifts_Depth_ic, tChs, enc1_len]
  refine g _ ?_
  simp [shifts_Depth_rv]
def valsErr (l : List Int) (n : Nat) : Int := if l.length ≠ n then 8 else if l.any aboveV = true then 1 else 0
theorem sval1_spec (v : Int) : FreshCalls Tryz.prog Γ 144 [tK v] (tB (aboveV v)) := by
  refine run_freshQ shifts_values_1_chk rfl ?_
  simp [shifts_values_1_ic, shifts_values_1_rv, aboveV]
theorem values_spec (s : Sl Int) (hs : s.l.length ≤ 1000000000) (n : Nat) : FreshCalls Tryz.prog Γ 101 [tV s, tI n] (tI (valsErr s.l n)) := by
  refine run_freshQ shifts_values_chk rfl ?_
  have e := containsfunc_val (Γ := Γ) s.l s.cap s.nl 144 [] aboveV (fun x _ => sval1_spec x) hs
  unfold valsErr
  by_cases h : s.l.length = n
  · subst h
    simp [shifts_values_ic, tV, enc1_len]
    refine callK_fresh e rfl ?_
    cases h3 : s.l.any aboveV
    · simp [h3, shifts_values_rv]
    · simp [h3, shifts_values_rv]
  · have h' : ¬ (s.l.length : Int) = n := by omega
    simp [shifts_values_ic, tV, enc1_len, h, h', shifts_values_rv]
end Go.Lg
namespace Go.Lg
open Go Go.Proofs
variable {Γ : Tables}
def ofZ (st pst : List Int) : List (Int × Int) := st.zip (pst.map readV)
theorem ofZ_len {st pst : List Int} (h : pst.length = st.length) : (ofZ st pst).length = st.length := by simp [ofZ, h]
theorem ofZ_get {st pst : List Int} (h : pst.length = st.length) {i : Nat} (hi : i < st.length) : (ofZ st pst)[i]'(by rw [ofZ_len h]; exact hi) = (st.getD i 0, readV (pst.getD i 0)) := by
  simp [ofZ, List.getD_eq_getElem?_getD, hi, h]
theorem ofZ_take {st pst : List Int} (h : pst.length = st.length) {i : Nat} (hi : i < st.length) : (ofZ st pst).take (i + 1) = (ofZ st pst).take i ++ [(st.getD i 0, readV (pst.getD i 0))] := by
  rw [← ofZ_get h hi, List.take_append_getElem]
theorem ofZ_not {st pst : List Int} (hd : st.Nodup) {i : Nat} (hi : i < st.length) : st.getD i 0 ∉ ((ofZ st pst).take i).map (·.1) := by
  intro hm
  obtain ⟨p, hp, e⟩ := List.mem_map.1 hm
  obtain ⟨j, hj, rfl⟩ := List.getElem_of_mem hp
  simp only [List.length_take, List.getElem_take, ofZ, List.getElem_zip] at hj e
  rw [getD_eq hi] at e
  have := (List.getElem_inj hd).1 e
  omega
theorem ld_l1 {Q : AX → St → Prop} (chT : T) (st : List Int) (sc : Option Nat) (sn : Option Bool) (hd : st.Nodup) (hst : st.length ≤ 1000000) (ps : Sl Int) (hps : ps.l.length = st.length)
    (h0 : Q (.exit 0) ⟨[(1, .t chT), (2, .t (tV ps)), (7, .lm 17), (19, .t (.sl (ints st) sc sn)), (20, .t (tI st.length)), (21, .t (tI st.length)), (22, .t (tB false))], [(17, .mp (mpE tK (ofZ st ps.l)))]⟩) :
    ∀ (k i : Nat), k + i = st.length →
    run Tryz.prog Γ shifts_loads_l1 Q ⟨[(1, .t chT), (2, .t (tV ps)), (7, .lm 17), (19, .t (.sl (ints st) sc sn)), (20, .t (tI st.length)), (21, .t (tI i))], [(17, .mp (mpE tK ((ofZ st ps.l).take i)))]⟩
  | 0, i, h => by
    refine shifts_loads_l1_run fun K hK => ?_
    have h2 : i = st.length := by omega
    subst h2
    rw [List.take_of_length_le (by rw [ofZ_len hps]; exact Nat.le_refl _)]
    simp
    simpa using h0
  | k + 1, i, h => by
    refine shifts_loads_l1_run fun K hK => ?_
    have h2 : i < st.length := by omega
    have h3 : i < ps.l.length := by omega
    have ih := ld_l1 chT st sc sn hd hst ps hps h0 k (i + 1) (by omega)
    rw [ofZ_take hps h2] at ih
    have hn := ofZ_not (pst := ps.l) hd h2
    have e1 := gE (f := tI) 0 h2
    have e1' := gE' (f := tI) 0 h2
    have e2 := gE (f := tK) 0 h3
    have e2' := gE' (f := tK) 0 h3
    have w1 : IntKind.i64.wrap ((i : Int) + 1) = (i : Int) + 1 := by rw [wrap_i64] <;> omega
    generalize (ofZ st ps.l).take i = Z at *
    generalize st.getD i 0 = x at *
    generalize ps.l.getD i 0 = y at *
    have em := mpE_set (f := tK) x (readV y) Z hn
    have ef := mpE_fit (f := tK) Z
    generalize mpE tK Z = M at *
    simp [tV] at ih
    simp [tV, enc1_len, enc1_wid, h2, h3, e1, e1', e2, e2', w1]
    refine callK_fresh (read_spec y) rfl ?_
    simp [em, ef, KT.fits, w1]
    rw [hK]
    simpa using ih
def loadV (Z : List (Int × Int)) (p : Int) (s : Sl Int) : Int := if p < s.l.length then mpOf 0 (s.l.getD p.toNat 0) Z else 0
def rwAt (f : Sl Int → Int) (l : List (Sl Int)) (k : Nat) : List Int := (l.take k).map f ++ List.replicate (l.length - k) 0
theorem rwAt_len {f : Sl Int → Int} {l : List (Sl Int)} {k : Nat} (hk : k ≤ l.length) : (rwAt f l k).length = l.length := by simp [rwAt]; omega
theorem rwAt_set {f : Sl Int → Int} {l : List (Sl Int)} {k : Nat} (hk : k < l.length) : (rwAt f l k).set k (f l[k]) = rwAt f l (k + 1) := by
  unfold rwAt
  rw [List.set_append_right _ _ (by simp; omega)]
  rw [show k - ((l.take k).map f).length = 0 by simp; omega, show l.length - k = (l.length - (k + 1)) + 1 by omega, List.replicate_succ, List.set_cons_zero, ← List.take_append_getElem hk, List.map_append]
  simp
theorem rwAt_zero {f : Sl Int → Int} {l : List (Sl Int)} {k : Nat} (hk : k < l.length) (h : f l[k] = 0) : rwAt f l (k + 1) = rwAt f l k := by
  unfold rwAt
  rw [show l.length - k = (l.length - (k + 1)) + 1 by omega, List.replicate_succ, ← List.take_append_getElem hk, List.map_append]
  simp [h]
theorem rwAt_all {f : Sl Int → Int} {l : List (Sl Int)} : rwAt f l l.length = l.map f := by simp [rwAt]
theorem rwAt_none {f : Sl Int → Int} {l : List (Sl Int)} : rwAt f l 0 = List.replicate l.length 0 := by simp [rwAt]
theorem ld_l3 {Q : AX → St → Prop} (ch : List (Sl Int)) (cc : Option Nat) (cn : Option Bool) (hch : ch.length ≤ 1000000) (hs : ∀ s ∈ ch, s.l.length ≤ 1000000) (Z : List (Int × Int)) (d t : Nat) (htd : t < d) (hd : d ≤ 1000000) (es : List (List T)) (p : Int) (hp : p = d - 1 - t)
    (h0 : Q (.exit 4) ⟨[(1, .t (.sl (enc1 tSl ch) cc cn)), (7, .lm 17), (10, .t (tI d)), (11, .ls 71 0 t none), (12, .t (tI t)), (13, .ls 42 0 ch.length none), (36, .t (tI d)), (37, .t (tI t)), (43, .t (.sl (enc1 tSl ch) cc cn)), (44, .t (tI ch.length)), (45, .t (tI ch.length)), (46, .t (tB false))],
      [(17, .mp (mpE tK Z)), (42, .sl 68 1 (vals (ch.map (loadV Z p)))), (71, .sl 37 1 es)]⟩) :
    ∀ (n k : Nat), n + k = ch.length →
    run Tryz.prog Γ shifts_loads_l3 Q ⟨[(1, .t (.sl (enc1 tSl ch) cc cn)), (7, .lm 17), (10, .t (tI d)), (11, .ls 71 0 t none), (12, .t (tI t)), (13, .ls 42 0 ch.length none), (36, .t (tI d)), (37, .t (tI t)), (43, .t (.sl (enc1 tSl ch) cc cn)), (44, .t (tI ch.length)), (45, .t (tI k))],
      [(17, .mp (mpE tK Z)), (42, .sl 68 1 (vals (rwAt (loadV Z p) ch k))), (71, .sl 37 1 es)]⟩
  | 0, k, h => by
    refine shifts_loads_l3_run fun K hK => ?_
    have h2 : k = ch.length := by omega
    subst h2
    rw [rwAt_all]
    simp
    simpa using h0
  | n + 1, k, h => by
    refine shifts_loads_l3_run fun K hK => ?_
    have h2 : k < ch.length := by omega
    have ih := ld_l3 ch cc cn hch hs Z d t htd hd es p hp h0 n (k + 1) (by omega)
    have e1 := gE (f := tSl) slD h2
    have e1' := gE' (f := tSl) slD h2
    have hx : ch.getD k slD = ch[k] := by simp [List.getD_eq_getElem?_getD, h2]
    rw [hx] at e1 e1'
    have hsl := hs _ (List.getElem_mem h2)
    have q1 := rwAt_set (f := loadV Z p) h2
    have q2 := rwAt_zero (f := loadV Z p) h2
    have hrl := rwAt_len (f := loadV Z p) (Nat.le_of_lt h2)
    have w1 : IntKind.i64.wrap ((k : Int) + 1) = (k : Int) + 1 := by rw [wrap_i64] <;> omega
    have w2 : IntKind.i64.wrap ((d : Int) - 1) = (d : Int) - 1 := by rw [wrap_i64] <;> omega
    have w3 : IntKind.i64.wrap ((d : Int) - 1 - t) = p := by rw [hp, wrap_i64] <;> omega
    have hp0 : 0 ≤ p := by omega
    generalize rwAt (loadV Z p) ch k = row at *
    generalize rwAt (loadV Z p) ch (k + 1) = row2 at *
    generalize ch[k] = s at *
    have hv : loadV Z p s = if p < s.l.length then mpOf 0 (s.l.getD p.toNat 0) Z else 0 := rfl
    simp only [tSl] at e1 e1'
    by_cases hlt : p < s.l.length
    · have h3 : p.toNat < s.l.length := by omega
      have e2 := gE (f := tI) 0 h3
      have e2' := gE' (f := tI) 0 h3
      rw [if_pos hlt] at hv
      rw [hv] at q1
      have es1 : (vals row).set k [tK (mpOf 0 (s.l.getD p.toNat 0) Z)] = vals row2 := by rw [← q1]; exact enc1_set
      generalize s.l.getD p.toNat 0 = x at *
      have ef := mpE_fit (f := tK) Z
      have em := mpE_find (f := tK) 0 x Z
      generalize mpE tK Z = M at *
      generalize mpOf 0 x Z = y at *
      simp [h2, enc1_len, enc1_wid, e1, e1', e2, e2', w1, w2, w3, hlt, hp0, h3, em, ef, KT.fits, hrl, es1]
      rw [hK]
      simpa using ih
    · rw [if_neg hlt] at hv
      have := q2 hv
      subst this
      simp [h2, enc1_len, enc1_wid, e1, e1', w1, w2, w3, hlt]
      rw [hK]
      simpa using ih
def tRow (l : List Int) : T := .sl (vals l) none none
theorem ld_l5 {Q : AX → St → Prop} (ch : List (Sl Int)) (cc : Option Nat) (cn : Option Bool) (hch : ch.length ≤ 1000000) (hs : ∀ s ∈ ch, s.l.length ≤ 1000000) (Z : List (Int × Int)) (d : Nat) (hd : d ≤ 1000000)
    (h0 : Q (.exit 2) ⟨[(1, .t (.sl (enc1 tSl ch) cc cn)), (7, .lm 17), (10, .t (tI d)), (11, .ls 71 0 d none), (36, .t (tI d)), (37, .t (tI d)), (38, .t (tB false))],
      [(17, .mp (mpE tK Z)), (71, .sl 37 1 (enc1 tRow ((List.range d).map fun t : Nat => ch.map (loadV Z ((d : Int) - 1 - t)))))]⟩) :
    ∀ (k t : Nat), k + t = d →
    run Tryz.prog Γ shifts_loads_l5 Q ⟨[(1, .t (.sl (enc1 tSl ch) cc cn)), (7, .lm 17), (10, .t (tI d)), (11, .ls 71 0 t none), (36, .t (tI d)), (37, .t (tI t))],
      [(17, .mp (mpE tK Z)), (71, .sl 37 1 (enc1 tRow ((List.range t).map fun t : Nat => ch.map (loadV Z ((d : Int) - 1 - t)))))]⟩
  | 0, t, h => by
    refine shifts_loads_l5_run fun K hK => ?_
    have h2 : t = d := by omega
    subst h2
    simp
    simpa using h0
  | k + 1, t, h => by
    refine shifts_loads_l5_run fun K hK => ?_
    have h2 : t < d := by omega
    have ih := ld_l5 ch cc cn hch hs Z d hd h0 k (t + 1) (by omega)
    rw [List.range_succ, List.map_append] at ih
    simp only [List.map_cons, List.map_nil] at ih
    have hel : (enc1 tRow ((List.range t).map fun t : Nat => ch.map (loadV Z ((d : Int) - 1 - t)))).length = t := by rw [enc1_len]; simp
    have g := fun es Q h0 => ld_l3 (Γ := Γ) (Q := Q) ch cc cn hch hs Z d t h2 hd es _ rfl h0 ch.length 0 (by omega)
    rw [rwAt_none] at g
    have hre : vals (List.replicate ch.length 0) = List.replicate ch.length [tK 0] := by simp [enc1]
    rw [hre] at g
    have hel2 := enc1_snoc (f := tRow) (l := (List.range t).map fun t : Nat => ch.map (loadV Z ((d : Int) - 1 - t))) (x := ch.map (loadV Z ((d : Int) - 1 - t)))
    generalize (List.range t).map (fun t : Nat => ch.map (loadV Z ((d : Int) - 1 - t))) = L at *
    have hrl : (ch.map (loadV Z ((d : Int) - 1 - t))).length = ch.length := by simp
    generalize ch.map (loadV Z ((d : Int) - 1 - t)) = row at *
    have w1 : IntKind.i64.wrap ((t : Int) + 1) = (t : Int) + 1 := by rw [wrap_i64] <;> omega
    have htk : (vals row).take ch.length = vals row := by rw [← hrl]; exact vals_take
    have htk2 : (enc1 tRow L).take t = enc1 tRow L := List.take_of_length_le (by omega)
    simp only [tRow] at hel2
    simp [h2, enc1_len]
    refine ⟨by omega, ?_⟩
    refine g _ _ ?_
    simp [St.freeze, Reg.closed, frzRef, frz1, frz0, frzReg, del, reify, htk, htk2, hel, w1, hel2]
    refine ⟨by omega, ?_⟩
    rw [hK]
    simpa [tRow] using ih
def loadsL (ch : List (Sl Int)) (st pst : List Int) : List (List Int) := (List.range (depL ch)).map fun t : Nat => ch.map (loadV (ofZ st pst) ((depL ch : Int) - 1 - t))
theorem clip_vals (es : List (List T)) (cap : Option Nat) (nl : Option Bool) (hw : wid 1 es) : PureCalls Tryz.prog Γ 104 [.sl es cap nl] (.sl es (some es.length) nl) := by
  refine run_pureQ slices_Clip_api_Values_chk rfl ?_
  simp [slices_Clip_api_Values_ic, slices_Clip_api_Values_rv, hw]
theorem depL_le {l : List (Sl Int)} {m : Nat} (h : ∀ s ∈ l, s.l.length ≤ m) : depL l ≤ m := by
  have key : ∀ (l : List (Sl Int)) (n : Nat), n ≤ m → (∀ s ∈ l, s.l.length ≤ m) → l.foldl (fun n s => max n s.l.length) n ≤ m := by
    intro l
    induction l with
    | nil => intro n hn _; exact hn
    | cons s l ih => intro n hn h; exact ih _ (Nat.max_le.2 ⟨hn, h s List.mem_cons_self⟩) fun s hs => h s (List.mem_cons_of_mem _ hs)
  exact key l 0 (by omega) h
theorem loads_spec (c : Cir) (hc : COk c) (hsl : (states c).length ≤ 1000000) (chs : Sl (Sl Int)) (hl : chs.l.length ≤ 1000000) (hs : ∀ s ∈ chs.l, s.l.length ≤ 1000000) (ps : Sl Int) (hps : ps.l.length = (states c).length) :
    PureCalls Tryz.prog Γ 102 [.agg (tC c), tChs chs, tV ps] (.sl (enc1 tRow (loadsL chs.l (states c) ps.l)) (some (loadsL chs.l (states c) ps.l).length) none) := by
  refine run_pureQ shifts_loads_chk rfl ?_
  have e1 := states_spec (Γ := Γ) c hc
  have e2 := Depth_spec (Γ := Γ) chs hl hs
  have hd : (states c).Nodup := (ofL_nodup [14] c.nodes.l 0).2
  have g1 := fun Q sc sn h0 => ld_l1 (Γ := Γ) (Q := Q) (.sl (enc1 tSl chs.l) chs.cap chs.nl) (states c) sc sn hd hsl ps hps h0 (states c).length 0 (by omega)
  have g5 := fun Q h0 => ld_l5 (Γ := Γ) (Q := Q) chs.l chs.cap chs.nl hl hs (ofZ (states c) ps.l) (depL chs.l) (depL_le hs) h0 (depL chs.l) 0 (by omega)
  have hll : (loadsL chs.l (states c) ps.l).length = depL chs.l := by simp [loadsL]
  have hL : (List.range (depL chs.l)).map (fun t : Nat => chs.l.map (loadV (ofZ (states c) ps.l) ((depL chs.l : Int) - 1 - t))) = loadsL chs.l (states c) ps.l := rfl
  rw [hL] at g5
  generalize loadsL chs.l (states c) ps.l = L at *
  generalize states c = st at *
  have e3 := clip_vals (Γ := Γ) (enc1 tRow L) none none enc1_wid
  have htk : (enc1 tRow L).take (depL chs.l) = enc1 tRow L := List.take_of_length_le (by rw [enc1_len]; omega)
  simp [tV, mpE, enc1_nil] at g1 g5
  simp [shifts_loads_ic, tC, tNodes, tNames, tMems, tSl, tChs, tV]
  simp [tC, tNodes, tNames, tMems, tSl, tChs] at e1 e2
  refine callK_pure e1 rfl ?_
  simp [enc1_len]
  refine g1 _ _ _ ?_
  simp
  refine callK_fresh e2 rfl ?_
  simp
  refine g5 _ ?_
  simp [St.freeze, Reg.closed, frzRef, frz1, frz0, frzReg, del, reify, htk]
  refine callK_pure e3 rfl ?_
  simp [shifts_loads_rv, enc1_len]
end Go.Lg
namespace Go.Lg
open Go Go.Proofs
variable {Γ : Tables}
theorem cycle_spec (a b : Sl Int) (e : Int) (ha : a.l.length ≤ 1000000) (hb : b.l.length ≤ 1000000) : PureCalls Tryz.prog Γ 103 [tV a, tK e, tV b] (tVs (a.l ++ ([e] ++ b.l))) := by
  refine run_pureQ shifts_Test_1_chk rfl ?_
  have e1 := concat_spec (Γ := Γ) [a, ⟨[e], some 1, some false⟩, b] (some 3) (some false) (by simp) (by simp; omega) (by simp; omega)
  have hfl : ([a, ⟨[e], some 1, some false⟩, b] : List (Sl Int)).flatMap (·.l) = a.l ++ ([e] ++ b.l) := by simp
  rw [hfl] at e1
  generalize a.l ++ ([e] ++ b.l) = A at *
  have e6 := clip_val (Γ := Γ) (vals A) none none enc1_wid
  have e1' : FreshCalls Tryz.prog Γ 91 [.sl [[.sl (vals a.l) a.cap a.nl], [.sl [[tK e]] (some 1) (some false)], [.sl (vals b.l) b.cap b.nl]] (some 3) (some false)] (.sl (vals A) none none) := e1
  simp [shifts_Test_1_ic, tV]
  refine callK_fresh e1' (by simp) ?_
  simp
  refine callK_pure e6 rfl ?_
  simp [shifts_Test_1_rv, tVs, enc1_len]
structure InsH (Γ : Tables) (c : Cir) (chs : Sl (Sl Int)) (s : Nat → List (List T)) (k : Nat → Option Nat) (n : Nat → Option Bool) (en ce : Int) : Prop where
  ok : COk c
  st : (states c).length ≤ 1000000
  inp : (inputs c).length ≤ 1000000
  chl : chs.l.length ≤ 1000000
  cs : ∀ s ∈ chs.l, s.l.length ≤ 1000000
  call : PureCalls Tryz.prog Γ 29 [.agg (tC c), tChs chs] (.tup [.agg [.sl (s 0) (k 0) (n 0), .sl (s 1) (k 1) (n 1), .sl (s 2) (k 2) (n 2), .sl (s 3) (k 3) (n 3), .sl (s 4) (k 4) (n 4), tI en, .sl (s 6) (k 6) (n 6), .sl (s 7) (k 7) (n 7)], tI ce])
theorem Loads_spec {c : Cir} {chs : Sl (Sl Int)} {s : Nat → List (List T)} {k : Nat → Option Nat} {n : Nat → Option Bool} {en ce : Int} (h : InsH Γ c chs s k n en ce) (ps : Sl Int) (hp : ps.l.length ≤ 1000000) :
    PureCalls Tryz.prog Γ 38 [.agg (tC c), tChs chs, tV ps] (if ce ≠ 0 then .tup [.sl [] (some 0) (some true), tI ce] else if valsErr ps.l (states c).length ≠ 0 then .tup [.sl [] (some 0) (some true), tI (valsErr ps.l (states c).length)] else .tup [.sl (enc1 tRow (loadsL chs.l (states c) ps.l)) (some (loadsL chs.l (states c) ps.l).length) none, tI 0]) := by
  refine run_pureQ shifts_Loads_chk rfl ?_
  have e1 := h.call
  have e2 := states_spec (Γ := Γ) c h.ok
  have e3 := values_spec (Γ := Γ) ps (by omega) (states c).length
  have e4 := fun hq => loads_spec (Γ := Γ) c h.ok h.st chs h.chl h.cs ps hq
  have hv : valsErr ps.l (states c).length = 0 → ps.l.length = (states c).length := fun h => by
    unfold valsErr at h
    split at h
    · cases h
    · rename_i h2; exact Decidable.not_not.1 h2
  generalize loadsL chs.l (states c) ps.l = L at *
  generalize valsErr ps.l (states c).length = ve at *
  generalize states c = st at *
  simp [tC, tNodes, tNames, tMems, tSl, tChs, tV] at e1 e2 e3 e4
  simp [shifts_Loads_ic, tC, tNodes, tNames, tMems, tSl, tChs, tV]
  refine callK_pure e1 rfl ?_
  by_cases hc : ce = 0
  · subst hc
    simp
    refine callK_pure e2 rfl ?_
    simp [enc1_len]
    refine callK_fresh e3 rfl ?_
    by_cases hv0 : ve = 0
    · subst hv0
      simp
      refine callK_pure (e4 (hv rfl)) rfl ?_
      simp [shifts_Loads_rv]
    · simp [hv0, shifts_Loads_rv]
  · simp [hc, shifts_Loads_rv]
def zerosL (n : Nat) : List Int := List.replicate n 0
def testL (ch : List (Sl Int)) (st pin pst : List Int) : List (List Int) :=
  (loadsL ch st pst).map (fun s => zerosL pin.length ++ ([1] ++ s)) ++ ([pin ++ ([0] ++ zerosL ch.length)] ++ List.replicate (depL ch) (zerosL pin.length ++ ([1] ++ zerosL ch.length)))
def stE (chT : T) (p : Sl Int) (s : Sl Int) (i m : Nat) : List (Nat × AV) := [(1, .t chT), (5, .t (.ip [tV p, tV s] 0)), (12, .t (tRow (zerosL i))), (13, .t (tRow (zerosL m))), (14, .t (.fn 103 []))]
theorem st_l1 {Q : AX → St → Prop} (chT : T) (p s : Sl Int) (i m : Nat) (hi : i ≤ 1000000) (L : List (List Int)) (hL : L.length ≤ 1000000) (hLs : ∀ r ∈ L, r.length ≤ 1000000) (R : List (List Int))
    (h0 : Q (.exit 0) ⟨stE chT p s i m ++ [(15, .ls 76 0 L.length none), (64, .t (.sl (enc1 tRow L) (some L.length) none)), (65, .t (tI L.length)), (66, .t (tI L.length)), (67, .t (tB false))], [(76, .sl 37 1 (enc1 tVs R))]⟩) :
    ∀ (k j : Nat) (out : List (List Int)), k + j = L.length → out.length = j → out ++ (L.drop j).map (fun s => zerosL i ++ ([1] ++ s)) = R →
    run Tryz.prog Γ shifts_Test_l1 Q ⟨stE chT p s i m ++ [(15, .ls 76 0 j none), (64, .t (.sl (enc1 tRow L) (some L.length) none)), (65, .t (tI L.length)), (66, .t (tI j))], [(76, .sl 37 1 (enc1 tVs out))]⟩
  | 0, j, out, h, ho, hR => by
    refine shifts_Test_l1_run fun K hK => ?_
    have h2 : j = L.length := by omega
    subst h2
    simp only [List.drop_length, List.map_nil, List.append_nil] at hR
    subst hR
    simp [stE]
    simpa [stE] using h0
  | k + 1, j, out, h, ho, hR => by
    refine shifts_Test_l1_run fun K hK => ?_
    have h2 : j < L.length := by omega
    rw [List.drop_eq_getElem_cons h2, List.map_cons] at hR
    have hr := hLs _ (List.getElem_mem h2)
    have e := gE (f := tRow) [] h2
    have e' := gE' (f := tRow) [] h2
    rw [show L.getD j [] = L[j] by simp [List.getD_eq_getElem?_getD, h2]] at e e'
    generalize L[j] = r at *
    have ih := st_l1 chT p s i m hi L hL hLs R h0 k (j + 1) (out ++ [zerosL i ++ ([1] ++ r)]) (by omega) (by simp [ho]) (by rw [← hR]; simp)
    have e2 := cycle_spec (Γ := Γ) ⟨zerosL i, none, none⟩ ⟨r, none, none⟩ 1 (by simp [zerosL]; exact hi) hr
    have hs := enc1_snoc (f := tVs) (l := out) (x := zerosL i ++ ([1] ++ r))
    generalize zerosL i ++ ([1] ++ r) = row at *
    have htk : (enc1 tVs out).take j = enc1 tVs out := List.take_of_length_le (by rw [enc1_len]; omega)
    have w1 : IntKind.i64.wrap ((j : Int) + 1) = (j : Int) + 1 := by rw [wrap_i64] <;> omega
    simp [stE] at ih
    simp only [tRow] at e e'
    simp only [tV] at e2
    simp [stE, h2, enc1_len, enc1_wid, e, e', tRow]
    refine callK_pure e2 rfl ?_
    simp only [tVs] at hs
    simp [tVs, htk, hs, w1, ho, enc1_len]
    refine ⟨by omega, ?_⟩
    rw [hK]
    simpa [tRow, tVs] using ih
theorem st_l3 {Q : AX → St → Prop} (i m d : Nat) (hi : i ≤ 1000000) (hm : m ≤ 1000000) (hd : d ≤ 1000000) (n0 : Nat) (hn0 : n0 ≤ 1000001) (R : List (List Int)) (row : List Int) (hrow : row = zerosL i ++ ([1] ++ zerosL m))
    (h0 : Q (.exit 2) ⟨[(12, .t (tRow (zerosL i))), (13, .t (tRow (zerosL m))), (14, .t (.fn 103 [])), (15, .ls 76 0 (n0 + d) none), (87, .t (tI d)), (88, .t (tI d)), (89, .t (tB false))], [(76, .sl 37 1 (enc1 tVs R))]⟩) :
    ∀ (k j : Nat) (out : List (List Int)), k + j = d → out.length = n0 + j → out ++ List.replicate k row = R →
    run Tryz.prog Γ shifts_Test_l3 Q ⟨[(12, .t (tRow (zerosL i))), (13, .t (tRow (zerosL m))), (14, .t (.fn 103 [])), (15, .ls 76 0 (n0 + j) none), (87, .t (tI d)), (88, .t (tI j))], [(76, .sl 37 1 (enc1 tVs out))]⟩
  | 0, j, out, h, ho, hR => by
    refine shifts_Test_l3_run fun K hK => ?_
    have h2 : j = d := by omega
    subst h2
    simp only [List.replicate_zero, List.append_nil] at hR
    subst hR
    simp
    simpa using h0
  | k + 1, j, out, h, ho, hR => by
    refine shifts_Test_l3_run fun K hK => ?_
    have h2 : j < d := by omega
    have ih := st_l3 i m d hi hm hd n0 hn0 R row hrow h0 k (j + 1) (out ++ [row]) (by omega) (by simp [ho]; omega) (by rw [← hR, List.replicate_succ]; simp)
    have e2 := cycle_spec (Γ := Γ) ⟨zerosL i, none, none⟩ ⟨zerosL m, none, none⟩ 1 (by simp [zerosL]; exact hi) (by simp [zerosL]; exact hm)
    rw [show (⟨zerosL i, none, none⟩ : Sl Int).l ++ ([1] ++ (⟨zerosL m, none, none⟩ : Sl Int).l) = row from hrow.symm] at e2
    have hs := enc1_snoc (f := tVs) (l := out) (x := row)
    have htk : (enc1 tVs out).take (n0 + j) = enc1 tVs out := List.take_of_length_le (by rw [enc1_len]; omega)
    have w1 : IntKind.i64.wrap ((j : Int) + 1) = (j : Int) + 1 := by rw [wrap_i64] <;> omega
    simp only [tV] at e2
    rw [← Nat.add_assoc] at ih
    simp [h2, tRow]
    refine callK_pure e2 rfl ?_
    simp only [tVs] at hs
    simp [tVs, htk, hs, w1, ho, enc1_len]
    refine ⟨by omega, ?_⟩
    rw [hK]
    simpa [tRow, tVs] using ih
end Go.Lg
namespace Go.Lg
open Go Go.Proofs
variable {Γ : Tables}
def testErr (c : Cir) (p : Pat) : Int := if p.inn.l.length ≠ (inputs c).length ∨ p.st.l.length ≠ (states c).length then 8 else if p.inn.l.any aboveV = true ∨ p.st.l.any aboveV = true then 1 else 0
def testRes (c : Cir) (ch : List (Sl Int)) (p : Pat) (ce : Int) : T :=
  if ce ≠ 0 then .tup [.sl [] (some 0) (some true), tI ce] else if testErr c p ≠ 0 then .tup [.sl [] (some 0) (some true), tI (testErr c p)]
  else .tup [.sl (enc1 tVs (testL ch (states c) p.inn.l p.st.l)) (some (testL ch (states c) p.inn.l p.st.l).length) none, tI 0]
theorem loadsL_row {ch : List (Sl Int)} {st pst : List Int} : ∀ r ∈ loadsL ch st pst, r.length = ch.length := by
  intro r hr
  obtain ⟨t, _, rfl⟩ := List.mem_map.1 hr
  simp
theorem loadsL_len {ch : List (Sl Int)} {st pst : List Int} : (loadsL ch st pst).length = depL ch := by simp [loadsL]
set_option maxHeartbeats 1000000 in
theorem Test_spec {c : Cir} {chs : Sl (Sl Int)} {s : Nat → List (List T)} {k : Nat → Option Nat} {n : Nat → Option Bool} {en ce : Int} (h : InsH Γ c chs s k n en ce) (p : Pat) (hp : p.inn.l.length ≤ 1000000 ∧ p.st.l.length ≤ 1000000) :
    PureCalls Tryz.prog Γ 42 [.agg (tC c), tChs chs, .agg (tP p)] (testRes c chs.l p ce) := by
  refine run_pureQ shifts_Test_chk rfl ?_
  have e1 := h.call
  have e2 := inputs_spec (Γ := Γ) c h.ok
  have e3 := states_spec (Γ := Γ) c h.ok
  have e4 := values_spec (Γ := Γ) p.inn (by omega) p.inn.l.length
  have e5 := values_spec (Γ := Γ) p.st (by omega) p.st.l.length
  have e6 := fun hq => loads_spec (Γ := Γ) c h.ok h.st chs h.chl h.cs p.st hq
  have e7 := Depth_spec (Γ := Γ) chs h.chl h.cs
  have e8 := cycle_spec (Γ := Γ) p.inn ⟨zerosL chs.l.length, none, none⟩ 0 hp.1 (by simp [zerosL]; exact h.chl)
  have hdl : depL chs.l ≤ 1000000 := depL_le h.cs
  have hi := h.inp
  have hs := h.st
  have hc := h.chl
  have v4 : valsErr p.inn.l p.inn.l.length = if p.inn.l.any aboveV = true then 1 else 0 := by unfold valsErr; rw [if_neg (by simp)]
  have v5 : valsErr p.st.l p.st.l.length = if p.st.l.any aboveV = true then 1 else 0 := by unfold valsErr; rw [if_neg (by simp)]
  rw [v4] at e4
  rw [v5] at e5
  unfold testRes testErr testL
  generalize p.inn.l.any aboveV = A at *
  generalize p.st.l.any aboveV = B at *
  have hLs := loadsL_row (ch := chs.l) (st := states c) (pst := p.st.l)
  have hLl := loadsL_len (ch := chs.l) (st := states c) (pst := p.st.l)
  generalize loadsL chs.l (states c) p.st.l = L at *
  have g1 := fun Q h0 => st_l1 (Γ := Γ) (Q := Q) (.sl (enc1 tSl chs.l) chs.cap chs.nl) p.inn p.st p.inn.l.length chs.l.length hp.1 L (by omega) (fun r hr => by rw [hLs r hr]; exact hc) (L.map fun s => zerosL p.inn.l.length ++ ([1] ++ s)) h0 L.length 0 [] (by omega) rfl (by simp)
  have g3 := fun Q R h0 out ho hR => st_l3 (Γ := Γ) (Q := Q) p.inn.l.length chs.l.length (depL chs.l) hp.1 hc hdl (L.length + 1) (by omega) R _ rfl h0 (depL chs.l) 0 out (by omega) ho hR
  have hz1 : vals (zerosL p.inn.l.length) = List.replicate p.inn.l.length [tK 0] := by simp [zerosL, enc1]
  have hz2 : vals (zerosL chs.l.length) = List.replicate chs.l.length [tK 0] := by simp [zerosL, enc1]
  have hcyc : [p.inn.l ++ ([0] ++ zerosL chs.l.length)] = [p.inn.l ++ ([0] ++ (⟨zerosL chs.l.length, none, none⟩ : Sl Int).l)] := rfl
  rw [hcyc]
  have hsn := enc1_snoc (f := tVs) (l := L.map fun s => zerosL p.inn.l.length ++ ([1] ++ s)) (x := p.inn.l ++ ([0] ++ (⟨zerosL chs.l.length, none, none⟩ : Sl Int).l))
  have hml : (L.map fun s => zerosL p.inn.l.length ++ ([1] ++ s)).length = L.length := by simp
  generalize (p.inn.l ++ ([0] ++ (⟨zerosL chs.l.length, none, none⟩ : Sl Int).l)) = row at *
  generalize (L.map fun s => zerosL p.inn.l.length ++ ([1] ++ s)) = M at *
  have htk : (enc1 tVs M).take L.length = enc1 tVs M := List.take_of_length_le (by rw [enc1_len]; omega)
  have g3' := fun Q h0 => g3 Q (M ++ ([row] ++ List.replicate (depL chs.l) (zerosL p.inn.l.length ++ ([1] ++ zerosL chs.l.length)))) h0 (M ++ [row]) (by simp [hml]) (by simp)
  have hRl : (M ++ ([row] ++ List.replicate (depL chs.l) (zerosL p.inn.l.length ++ ([1] ++ zerosL chs.l.length)))).length = L.length + 1 + depL chs.l := by simp [hml]; omega
  generalize (M ++ ([row] ++ List.replicate (depL chs.l) (zerosL p.inn.l.length ++ ([1] ++ zerosL chs.l.length)))) = R at *
  have e9 := clip_vals (Γ := Γ) (enc1 tVs R) none none enc1_wid
  have htR : (enc1 tVs R).take (L.length + 1 + depL chs.l) = enc1 tVs R := List.take_of_length_le (by rw [enc1_len]; omega)
  simp [tC, tNodes, tNames, tMems, tSl, tChs, tV] at e1 e2 e3 e4 e5 e6 e7 e8
  simp [stE, tRow, hz1, hz2, tV, enc1_nil] at g1
  simp [tRow, hz1, hz2] at g3'
  simp [hz2] at e8
  simp only [tVs] at hsn
  simp [shifts_Test_ic, tC, tNodes, tNames, tMems, tSl, tChs, tP, tV]
  refine callK_pure e1 rfl ?_
  by_cases hce : ce = 0
  case neg => simp [hce, shifts_Test_rv]
  subst hce
  simp
  refine callK_pure e2 rfl ?_
  simp
  refine callK_pure e3 rfl ?_
  by_cases hl : p.inn.l.length = (inputs c).length
  case neg =>
    have hl' : ¬ (p.inn.l.length : Int) = (inputs c).length := by omega
    simp [enc1_len, hl, hl', shifts_Test_rv]
  by_cases hm : p.st.l.length = (states c).length
  case neg =>
    have hm' : ¬ (p.st.l.length : Int) = (states c).length := by omega
    simp [enc1_len, hl, hm, hm', shifts_Test_rv]
  simp [enc1_len, ← hl, ← hm]
  refine callK_fresh e4 rfl ?_
  simp
  refine callK_fresh e5 rfl ?_
  cases A
  case true => cases B <;> simp [shifts_Test_rv, hl, hm]
  cases B
  case true => simp [shifts_Test_rv, hl, hm]
  simp [St.freeze, Reg.closed, frzRef, frz1, frz0, frzReg, del, reify, enc1_len]
  refine ⟨by omega, by omega, ?_⟩
  refine callK_pure (e6 hm) rfl ?_
  simp [enc1_len]
  refine g1 _ ?_
  simp
  refine callK_pure e8 rfl ?_
  simp [tVs, htk, hsn, enc1_len, hml]
  refine ⟨by omega, ?_⟩
  refine callK_fresh e7 rfl ?_
  simp
  refine g3' _ ?_
  simp [St.freeze, Reg.closed, frzRef, frz1, frz0, frzReg, del, reify, htR]
  refine callK_pure e9 rfl ?_
  simp [shifts_Test_rv, enc1_len, hl, hm]
end Go.Lg
namespace Go.Lg
open Go Go.Proofs
variable {Γ : Tables}
theorem insH_ok (hΓ : GOk Γ) {c : Cir} {chs : Sl (Sl Int)} (h : InsOk c chs) (hi : (inputs c).length ≤ 1000000) (hs : ∀ s ∈ chs.l, s.l.length ≤ 1000000) : ∃ s k n en, InsH Γ c chs s k n en 0 ∧ (s 3).length = (scC c chs.l).outs.l.length := by
  have e := Insert_spec (Γ := Γ) hΓ c chs h
  simp only [tScan] at e
  generalize hD : scC c chs.l = D at e
  refine ⟨fun j => match j with | 0 => encN tNd D.nodes.l | 1 => enc1 tS D.names.l | 2 => encN tMm D.mems.l | 3 => ints D.outs.l | 4 => enc1 tSl (scS c chs.l).cl | 6 => ints (scS c chs.l).ins | _ => ints (scJ c chs.l).muxes,
    fun j => match j with | 0 => D.nodes.cap | 1 => D.names.cap | 2 => D.mems.cap | 3 => D.outs.cap | 4 => some (scS c chs.l).cl.length | 6 => some (scS c chs.l).ins.length | _ => some (scJ c chs.l).muxes.length,
    fun j => match j with | 0 => D.nodes.nl | 1 => D.names.nl | 2 => D.mems.nl | 3 => D.outs.nl | _ => none, c.nodes.l.length, ⟨h.ok, by have := h.s100; omega, hi, by have := h.len; omega, hs, ?_⟩, enc1_len⟩
  have e2 := e
  simp only [tC, tNodes, tNames, tMems, tSl, List.cons_append, List.nil_append] at e2
  simpa only [tC, tNodes, tNames, tMems, tSl] using e2
def rw35N (i : Nat) : Nd := if i = 0 then ⟨0, ⟨[], some 0, some true⟩, 0, 0⟩ else ⟨14, ⟨[0], some 1, some false⟩, 0, 0⟩
def rw35 : Cir := ⟨⟨[rw35N 0, rw35N 1, rw35N 2, rw35N 3], some 4, some false⟩, ⟨[[97], [102], [103], [104]], some 4, some false⟩, ⟨[], some 0, some true⟩, ⟨[0], some 1, some false⟩⟩
def rw35C : Sl (Sl Int) := ⟨[⟨[1, 2], some 2, some false⟩, ⟨[3], some 1, some false⟩], some 2, some false⟩
theorem row35_spec : PureCalls Tryz.prog Γ 98 [] (.agg (tC rw35)) := by
  refine run_pureQ law35_row_chk rfl ?_
  simp [law35_row_ic, law35_row_rv, tC, tNodes, tNames, tMems, tSl, rw35, rw35N, encN, enc1, tNd, sV, tS]
theorem rw35_ok : COk rw35 := ⟨⟨by decide, by decide, by decide, by decide, by decide, by decide, by decide⟩, by decide⟩
theorem rw35_ins : InsOk rw35 rw35C := by
  refine ⟨rw35_ok, ⟨by decide, by decide, by decide, by decide, by decide, by decide, rfl, ?_, ?_⟩, by decide, by decide, by decide, by decide, by decide, by decide, by decide, ?_, ?_, by decide, by decide +kernel⟩
  · intro x hx
    simp [rw35] at hx
    rcases hx with rfl | rfl | rfl | rfl <;> exact ⟨by decide, by decide, by decide⟩
  · exact ⟨by decide, by decide, by decide⟩
  · refine ⟨⟨⟨by decide, by decide, by decide, by decide, by decide⟩, by decide, by decide, by decide, by decide, by decide, by decide, by decide⟩, ⟨⟨by decide, by decide, by decide, by decide, by decide⟩, by decide, by decide, by decide, by decide, by decide, by decide, by decide⟩, trivial⟩
  · refine ⟨⟨by decide, by decide, by decide, by decide, by decide, by decide, by decide, by decide, by decide⟩, ⟨by decide, by decide, by decide, by decide, by decide, by decide, by decide, by decide, by decide⟩, ⟨by decide, by decide, by decide, by decide, by decide, by decide, by decide, by decide, by decide⟩, trivial⟩
theorem lives35_spec (hΓ : GOk Γ) : PureCalls Tryz.prog Γ 34 [] (tB true) := by
  refine run_pureQ law35_lives_chk rfl ?_
  obtain ⟨s, k, n, en, hI, _⟩ := insH_ok (Γ := Γ) hΓ rw35_ins (by decide) (by decide)
  have e1 := Loads_spec hI ⟨[0, 1, 1], some 3, some false⟩ (by decide)
  have e2 := Test_spec hI ⟨⟨[1], some 1, some false⟩, ⟨[0, 1, 1], some 3, some false⟩⟩ (by decide)
  have q1 : valsErr [0, 1, 1] (states rw35).length = 0 := by decide
  have q2 : loadsL rw35C.l (states rw35) [0, 1, 1] = [[1, 0], [0, 1]] := by decide
  have q3 : testErr rw35 ⟨⟨[1], some 1, some false⟩, ⟨[0, 1, 1], some 3, some false⟩⟩ = 0 := by decide
  have q4 : (testL rw35C.l (states rw35) [1] [0, 1, 1]).length = 5 := by decide
  unfold testRes at e2
  simp only [q1, q2, q3] at e1 e2
  generalize testL rw35C.l (states rw35) [1] [0, 1, 1] = L at *
  have r := row35_spec (Γ := Γ)
  generalize tC rw35 = R at *
  simp [tChs, rw35C, enc1, tSl, tV, tP, tRow, q4] at e1 e2
  simp [law35_lives_ic]
  refine callK_pure r rfl ?_
  simp
  refine callK_pure e1 rfl ?_
  simp
  refine callK_pure r rfl ?_
  simp
  refine callK_pure e2 rfl ?_
  simp [wid, q4]
  simp [law35_lives_rv, wid]
end Go.Lg
namespace Go.Lg
open Go Go.Proofs
variable {Γ : Tables}
structure Rsp where
  out : Sl Int
  next : Sl Int
def tRsp (r : Rsp) : List T := [tV r.out, tV r.next]
def rspD : Rsp := ⟨⟨[], none, none⟩, ⟨[], none, none⟩⟩
theorem tRsp_wid {l : List Rsp} : wid 2 (encN tRsp l) := encN_wid fun _ => rfl
theorem gR {l : List Rsp} {i : Nat} (h : i < l.length) : (encN tRsp l)[i]?.getD [] = tRsp (l.getD i rspD) := by
  rw [encN_get rspD h]; rfl
theorem gR' {l : List Rsp} {i : Nat} (h0 : i < l.length) : ∀ h : i < (encN tRsp l).length, (encN tRsp l)[i] = tRsp (l.getD i rspD) := fun h => by rw [← gR h0]; simp [h]
end Go.Lg
namespace Go.Lg
open Go Go.Proofs
variable {Γ : Tables}
structure RunH (Γ : Tables) (c : Cir) : Prop where
  st : (states c).length ≤ 1000000
  run : ∀ p : Pat, POk c p → PureCalls Tryz.prog Γ 15 [.agg (tC c), .agg (tP p)] (.tup [.agg [tVs (outL c (netsL c p.inn.l p.st.l)), tVs (nextsL c (netsL c p.inn.l p.st.l))], .sl (vals (netsL c p.inn.l p.st.l)) (some c.nodes.l.length) none, tI 0])
theorem next_4 {c : Cir} {N : List Int} {n : Int} (h : ∀ v ∈ N, 0 ≤ v) : V4 (nextL c N n) := by
  unfold nextL
  split
  · have hv : 0 ≤ valueL N ((innAt c n.toNat).getD 0 0) := by
      unfold valueL
      split
      · decide
      · rename_i hh
        unfold cleanV
        split
        · decide
        · have : ((innAt c n.toNat).getD 0 0).toNat < N.length := by omega
          rw [getD_eq this]
          exact h _ (List.getElem_mem _)
    unfold readV V4
    split <;> omega
  · simp [V4]
theorem nexts_4 {c : Cir} {N : List Int} (h : ∀ v ∈ N, 0 ≤ v) : ∀ v ∈ nextsL c N, V4 v := by
  intro v hv
  obtain ⟨n, _, rfl⟩ := List.mem_map.1 hv
  exact next_4 h
theorem nexts_len {c : Cir} {N : List Int} : (nextsL c N).length = (states c).length := by simp [nextsL]
def rspOf (c : Cir) (i st : List Int) : Rsp := ⟨⟨outL c (netsL c i st), some (outL c (netsL c i st)).length, none⟩, ⟨nextsL c (netsL c i st), some (nextsL c (netsL c i st)).length, none⟩⟩
def playR (c : Cir) : List Int → List (List Int) → List Rsp
  | _, [] => []
  | st, i :: l => rspOf c i st :: playR c (nextsL c (netsL c i st)) l
def playE (c : Cir) : List Int → List (List Int) → List Int
  | st, [] => st
  | st, i :: l => playE c (nextsL c (netsL c i st)) l
theorem playR_len {c : Cir} : ∀ {l : List (List Int)} {st : List Int}, (playR c st l).length = l.length
  | [], _ => rfl
  | i :: l, st => by simp [playR, playR_len]
theorem nets_4' {c : Cir} (h : levErr c = 0) {p : Pat} (hp : POk c p) : ∀ v ∈ netsL c p.inn.l p.st.l, V4 v := by
  have hf := nets_fix h p.inn.l p.st.l
  have key := lev_ind h (Q := fun i => V4 ((netsL c p.inn.l p.st.l).getD i 0)) fun i hi hcb => by
    rw [hf.2 i hi]
    split
    · rename_i h
      refine evalL_4 fun v hv => ?_
      obtain ⟨q, hq, rfl⟩ := List.mem_map.1 hv
      exact (hcb h q hq).2
    · rw [load_at hp.i hp.s hi]
      split
      · exact getD_4 hp.vi _
      split
      · exact getD_4 hp.vs _
      · simp [V4]
  intro v hv
  obtain ⟨i, hi, rfl⟩ := List.getElem_of_mem hv
  have := key i (by rw [nets_len] at hi; exact hi)
  rwa [getD_eq hi] at this
def playS (c : Cir) : Sl Int → List (List Int) → Sl Int
  | st, [] => st
  | st, i :: l => playS c ⟨nextsL c (netsL c i st.l), none, none⟩ l
def plE (c : Cir) (st : Sl Int) (ins : List (Sl Int)) (ic : Option Nat) (nn : Option Bool) (i : Nat) : List (Nat × AV) :=
  [(1, .t (tV st)), (3, .t (.ip (tC c) 0)), (13, .ls 59 0 i none), (38, .t (.sl (enc1 tV ins) ic nn)), (39, .t (tI ins.length)), (40, .t (tI i))]
theorem play_l1 {Q : AX → St → Prop} (c : Cir) (H : RunH Γ c) (hl : levErr c = 0) (ins : List (Sl Int)) (ic : Option Nat) (nn : Option Bool) (hn : ins.length ≤ 1000000) (hin : ∀ x ∈ ins, x.l.length = (inputs c).length ∧ ∀ v ∈ x.l, V4 v) (E : Sl Int) (R : List Rsp)
    (h0 : Q (.exit 0) ⟨plE c E ins ic nn ins.length ++ [(41, .t (tB false))], [(59, .sl 42 2 (encN tRsp R))]⟩) :
    ∀ (rest : List (Sl Int)) (i : Nat) (st : Sl Int) (out : List Rsp), i + rest.length = ins.length → ins.drop i = rest → out.length = i → st.l.length = (states c).length → (∀ v ∈ st.l, V4 v) →
    playS c st (rest.map (·.l)) = E → out ++ playR c st.l (rest.map (·.l)) = R →
    run Tryz.prog Γ shifts_Play_l1 Q ⟨plE c st ins ic nn i, [(59, .sl 42 2 (encN tRsp out))]⟩
  | [], i, st, out, h, hdr, ho, hs, hv, hE, hR => by
    refine shifts_Play_l1_run fun K hK => ?_
    have h2 : i = ins.length := by simpa using h
    subst h2
    have hE : st = E := hE
    have hR : out = R := by simpa [playR] using hR
    subst hE
    subst hR
    simp [plE]
    simpa [plE] using h0
  | x :: rest, i, st, out, h, hdr, ho, hs, hv, hE, hR => by
    refine shifts_Play_l1_run fun K hK => ?_
    simp only [List.length_cons] at h
    have h2 : i < ins.length := by omega
    rw [List.drop_eq_getElem_cons h2, List.cons.injEq] at hdr
    have hx := hin x (by rw [← hdr.1]; exact List.getElem_mem _)
    have hP : POk c ⟨x, st⟩ := ⟨hx.1, hs, hx.2, hv⟩
    have hrun := H.run _ hP
    have hnp := nets_4' hl hP
    have hst := H.st
    have e1 := gE (f := tV) ⟨[], none, none⟩ h2
    have e1' := gE' (f := tV) ⟨[], none, none⟩ h2
    rw [show ins.getD i ⟨[], none, none⟩ = x by rw [← hdr.1]; simp [List.getD_eq_getElem?_getD, h2]] at e1 e1'
    simp only [List.map_cons, playS, playR] at hE hR
    have hrl : (rspOf c x.l st.l).out.l = outL c (netsL c x.l st.l) := rfl
    have ih := play_l1 c H hl ins ic nn hn hin E R h0 rest (i + 1) ⟨nextsL c (netsL c x.l st.l), none, none⟩ (out ++ [rspOf c x.l st.l]) (by omega) hdr.2 (by simp [ho]) nexts_len (nexts_4 fun v hv => (hnp v hv).1) hE (by rw [← hR]; simp)
    have hcl := clone_any (Γ := Γ) ⟨nextsL c (netsL c x.l st.l), some (nextsL c (netsL c x.l st.l)).length, none⟩ (fun h => nomatch h) (by show (nextsL c _).length ≤ _; rw [nexts_len]; omega)
    have hsn := encN_snoc (f := tRsp) (l := out) (x := rspOf c x.l st.l)
    simp only [rspOf, tRsp, tV] at hsn ih
    simp only [cloneS, tV] at hcl
    simp only at hrun
    generalize outL c (netsL c x.l st.l) = O at *
    generalize nextsL c (netsL c x.l st.l) = N at *
    generalize netsL c x.l st.l = M at *
    have htk : (encN tRsp out).take i = encN tRsp out := List.take_of_length_le (by rw [encN_len]; omega)
    have w1 : IntKind.i64.wrap ((i : Int) + 1) = (i : Int) + 1 := by rw [wrap_i64] <;> omega
    simp only [tV] at e1 e1'
    simp [tC, tNodes, tNames, tMems, tSl, tP, tV, tVs] at hrun
    simp [plE, tC, tNodes, tNames, tMems, tSl, tV] at ih
    simp [plE, tC, tNodes, tNames, tMems, tSl, tV, h2, enc1_len, enc1_wid, e1, e1']
    refine callK_pure hrun rfl ?_
    simp [htk, hsn, ho, encN_len]
    refine ⟨by omega, ?_⟩
    refine callK_pure hcl rfl ?_
    simp [w1]
    rw [hK]
    simpa using ih
theorem clip_rsp (es : List (List T)) (cap : Option Nat) (nl : Option Bool) (hw : wid 2 es) : PureCalls Tryz.prog Γ 100 [.sl es cap nl] (.sl es (some es.length) nl) := by
  refine run_pureQ slices_Clip_api_Response_chk rfl ?_
  simp [slices_Clip_api_Response_ic, slices_Clip_api_Response_rv, hw]
theorem Play_spec (c : Cir) (H : RunH Γ c) (hl : levErr c = 0) (st : Sl Int) (hs : st.l.length = (states c).length) (hv : ∀ v ∈ st.l, V4 v) (hnl : st.nl = some true → st.l = []) (ins : List (Sl Int)) (ic : Option Nat) (nn : Option Bool) (hne : ins ≠ []) (hn : ins.length ≤ 1000000) (hin : ∀ x ∈ ins, x.l.length = (inputs c).length ∧ ∀ v ∈ x.l, V4 v) :
    PureCalls Tryz.prog Γ 36 [.agg (tC c), tV st, .sl (enc1 tV ins) ic nn] (.tup [.sl (encN tRsp (playR c st.l (ins.map (·.l)))) (some ins.length) none, tVs (playE c st.l (ins.map (·.l))), tI 0]) := by
  refine run_pureQ shifts_Play_chk rfl ?_
  have hst := H.st
  have hcl := clone_any (Γ := Γ) st hnl (by omega)
  have hcn := cloneS_l st hnl
  have hne' : 0 < ins.length := List.length_pos_iff.2 hne
  have hE : playS c (cloneS st) (ins.map (·.l)) = ⟨playE c st.l (ins.map (·.l)), none, none⟩ := by
    cases ins with
    | nil => exact absurd rfl hne
    | cons x l =>
      simp only [List.map_cons, playS, playE]
      rw [hcn]
      have key : ∀ (l : List (List Int)) (s : List Int), playS c ⟨s, none, none⟩ l = ⟨playE c s l, none, none⟩ := by
        intro l
        induction l with
        | nil => intro s; rfl
        | cons i l ih => intro s; simp only [playS, playE]; exact ih _
      exact key _ _
  have g1 := fun Q h0 => play_l1 (Γ := Γ) (Q := Q) c H hl ins ic nn hn hin _ _ h0 ins 0 (cloneS st) [] (by omega) (List.drop_zero) rfl (by rw [hcn]; exact hs) (by rw [hcn]; exact hv) hE (by rw [List.nil_append, hcn])
  generalize hRR : playR c st.l (ins.map (·.l)) = R at *
  have hRl : R.length = ins.length := by rw [← hRR, playR_len]; simp
  generalize playE c st.l (ins.map (·.l)) = E at *
  have e1 := clip_rsp (Γ := Γ) (encN tRsp R) none none tRsp_wid
  have e2 := clip_val (Γ := Γ) (vals E) none none enc1_wid
  have htk : (encN tRsp R).take ins.length = encN tRsp R := List.take_of_length_le (by rw [encN_len]; omega)
  generalize cloneS st = s0 at *
  have hni : ¬ ins.length = 0 := by omega
  have hni' : ¬ (ins.length : Int) = 0 := by omega
  simp [plE, tC, tNodes, tNames, tMems, tSl, tV, show encN tRsp [] = [] from rfl] at g1
  simp only [tV] at hcl
  simp [shifts_Play_ic, tC, tNodes, tNames, tMems, tSl, tV]
  refine callK_pure hcl rfl ?_
  simp [enc1_len, hni, hni', hne]
  refine g1 _ ?_
  simp [St.freeze, Reg.closed, frzRef, frz1, frz0, frzReg, del, reify, htk]
  refine callK_pure e1 rfl ?_
  simp
  refine callK_pure e2 rfl ?_
  simp [shifts_Play_rv, encN_len, hRl, tVs, enc1_len]
end Go.Lg
namespace Go.Lg
open Go Go.Proofs
variable {Γ : Tables}
theorem wrap_u64 {n : Int} (h1 : 0 ≤ n) (h2 : n < 18446744073709551616) : IntKind.u64.wrap n = n := by
  simp [IntKind.wrap, IntKind.signed, IntKind.bits]
  omega
theorem and32 {n : Nat} (h : n < 4294967296) : IntKind.u64.wrap ((BitVec.ofInt 64 (n : Int) &&& BitVec.ofInt 64 4294967295).toNat : Int) = n := by
  have e : (BitVec.ofInt 64 (n : Int) &&& BitVec.ofInt 64 4294967295).toNat = n := by
    rw [BitVec.toNat_and]
    have h1 : (BitVec.ofInt 64 (n : Int)).toNat = n := by
      simp [BitVec.toNat_ofInt]; omega
    have h2 : (BitVec.ofInt 64 4294967295).toNat = 2 ^ 32 - 1 := by decide
    rw [h1, h2, Nat.and_two_pow_sub_one_eq_mod]
    omega
  rw [e, wrap_u64] <;> omega
theorem and32' {n : Nat} (h : n < 4294967296) : IntKind.u64.wrap ((BitVec.ofNat 64 n &&& 4294967295#64).toNat : Int) = n := by
  have := and32 h
  rwa [show BitVec.ofInt 64 (n : Int) = BitVec.ofNat 64 n from by simp, show BitVec.ofInt 64 4294967295 = 4294967295#64 from rfl] at this
abbrev tU (n : Int) : T := .v (.int .u64 n)
theorem fdiv32 {n : Nat} (h : n < 4294967296) : (n : Int).fdiv 4294967296 = 0 := by
  rw [Int.fdiv_eq_ediv_of_nonneg _ (by omega)]; omega
theorem Mul64_spec (a b : Nat) (ha : a < 65536) (hb : b < 65536) : FreshCalls Tryz.prog Γ 188 [tU a, tU b] (.tup [tU 0, tU (a * b : Nat)]) := by
  refine run_freshQ bits_Mul64_chk rfl ?_
  have hab : a * b ≤ 65535 * 65535 := Nat.mul_le_mul (by omega) (by omega)
  have a1 := and32' (n := a) (by omega)
  have b1 := and32' (n := b) (by omega)
  have z1 := and32' (n := 0) (by omega)
  have a2 := fdiv32 (n := a) (by omega)
  have b2 := fdiv32 (n := b) (by omega)
  have c2 := fdiv32 (n := a * b) (by omega)
  have m32 : min (32 : Int).toNat 64 = 32 := by decide
  have c1 : IntKind.u64.wrap ((a : Int) * b) = ((a * b : Nat) : Int) := by rw [← Int.natCast_mul, wrap_u64] <;> omega
  have z2 : IntKind.u64.wrap 0 = 0 := by decide
  simp [bits_Mul64_ic, bits_Mul64_rv, IntKind.bits, a1, b1, a2, b2, c1, c2, z1, z2, m32, -Int.natCast_mul]
  erw [a1, b1, c1, c2, z2]
theorem Mul_spec (a b : Nat) (ha : a < 65536) (hb : b < 65536) : FreshCalls Tryz.prog Γ 169 [tU a, tU b] (.tup [tU 0, tU (a * b : Nat)]) := by
  refine run_freshQ bits_Mul_chk rfl ?_
  simp [bits_Mul_ic]
  refine callK_fresh (Mul64_spec a b ha hb) rfl ?_
  simp [bits_Mul_rv]
theorem rep_set1 {j n : Nat} (h1 : 0 < j) (h2 : j < n) : (List.replicate j [tK 2] ++ List.replicate (n - j) [tK 0]).take j ++ ((List.replicate j [tK 2] ++ List.replicate (n - j) [tK 0]).take j).take (min (n - j) j) ++ (List.replicate j [tK 2] ++ List.replicate (n - j) [tK 0]).drop (j + min (n - j) j) = List.replicate (j + min (n - j) j) [tK 2] ++ List.replicate (n - (j + min (n - j) j)) [tK 0] := by
  have e1 : (List.replicate j [tK 2] ++ List.replicate (n - j) [tK 0]).take j = List.replicate j [tK 2] := by
    rw [List.take_append_of_le_length (by simp), List.take_of_length_le (by simp)]
  have e2 : (List.replicate j [tK 2]).take (min (n - j) j) = List.replicate (min (n - j) j) [tK 2] := by
    rw [List.take_replicate, Nat.min_eq_left (Nat.min_le_right _ _)]
  rw [e1, e2, ← List.replicate_append_replicate (n := j), List.drop_append, List.drop_of_length_le (by simp), List.nil_append, List.drop_replicate]
  congr 2
  simp; omega
theorem rep_loop {Q : AX → St → Prop} (n : Nat) (hn : n ≤ 1000000)
    (h0 : Q (.exit 0) ⟨[(7, .ls 30 0 n none), (8, .t (tI n)), (37, .t (tB false))], [(30, .sl 68 1 (List.replicate n [tK 2]))]⟩) :
    ∀ (f j : Nat), n - j ≤ f → 0 < j → j ≤ n →
    run Tryz.prog Γ slices_Repeat_api_Value_l1 Q ⟨[(7, .ls 30 0 n none), (8, .t (tI j))], [(30, .sl 68 1 (List.replicate j [tK 2] ++ List.replicate (n - j) [tK 0]))]⟩
  | 0, j, hf, h1, h2 => by
    refine slices_Repeat_api_Value_l1_run fun K hK => ?_
    have h3 : j = n := by omega
    subst h3
    simp
    simpa using h0
  | f + 1, j, hf, h1, h2 => by
    refine slices_Repeat_api_Value_l1_run fun K hK => ?_
    by_cases h3 : j = n
    · subst h3
      simp
      simpa using h0
    · have h4 : j < n := by omega
      have ih := rep_loop n hn h0 f (j + min (n - j) j) (by omega) (by omega) (by omega)
      rw [← rep_set1 h1 h4] at ih
      have hw : wid 1 (List.replicate j [tK 2] ++ List.replicate (n - j) [tK 0]) := by
        intro e he
        rcases List.mem_append.1 he with he | he <;> rw [List.eq_of_mem_replicate he] <;> rfl
      have hl : (List.replicate j [tK 2] ++ List.replicate (n - j) [tK 0]).length = n := by simp; omega
      generalize List.replicate j [tK 2] ++ List.replicate (n - j) [tK 0] = es at *
      have hwt : wid 1 (es.take j) := fun e he => hw e (List.mem_of_mem_take he)
      have hjn : min j n = j := by omega
      have w1 : IntKind.i64.wrap ((j : Int) + ((min (n - j) j : Nat) : Int)) = ((j + min (n - j) j : Nat) : Int) := by rw [wrap_i64] <;> omega
      simp [h4, h2, hl, hwt, hjn, w1, -Int.natCast_add]
      rw [hK]
      simpa using ih
theorem Repeat_spec (n : Nat) (hn : n ≤ 60000) : PureCalls Tryz.prog Γ 143 [.sl [[tK 2]] (some 1) (some false), tI n] (.sl (List.replicate n [tK 2]) none none) := by
  refine run_pureQ slices_Repeat_api_Value_chk rfl ?_
  have em : FreshCalls Tryz.prog Γ 169 [tU 1, tU n] (.tup [tU 0, tU n]) := by
    have := Mul_spec (Γ := Γ) 1 n (by omega) (by omega)
    rwa [Nat.one_mul] at this
  have u1 : IntKind.u64.wrap (n : Int) = n := by rw [wrap_u64] <;> omega
  have u2 : IntKind.u64.wrap 1 = 1 := by decide
  have u3 : IntKind.i64.wrap (n : Int) = n := by rw [wrap_i64] <;> omega
  have u4 : ¬ (9223372036854775807 : Int) < n := by omega
  have u5 : ¬ (n : Int) < 0 := by omega
  have hw2 : wid 1 [[tK 2]] := by intro e he; simp at he; subst he; rfl
  simp [slices_Repeat_api_Value_ic, u1, u2, u5]
  refine callK_fresh em rfl ?_
  simp [u3, u4]
  refine ⟨by omega, ?_⟩
  by_cases h0 : n = 0
  · subst h0
    simp
    refine slices_Repeat_api_Value_l1_run fun K hK => ?_
    simp [slices_Repeat_api_Value_rv, reify]
  · have hm1 : min n 1 = 1 := by omega
    have hdr : (List.replicate n [tK 0]).drop 1 = List.replicate (n - 1) [tK 0] := by rw [List.drop_replicate]
    have g := fun Q h0 => rep_loop (Γ := Γ) (Q := Q) n (by omega) h0 n 1 (by omega) (by omega) (by omega)
    simp at g
    simp [hm1]
    refine g _ ?_
    simp [slices_Repeat_api_Value_rv, reify]
theorem Blank1_spec (n : Nat) (hn : n ≤ 60000) : PureCalls Tryz.prog Γ 142 [tI n] (.sl (List.replicate n [tK 2]) none none) := by
  refine run_pureQ sims_Blank_1_chk rfl ?_
  simp [sims_Blank_1_ic]
  refine callK_pure (Repeat_spec n hn) rfl ?_
  simp [sims_Blank_1_rv]
theorem Blank_spec (c : Cir) (hc : COk c) (hi : (inputs c).length ≤ 60000) (hs : (states c).length ≤ 60000) : PureCalls Tryz.prog Γ 99 [.agg (tC c)] (.agg [.sl (vals (List.replicate (inputs c).length 2)) none none, .sl (vals (List.replicate (states c).length 2)) none none]) := by
  refine run_pureQ sims_Blank_chk rfl ?_
  have e1 := inputs_spec (Γ := Γ) c hc
  have e2 := states_spec (Γ := Γ) c hc
  have b1 := Blank1_spec (Γ := Γ) (inputs c).length hi
  have b2 := Blank1_spec (Γ := Γ) (states c).length hs
  have v1 : ∀ n, vals (List.replicate n 2) = List.replicate n [tK 2] := fun n => by simp [enc1]
  simp [tC, tNodes, tNames, tMems, tSl] at e1 e2
  simp [sims_Blank_ic, tC, tNodes, tNames, tMems, tSl]
  refine callK_pure e1 rfl ?_
  simp [enc1_len]
  refine callK_pure b1 rfl ?_
  simp
  refine callK_pure e2 rfl ?_
  simp [enc1_len]
  refine callK_pure b2 rfl ?_
  simp [sims_Blank_rv, v1]
theorem Play_spec0 (c : Cir) (H : RunH Γ c) (hc : COk c) (hi : (inputs c).length ≤ 60000) (st : Sl Int) (hs : st.l.length = (states c).length) (hv : ∀ v ∈ st.l, V4 v) (hnl : st.nl = some true → st.l = []) (hs2 : (states c).length ≤ 60000) (ic : Option Nat) (nn : Option Bool) :
    PureCalls Tryz.prog Γ 36 [.agg (tC c), tV st, .sl [] ic nn] (.tup [.sl [] (some 0) none, .sl (vals st.l) (some st.l.length) (cloneS st).nl, tI 0]) := by
  refine run_pureQ shifts_Play_chk rfl ?_
  have hcl := clone_any (Γ := Γ) st hnl (by omega)
  have hcn := cloneS_l st hnl
  have eb := Blank_spec (Γ := Γ) c hc hi hs2
  have er := H.run ⟨⟨List.replicate (inputs c).length 2, none, none⟩, cloneS st⟩ ⟨by simp, by show (cloneS st).l.length = _; rw [hcn]; exact hs, fun v hv => by rw [List.eq_of_mem_replicate hv]; simp [V4], fun v h => hv v (by rw [← hcn]; exact h)⟩
  have e1 := clip_rsp (Γ := Γ) [] none none (fun e he => by cases he)
  have e2 := clip_val (Γ := Γ) (vals (cloneS st).l) (cloneS st).cap (cloneS st).nl enc1_wid
  rw [hcn] at e2 er
  simp only at er
  generalize outL c (netsL c (List.replicate (inputs c).length 2) st.l) = O at *
  generalize nextsL c (netsL c (List.replicate (inputs c).length 2) st.l) = N at *
  generalize netsL c (List.replicate (inputs c).length 2) st.l = M at *
  simp only [tV, tVs, tP] at hcl er
  rw [hcn] at hcl er
  generalize (cloneS st).cap = kc at *
  generalize (cloneS st).nl = kn at *
  simp [tC, tNodes, tNames, tMems, tSl] at eb er
  simp [shifts_Play_ic, tC, tNodes, tNames, tMems, tSl, tV]
  refine callK_pure hcl rfl ?_
  simp
  refine callK_pure eb rfl ?_
  simp
  refine callK_pure er rfl ?_
  simp
  refine shifts_Play_l1_run fun K hK => ?_
  simp [St.freeze, Reg.closed, frzRef, frz1, frz0, frzReg, del, reify]
  refine callK_pure e1 rfl ?_
  simp
  refine callK_pure e2 rfl ?_
  simp [shifts_Play_rv, enc1_len]
end Go.Lg
namespace Go.Lg
open Go
section
variable {P : Program} {Γ : Tables} {Q : AX → St → Prop} {s : St}
/- probecard/probecardlaw35.ShiftsLoads (function 7) -/
abbrev law35_ShiftsPlay_g0 : IC := .gh (.seq (.seq (.reg [om 36 10, om 37 1, od 38 (le 0 37), od 39 (.bin .lss (tm 36) (tm 38))] [kp [1, 5, 7, 8, 9, 10, 39] [7, 51]]) (.cond (tm 39) .skip (.exit 0))) (.seq (.block 1 (.reg [om 42 9, om 43 1, om 44 10, od 45 (ia 2 43
 44), od 46 (lG 2 45), od 47 (lG 4 7), od 48 (.call 14 [(tm 46), (tm 47)]), od 49 (.fld 0 1 false (tm 48)), od 50 (.bsl true 37 1 [(tm 49)]), od 51 (.app false 37 1 (tm 42) (tm 50)), om 9 51] [kp [1, 5, 7, 8, 9, 10] [7, 51]])) (.reg
 [om 40 10, od 41 (.bin .add (tm 40) (ki 1)), om 10 41] [kp [1, 5, 7, 8, 9, 10] [7, 51]]))) [kp [1, 5, 7, 8, 9, 10] [7, 51]]
def law35_ShiftsPlay_l1 : IC := .loop law35_ShiftsPlay_g0
abbrev law35_ShiftsPlay_g2 : IC := .gh (.seq (.seq (.reg [om 69 14, om 70 9, od 71 (le 0 70), od 72 (.bin .lss (tm 69) (tm 71))] [kp [5, 7, 8, 9, 11, 12, 14, 72] [7, 51]]) (.cond (tm 72) .skip (.exit 2))) (.seq (.block 3 (.seq (.reg [od 76 (.ldR 7 4 true (tm 7)), om
 77 9, om 78 14, od 79 (ia 1 77 78), od 80 (.ldT 1 false (tm 79)), om 81 8, od 82 (.build [(1, (tm 80)), (1, (tm 81))]), od 83 (.call 15 [(tm 76), (tm 82)]), om 75 83, od 84 (ex 75 0), od 85 (ex 75 1), od 86 (ex 75 2), od 15 (.alloc
 false [(.slice none 0 0), (.slice none 0 0)]), on (.stR 15 2 (tm 15) (tm 84)), om 16 85, om 17 86] [kp [5, 7, 9, 11, 12, 14, 15, 17] [7, 15, 51]]) (.seq (.seq (.reg [om 87 17, od 88 (.bin .neq (tm 87) (ki 0)), om 89 88, oF 90 (fa 0
 15) 89, oF 91 (ld 1 90) 89, oF 92 (.mv (tm 11)) 89, oF 93 (.mv (tm 14)) 89, oF 94 (ia 2 92 93) 89, oF 95 (fa 0 94) 89, oF 96 (ld 1 95) 89, oF 97 (.call 37 [(tm 91), (tm 96)]) 89, oF 98 (.un .not (tm 97)) 89, od 99 (.pick (tm 89) kT
 (tm 98)), om 100 99, oF 101 (fa 1 15) 100, oF 102 (ld 1 101) 100, oF 103 (.mv (tm 11)) 100, oF 104 (.mv (tm 14)) 100, oF 105 (ia 2 103 104) 100, oF 106 (fa 1 105) 100, oF 107 (ld 1 106) 100, oF 108 (.call 37 [(tm 102), (tm 107)])
 100, oF 109 (.un .not (tm 108)) 100, od 110 (.pick (tm 100) kT (tm 109))] [kp [5, 7, 9, 11, 12, 14, 15, 110] [7, 15, 51]]) (.cond (tm 110) (.seq (.reg [od 6 (.mv kF)] [kp [6] []]) .ret) .skip)) (.reg [od 111 (fa 1 15), od 112 (ld 1
 111), om 8 112] [kp [5, 7, 8, 9, 11, 12, 14] [7, 51]])))) (.reg [om 73 14, od 74 (.bin .add (tm 73) (ki 1)), om 14 74] [kp [5, 7, 8, 9, 11, 12, 14] [7, 51]]))) [kp [5, 7, 8, 9, 11, 12, 14] [7, 51]]
def law35_ShiftsPlay_l3 : IC := .loop law35_ShiftsPlay_g2
abbrev law35_ShiftsPlay_ic : IC := (.seq (.reg [od 3 (.box false (tm 0)), od 5 (.box true (tm 2)), od 6 (.mv kF)] [kp [1, 3, 5] [3]]) (.seq (.seq (.reg [om 25 1, od 26 (le 0 25), od 27 (.bin .gtr (tm 26) (ki 8))] [kp [1, 3, 5, 27] [3]]) (.cond (tm 27) (.seq (.reg
 [od 28 (.call 34 []), om 6 28] [kp [6] []]) .ret) .skip)) (.seq (.reg [od 29 (fa 5 3), on (.store 1 (tm 29) kF)] [kp [1, 3, 5] [3]]) (.seq (.reg [od 30 (lG 12 3), od 31 (.call 13 [(tm 30)]), od 7 (.alloc false [(.slice none 0 0),
 (.slice none 0 0), (.slice none 0 0), (.slice none 0 0)]), on (.store 4 (tm 7) (tm 31))] [kp [1, 5, 7] [7]]) (.seq (.reg [od 32 (lG 4 7), od 33 (.iadrA 2 1 (tm 5) (ki 0)), od 34 (ld 1 33), od 35 (.call 35 [(tm 32), (tm 34)]), om 8
 35] [kp [1, 5, 7, 8] [7]]) (.seq (.reg [od 9 (.mv kN)] [.nl 9 51 37 1, kp [1, 5, 7, 8, 9] [7, 51]]) (.seq (.seq (.reg [od 10 (.mv (ki 0))] [kp [1, 5, 7, 8, 9, 10] [7, 51]]) (.gh (.block 0 law35_ShiftsPlay_l1) [.frz 51])) (.seq
 (.reg [od 53 (lG 4 7), om 54 8, om 55 9, od 56 (.call 36 [(tm 53), (tm 54), (tm 55)]), om 52 56, od 57 (ex 52 0), od 58 (ex 52 1), od 59 (ex 52 2), om 11 57, om 12 58, om 13 59] [kp [5, 7, 8, 9, 11, 12, 13] [7, 51]]) (.seq (.seq
 (.reg [om 60 13, od 61 (.bin .neq (tm 60) (ki 0)), om 62 61, oF 63 (.mv (tm 11)) 62, oF 64 (le 0 63) 62, oF 65 (.mv (tm 9)) 62, oF 66 (le 0 65) 62, oF 67 (.bin .neq (tm 64) (tm 66)) 62, od 68 (.pick (tm 62) kT (tm 67))] [kp [5, 7,
 8, 9, 11, 12, 68] [7, 51]]) (.cond (tm 68) (.seq (.reg [od 6 (.mv kF)] [kp [6] []]) .ret) .skip)) (.seq (.seq (.reg [od 14 (.mv (ki 0))] [kp [5, 7, 8, 9, 11, 12, 14] [7, 51]]) (.block 2 law35_ShiftsPlay_l3)) (.seq (.reg [om 113 9,
 od 114 (le 0 113), od 115 (.bin .quo (tm 114) (ki 2)), om 18 115] [kp [5, 7, 8, 9, 11, 12, 18] [7, 51]]) (.seq (.reg [od 117 (lG 4 7), od 118 (lG 4 7), od 119 (.iadrA 2 1 (tm 5) (ki 0)), od 120 (ld 1 119), od 121 (.call 35 [(tm
 118), (tm 120)]), om 122 9, om 123 18, od 124 (.slice 1 (tm 122) none (some (tm 123)) none), od 125 (.call 36 [(tm 117), (tm 121), (tm 124)]), om 116 125, od 126 (ex 116 0), od 127 (ex 116 1), od 128 (ex 116 2), om 19 126, om 20
 127, om 21 128] [kp [7, 8, 9, 11, 12, 18, 19, 20, 21] [7, 51]]) (.seq (.reg [od 130 (lG 4 7), om 131 20, om 132 9, om 133 18, od 134 (.slice 1 (tm 132) (some (tm 133)) none none), od 135 (.call 36 [(tm 130), (tm 131), (tm 134)]),
 om 129 135, od 136 (ex 129 0), od 137 (ex 129 1), od 138 (ex 129 2), om 22 136, om 23 137, om 24 138] [kp [8, 11, 12, 19, 21, 22, 23, 24] []]) (.seq (.reg [om 139 8, om 140 12, od 141 (.call 37 [(tm 139), (tm 140)]), om 142 141, oT
 143 (.mv (tm 12)) 142, oT 144 (.mv (tm 23)) 142, oT 145 (.call 37 [(tm 143), (tm 144)]) 142, od 146 (.pick (tm 142) (tm 145) kF), om 147 146, oT 148 (.mv (tm 21)) 147, oT 149 (.bin .eql (tm 148) (ki 0)) 147, od 150 (.pick (tm 147)
 (tm 149) kF), om 151 150, oT 152 (.mv (tm 24)) 151, oT 153 (.bin .eql (tm 152) (ki 0)) 151, od 154 (.pick (tm 151) (tm 153) kF), om 155 154, oT 156 (.mv (tm 19)) 155, oT 157 (le 0 156) 155, oT 158 (.mv (tm 22)) 155, oT 159 (le 0
 158) 155, oT 160 (.bin .add (tm 157) (tm 159)) 155, oT 161 (.mv (tm 11)) 155, oT 162 (le 0 161) 155, oT 163 (.bin .eql (tm 160) (tm 162)) 155, od 164 (.pick (tm 155) (tm 163) kF), om 165 164, oT 166 (.call 34 []) 165, od 167 (.pick
 (tm 165) (tm 166) kF), om 6 167] [kp [6] []]) .ret))))))))))))))
theorem law35_ShiftsPlay_l1_run (h : ∀ K : St → Prop, K = run P Γ law35_ShiftsPlay_l1 Q → run P Γ law35_ShiftsPlay_g0 (thenX K Q) s) : run P Γ law35_ShiftsPlay_l1 Q s := run_loop h
theorem law35_ShiftsPlay_l3_run (h : ∀ K : St → Prop, K = run P Γ law35_ShiftsPlay_l3 Q → run P Γ law35_ShiftsPlay_g2 (thenX K Q) s) : run P Γ law35_ShiftsPlay_l3 Q s := run_loop h
def law35_ShiftsPlay_rv : List RV := [.tmp 6]
end
end Go.Lg
namespace Go.Lg
open Go Go.Proofs
theorem law35_ShiftsPlay_chk : chkF Tryz.prog 6 law35_ShiftsPlay_ic 168 3 law35_ShiftsPlay_rv = true := by kernel_rfl
end Go.Lg
namespace Go.Lg
open Go Go.Proofs
theorem playE_app {c : Cir} : ∀ (a b : List (List Int)) (s : List Int), playE c s (a ++ b) = playE c (playE c s a) b
  | [], _, _ => rfl
  | x :: a, b, s => by simp only [List.cons_append, playE]; exact playE_app a b _
theorem playE_len {c : Cir} : ∀ (l : List (List Int)) (s : List Int), s.length = (states c).length → (playE c s l).length = (states c).length
  | [], _, h => h
  | x :: l, s, h => by simp only [playE]; exact playE_len l _ nexts_len
section
variable {c : Cir} {ch : List (Sl Int)}
end
end Go.Lg
namespace Go.Lg
open Go Go.Proofs
variable {Γ : Tables}
theorem state_loop {Q : AX → St → Prop} (l : Sl Int) (n : Nat) (hn : n ≤ 1000000000) (R : List Int)
    (h0 : Q (.exit 0) ⟨[(1, .t (tV l)), (5, .ls 31 0 n none), (6, .t (tI n)), (7, .t (tI n)), (14, .t (tB false))], [(31, .sl 68 1 (vals R))]⟩) : ∀ (k i : Nat) (out : List Int), k + i = n → out.length = i → out ++ (List.range' i k).map (fun i => if l.l = [] then 2 else (l.l.getD (i % l.l.length) 0).tmod 3) = R →
    run Tryz.prog Γ law35_state_l1 Q ⟨[(1, .t (tV l)), (5, .ls 31 0 i none), (6, .t (tI n)), (7, .t (tI i))], [(31, .sl 68 1 (vals out))]⟩
  | 0, i, out, h, hi, hR => by
    refine law35_state_l1_run fun K hK => ?_
    have h2 : i = n := by omega
    subst h2
    simp only [List.range'_zero, List.map_nil, List.append_nil] at hR
    subst hR
    simp
    simpa using h0
  | k + 1, i, out, h, hi, hR => by
    refine law35_state_l1_run fun K hK => ?_
    have h2 : i < n := by omega
    rw [List.range'_succ, List.map_cons] at hR
    have vt : (vals out).take i = vals out := by rw [← hi]; exact vals_take
    have w1 : IntKind.i64.wrap ((i : Int) + 1) = (i : Int) + 1 := by rw [wrap_i64] <;> omega
    by_cases h1 : l.l = []
    · have ih := state_loop l n hn R h0 k (i + 1) (out ++ [2]) (by omega) (by simp [hi]) (by rw [← hR]; simp [h1])
      have vs := vals_snoc (l := out) (v := 2)
      simp [tV, h1] at ih
      simp [h2, tV, enc1_len, h1, w1, vt, vs, hi]
      refine ⟨by omega, ?_⟩
      rw [hK]
      simpa using ih
    · have hpos : 0 < l.l.length := List.length_pos_iff.2 h1
      have hlt : i % l.l.length < l.l.length := Nat.mod_lt _ hpos
      have hmod : (i : Int).tmod (l.l.length : Int) = ((i % l.l.length : Nat) : Int) := by rw [Int.natCast_emod]; exact Int.tmod_eq_emod_of_nonneg (by omega)
      rw [if_neg h1] at hR
      have e := gE (f := tK) 0 hlt
      have e' := gE' (f := tK) 0 hlt
      generalize hj : i % l.l.length = j at *
      generalize l.l.getD j 0 = v at *
      have ih := state_loop l n hn R h0 k (i + 1) (out ++ [v.tmod 3]) (by omega) (by simp [hi]) (by rw [← hR]; simp)
      have vs := vals_snoc (l := out) (v := v.tmod 3)
      have hne : ¬ (l.l.length : Int) = 0 := by omega
      have hp' : (0 : Int) < l.l.length := by omega
      simp [tV] at ih
      simp [h2, tV, enc1_len, enc1_wid, h1, hne, hpos, hp', hmod, hlt, e, e', w1, vt, vs, hi, -Int.natCast_emod]
      refine ⟨by omega, ?_⟩
      rw [hK]
      simpa using ih
theorem state_spec (c : Cir) (hc : COk c) (hs : (states c).length ≤ 1000000) (l : Sl Int) : PureCalls Tryz.prog Γ 35 [.agg (tC c), tV l] (tV (takS l.l (states c).length 3)) := by
  have e := states_spec (Γ := Γ) c hc
  by_cases h : (states c).length = 0
  · refine run_pureQ law35_state0_chk rfl ?_
    have h' : states c = [] := List.eq_nil_of_length_eq_zero h
    rw [h'] at e
    simp [tC, tNodes, tNames, tMems, tSl] at e
    simp [law35_state0_ic, tC, tNodes, tNames, tMems, tSl, tV]
    refine callK_pure e rfl ?_
    simp [enc1_nil]
    refine law35_state0_l1_run fun K hK => ?_
    simp [law35_state0_rv, takS, h', enc1_nil]
  · refine run_pureQ law35_state_chk rfl ?_
    have g := fun Q h0 => state_loop (Γ := Γ) (Q := Q) l (states c).length (by omega) (takenL l.l (states c).length 3) h0 (states c).length 0 [] (by omega) rfl (by simp [takenL])
    have ht : (vals (takenL l.l (states c).length 3)).take (states c).length = vals (takenL l.l (states c).length 3) := List.take_of_length_le (by rw [enc1_len, takenL_len]; exact Nat.le_refl _)
    generalize states c = st at *
    simp [tC, tNodes, tNames, tMems, tSl] at e
    simp [tV] at g
    simp [law35_state_ic, tC, tNodes, tNames, tMems, tSl, tV]
    refine callK_pure e rfl ?_
    simp [enc1_len]
    refine g _ ?_
    simp [law35_state_rv, reify, ht, takS, h]
theorem same35_loop {Q : AX → St → Prop} (a b : Sl Int) (hab : a.l = b.l) (ha : a.l.length ≤ 1000000)
    (h0 : Q (.exit 0) ⟨[(0, .t (tV a)), (1, .t (tV b)), (5, .t (tI a.l.length)), (14, .t (tB false))], []⟩) :
    ∀ (k i : Nat), k + i = a.l.length → run Tryz.prog Γ law35_same_l1 Q ⟨[(0, .t (tV a)), (1, .t (tV b)), (5, .t (tI i))], []⟩
  | 0, i, h => by
    refine law35_same_l1_run fun K hK => ?_
    have h2 : i = a.l.length := by omega
    subst h2
    simp [tV, enc1_len]
    simpa [tV] using h0
  | k + 1, i, h => by
    refine law35_same_l1_run fun K hK => ?_
    have h2 : i < a.l.length := by omega
    have ih := same35_loop a b hab ha h0 k (i + 1) (by omega)
    have e1 := gE (f := tK) 0 h2
    have e1' := gE' (f := tK) 0 h2
    generalize a.l.getD i 0 = v at *
    have w1 : IntKind.i64.wrap ((i : Int) + 1) = (i : Int) + 1 := by rw [wrap_i64] <;> omega
    simp [tV] at ih
    simp [tV, ← hab, enc1_len, enc1_wid, h2, e1, e1', w1]
    rw [hK]
    simpa [← hab] using ih
theorem same35_spec (a b : Sl Int) (hab : a.l = b.l) (ha : a.l.length ≤ 1000000) : FreshCalls Tryz.prog Γ 37 [tV a, tV b] (tB true) := by
  refine run_freshQ law35_same_chk rfl ?_
  have g := fun Q h0 => same35_loop (Γ := Γ) (Q := Q) a b hab ha h0 a.l.length 0 (by omega)
  simp [tV, ← hab] at g
  simp [law35_same_ic, tV, ← hab, enc1_len]
  refine g _ ?_
  simp [law35_same_rv]
end Go.Lg
namespace Go.Lg
open Go Go.Proofs
variable {Γ : Tables}
theorem playE_4 {c : Cir} (hl : levErr c = 0) : ∀ (l : List (List Int)) (s : List Int), s.length = (states c).length → (∀ v ∈ s, V4 v) → (∀ x ∈ l, x.length = (inputs c).length ∧ ∀ v ∈ x, V4 v) → ∀ v ∈ playE c s l, V4 v
  | [], s, _, h, _ => h
  | x :: l, s, hs, h, hx => by
    have h1 := hx x List.mem_cons_self
    simp only [playE]
    refine playE_4 hl l _ nexts_len (nexts_4 fun v hv => ?_) fun y hy => hx y (List.mem_cons_of_mem _ hy)
    exact (nets_4' hl (p := ⟨⟨x, none, none⟩, ⟨s, none, none⟩⟩) ⟨h1.1, hs, h1.2, h⟩ v hv).1
theorem playR_get {c : Cir} : ∀ (l : List (List Int)) (s : List Int) (i : Nat), i < l.length → (playR c s l).getD i rspD = rspOf c (l.getD i []) (playE c s (l.take i))
  | [], _, _, h => absurd h (Nat.not_lt_zero _)
  | x :: l, s, 0, _ => rfl
  | x :: l, s, i + 1, h => by
    simp only [playR, List.take_succ_cons, playE, List.getD_cons_succ]
    exact playR_get l _ i (by simpa using h)
theorem playE_succ {c : Cir} : ∀ (l : List (List Int)) (s : List Int) (i : Nat), i < l.length → playE c s (l.take (i + 1)) = (rspOf c (l.getD i []) (playE c s (l.take i))).next.l
  | [], _, _, h => absurd h (Nat.not_lt_zero _)
  | x :: l, s, 0, _ => rfl
  | x :: l, s, i + 1, h => by
    simp only [List.take_succ_cons, playE, List.getD_cons_succ]
    exact playE_succ l _ i (by simpa using h)
theorem Play_any (c : Cir) (H : RunH Γ c) (hl : levErr c = 0) (hc : COk c) (hi : (inputs c).length ≤ 60000) (hs2 : (states c).length ≤ 60000) (st : Sl Int) (hs : st.l.length = (states c).length) (hv : ∀ v ∈ st.l, V4 v) (hnl : st.nl = some true → st.l = []) (ins : List (Sl Int)) (hn : ins.length ≤ 1000000) (hin : ∀ x ∈ ins, x.l.length = (inputs c).length ∧ ∀ v ∈ x.l, V4 v) :
    ∃ B : Sl Int, B.l = playE c st.l (ins.map (·.l)) ∧ (B.nl = some true → B.l = []) ∧ ∀ (ic : Option Nat) (nn : Option Bool), PureCalls Tryz.prog Γ 36 [.agg (tC c), tV st, .sl (enc1 tV ins) ic nn] (.tup [.sl (encN tRsp (playR c st.l (ins.map (·.l)))) (some ins.length) none, tV B, tI 0]) := by
  cases ins with
  | nil =>
    refine ⟨⟨st.l, some st.l.length, (cloneS st).nl⟩, rfl, fun h => ?_, fun ic nn => Play_spec0 c H hc hi st hs hv hnl hs2 ic nn⟩
    unfold cloneS at h
    split at h
    · rename_i h2; exact hnl h2
    · exact nomatch h
  | cons a l =>
    have h := fun ic nn => Play_spec (Γ := Γ) c H hl st hs hv hnl (a :: l) ic nn (by simp) hn hin
    generalize hE : playE c st.l ((a :: l).map (·.l)) = E at *
    exact ⟨⟨E, some E.length, none⟩, rfl, (by intro h; cases h), h⟩
def pdD : PD := ⟨⟨[], none, none⟩, ⟨[], none, none⟩⟩
theorem gPD {l : List PD} {i : Nat} (h : i < l.length) : (encN tPD l)[i]?.getD [] = tPD (l.getD i pdD) := by
  rw [encN_get pdD h]; rfl
theorem gPD' {l : List PD} {i : Nat} (h0 : i < l.length) : ∀ h : i < (encN tPD l).length, (encN tPD l)[i] = tPD (l.getD i pdD) := fun h => by rw [← gPD h0]; simp [h]
def spH (c0 c1 c2 c3 : T) : List (Nat × Reg) := [(7, .bx [.t c0, .t c1, .t c2, .t c3])]
theorem sp_l1 {Q : AX → St → Prop} (ql : Sl PD) (hl : ql.l.length ≤ 1000000) (c0 c1 c2 c3 sT ip : T) (f g : PD → Sl Int)
    (hp : ∀ q ∈ ql.l, PureCalls Tryz.prog Γ 14 [.agg (tPD q), .agg [c0, c1, c2, c3]] (.agg [tV (f q), tV (g q)]))
    (h0 : Q (.exit 0) ⟨[(1, .t (.sl (encN tPD ql.l) ql.cap ql.nl)), (5, .t ip), (7, .lp 7 0 0), (8, .t sT), (9, .ls 51 0 ql.l.length none), (10, .t (tI ql.l.length)), (39, .t (tB false))], spH c0 c1 c2 c3 ++ [(51, .sl 37 1 (enc1 tV (ql.l.map f)))]⟩) :
    ∀ (k i : Nat), k + i = ql.l.length →
    run Tryz.prog Γ law35_ShiftsPlay_l1 Q ⟨[(1, .t (.sl (encN tPD ql.l) ql.cap ql.nl)), (5, .t ip), (7, .lp 7 0 0), (8, .t sT), (9, .ls 51 0 i none), (10, .t (tI i))], spH c0 c1 c2 c3 ++ [(51, .sl 37 1 (enc1 tV ((ql.l.take i).map f)))]⟩
  | 0, i, h => by
    refine law35_ShiftsPlay_l1_run fun K hK => ?_
    have h2 : i = ql.l.length := by omega
    subst h2
    rw [List.take_of_length_le (Nat.le_refl _)]
    simp [spH, encN_len]
    simpa [spH] using h0
  | k + 1, i, h => by
    refine law35_ShiftsPlay_l1_run fun K hK => ?_
    have h2 : i < ql.l.length := by omega
    have ih := sp_l1 ql hl c0 c1 c2 c3 sT ip f g hp h0 k (i + 1) (by omega)
    rw [← List.take_append_getElem h2, List.map_append, List.map_cons, List.map_nil] at ih
    have e2 := gPD h2
    have e2' := gPD' h2
    have hx : ql.l.getD i pdD = ql.l[i] := by simp [List.getD_eq_getElem?_getD, h2]
    have hpt := hp _ (List.getElem_mem h2)
    rw [hx] at e2 e2'
    have hml : ((ql.l.take i).map f).length = i := by simp; omega
    have hsn := enc1_snoc (f := tV) (l := (ql.l.take i).map f) (x := f ql.l[i])
    generalize (ql.l.take i).map f = rows at *
    generalize ql.l[i] = r at *
    generalize f r = fr at *
    generalize g r = gr at *
    have htk : (enc1 tV rows).take i = enc1 tV rows := List.take_of_length_le (by rw [enc1_len]; omega)
    have w1 : IntKind.i64.wrap ((i : Int) + 1) = (i : Int) + 1 := by rw [wrap_i64] <;> omega
    simp only [tPD] at e2 e2' hpt
    simp only [tV] at hpt hsn e2 e2'
    simp [spH] at ih
    simp [spH, h2, encN_len, encN_wid (f := tPD) (s := 2) (fun _ => rfl), e2, e2']
    refine callK_pure hpt rfl ?_
    simp [htk, hsn, hml, enc1_len, w1]
    refine ⟨by omega, ?_⟩
    rw [hK]
    simpa using ih
theorem sp_l3 {Q : AX → St → Prop} (c0 c1 c2 c3 ip bT : T) (ins : List (Sl Int)) (R : List Rsp) (hRl : R.length = ins.length) (hl : ins.length ≤ 1000000) (E : Nat → List Int) (m : Nat → List (List T)) (mc : Option Nat) (hlen : ∀ i, i < ins.length → (R.getD i rspD).out.l.length ≤ 1000000 ∧ (R.getD i rspD).next.l.length ≤ 1000000)
    (hr : ∀ i (N : Sl Int), i < ins.length → N.l = E i → PureCalls Tryz.prog Γ 15 [.agg [c0, c1, c2, c3], .agg [tV (ins.getD i slD), tV N]] (.tup [.agg [tV (R.getD i rspD).out, tV (R.getD i rspD).next], .sl (m i) mc none, tI 0]))
    (hE : ∀ i, i < ins.length → (R.getD i rspD).next.l = E (i + 1))
    (h0 : ∀ N : Sl Int, N.l = E ins.length → Q (.exit 2) ⟨[(5, .t ip), (7, .lp 7 0 0), (8, .t (tV N)), (9, .t (.sl (enc1 tV ins) none none)), (11, .t (.sl (encN tRsp R) (some ins.length) none)), (12, .t bT), (14, .t (tI ins.length)), (72, .t (tB false))], spH c0 c1 c2 c3⟩) :
    ∀ (k i : Nat) (N : Sl Int), k + i = ins.length → N.l = E i →
    run Tryz.prog Γ law35_ShiftsPlay_l3 Q ⟨[(5, .t ip), (7, .lp 7 0 0), (8, .t (tV N)), (9, .t (.sl (enc1 tV ins) none none)), (11, .t (.sl (encN tRsp R) (some ins.length) none)), (12, .t bT), (14, .t (tI i))], spH c0 c1 c2 c3⟩
  | 0, i, N, h, hN => by
    refine law35_ShiftsPlay_l3_run fun K hK => ?_
    have h2 : i = ins.length := by omega
    subst h2
    have h0' := h0 N hN
    simp [spH, tV] at h0'
    simp [spH, tV, enc1_len]
    simpa using h0'
  | k + 1, i, N, h, hN => by
    refine law35_ShiftsPlay_l3_run fun K hK => ?_
    have h2 : i < ins.length := by omega
    have h2R : i < R.length := by omega
    have e1 := gE (f := tV) slD h2
    have e1' := gE' (f := tV) slD h2
    have e2 := gR h2R
    have e2' := gR' h2R
    have hrn := hr i N h2 hN
    have hln := hlen i h2
    have ih := sp_l3 c0 c1 c2 c3 ip bT ins R hRl hl E m mc hlen hr hE h0 k (i + 1) (R.getD i rspD).next (by omega) (hE i h2)
    generalize R.getD i rspD = r at *
    generalize ins.getD i slD = x at *
    have s1 := same35_spec (Γ := Γ) r.out r.out rfl hln.1
    have s2 := same35_spec (Γ := Γ) r.next r.next rfl hln.2
    have w1 : IntKind.i64.wrap ((i : Int) + 1) = (i : Int) + 1 := by rw [wrap_i64] <;> omega
    simp only [tRsp] at e2 e2'
    simp only [tV] at e1 e1' e2 e2' hrn s1 s2
    simp [spH, tV] at ih
    simp [spH, tV, h2, h2R, enc1_len, enc1_wid, encN_len, tRsp_wid, e1, e1', e2, e2']
    refine callK_pure hrn rfl ?_
    simp [h2, h2R, encN_len, tRsp_wid, e2, e2', hRl]
    refine callK_fresh s1 rfl ?_
    simp [h2, h2R, encN_len, tRsp_wid, e2, e2', hRl]
    refine callK_fresh s2 rfl ?_
    simp [w1]
    rw [hK]
    simpa using ih
end Go.Lg
namespace Go.Lg
open Go Go.Proofs Go.Proofs.YtgnomdkcimglbaaGreatDoor
theorem cells80 : Tryz.prog.cellsOf 80 = 2 := by kernel_rfl
theorem rdPDs : Rd Tryz.prog 79 fun ts => ∃ s : Sl PD, ts = [.sl (encN tPD s.l) s.cap s.nl] ∧ ∀ q ∈ s.l, PDOk q := by
  refine (rd_slice Tryz.underlying79 cells29 (by decide) rdPD).mono fun ts ⟨es, cap, nl, h, _, hes⟩ => ?_
  obtain ⟨l, rfl, hl⟩ := list_of (f := tPD) (Q := PDOk) fun x hx => (hes x hx).1
  exact ⟨⟨l, cap, nl⟩, h, hl⟩
theorem rdZ2 : Rd Tryz.prog 80 fun ts => ∃ a b : Sl Int, ts = [tV a, tV b] ∧ (∀ x ∈ a.l, Byt x) ∧ ∀ x ∈ b.l, Byt x := by
  refine (rd_array Tryz.underlying80 cells25 cells80 rdBytes).mono fun ts h => ?_
  obtain ⟨_, _, rfl, ⟨a, rfl, ha⟩, _, _, rfl, ⟨b, rfl, hb⟩, rfl⟩ := h
  exact ⟨a, b, rfl, ha, hb⟩
end Go.Lg
namespace Go.Proofs.YtgnomdkcimglbaaGreatDoor
open Go Go.Lg Go.ChangeShapes Go.WideShapes Go.ChangeAt Go.RowKit
theorem open_pds {H : Type} {enc : TypeId × Value → H} {W : World} {base : Nat} {v : Value} {d : DataW H} {p : List MemPlace} (hval : Value.okWide Tryz.prog W .any base 79 v) (h : DataW.Trod enc Tryz.prog W 0 (fun _ => true) true 79 v d p) : ∃ s : Sl PD, (∀ q ∈ s.l, PDOk q) ∧ TR W (Old W) (.sl (encN tPD s.l) s.cap s.nl) v := by
  obtain ⟨a, len, cap, rfl⟩ := okWide_slice Tryz.underlying79 hval
  obtain ⟨fuel, hf⟩ := h
  obtain ⟨ts, ⟨s, rfl, hs⟩, htr, _⟩ := rdPDs H enc W true fuel _ _ hf
  obtain ⟨y, ys, he, hy, _⟩ := htr.cons_inv
  simp [Value.cells] at he
  exact ⟨s, hs, by rw [he.1]; exact hy⟩
theorem open_z2 {H : Type} {enc : TypeId × Value → H} {W : World} {base : Nat} {v : Value} {d : DataW H} {p : List MemPlace} (hval : Value.okWide Tryz.prog W .any base 80 v) (h : DataW.Trod enc Tryz.prog W 0 (fun _ => true) true 80 v d p) : ∃ a b : Sl Int, (∀ x ∈ a.l, Byt x) ∧ (∀ x ∈ b.l, Byt x) ∧ TR W (Old W) (.agg [tV a, tV b]) v := by
  simp only [Value.okWide, Tryz.underlying80] at hval
  obtain ⟨cs, rfl, _, _⟩ := hval
  obtain ⟨fuel, hf⟩ := h
  obtain ⟨ts, ⟨a, b, rfl, ha, hb⟩, htr, ho⟩ := rdZ2 H enc W true fuel _ _ hf
  exact ⟨a, b, ha, hb, tr_agg htr ho⟩
end Go.Proofs.YtgnomdkcimglbaaGreatDoor
namespace Go.Lg
open Go Go.Proofs
variable {Γ : Tables}
set_option maxHeartbeats 4000000 in
theorem lawPlay_spec (hΓ : GOk Γ) (x : CD) (hx : CDOk x) (ql : Sl PD) (hq : ∀ q ∈ ql.l, PDOk q) (z0 z1 : Sl Int) (hz : ∀ b ∈ z0.l, Byt b) (hz1 : ∀ b ∈ z1.l, Byt b) : PureCalls Tryz.prog Γ 6 [.agg (tCD x), .sl (encN tPD ql.l) ql.cap ql.nl, .agg [tV z0, tV z1]] (tB true) := by
  refine run_pureQ law35_ShiftsPlay_chk rfl ?_
  have hx' := noMem_ok hx
  have hc := NOk_of hx' rfl
  have hof := Of_spec (Γ := Γ) (noMem x) hx'
  have hos : (ofC (noMem x)).outs.l.length ≤ 4 := by simp [ofC]; omega
  generalize ofC (noMem x) = c at *
  have hsl := states_len' c
  have hcn2 := hc.n2
  have es := state_spec (Γ := Γ) c hc.ok (by omega) z0
  by_cases h8 : ql.l.length ≤ 8
  · have h8' : ¬ (8 : Int) < ql.l.length := by omega
    have h8'' : ¬ (ql.l.length : Int) > 8 := by omega
    have hil := inputs_len c
    have hf4 : ∀ v ∈ (takS z0.l (states c).length 3).l, V4 v := by rw [takS_l]; exact taken_4 (fun v hv => (hz v hv).1) (by omega)
    have hfl : (takS z0.l (states c).length 3).l.length = (states c).length := by rw [takS_l, takenL_len]
    have hfo : SlOk (takS z0.l (states c).length 3) := takS_ok (by omega)
    generalize takS z0.l (states c).length 3 = S0 at *
    have hp : ∀ q ∈ ql.l, PureCalls Tryz.prog Γ 14 [.agg (tPD q), .agg (tC c)] (.agg [tV (patOf2 q c).inn, tV (patOf2 q c).st]) := fun q h => P_Of2_spec q (hq q h) c hc.ok
    have hin : ∀ x ∈ ql.l.map (fun q => (patOf2 q c).inn), x.l.length = (inputs c).length ∧ ∀ v ∈ x.l, V4 v := by
      intro x hx
      obtain ⟨q, h, rfl⟩ := List.mem_map.1 hx
      have := pat2_ok (hq q h) c
      exact ⟨this.i, this.vi⟩
    have hnl : (ql.l.map (fun q => (patOf2 q c).inn)).length = ql.l.length := List.length_map _
    have g1 := fun Q sT ip h0 => sp_l1 (Γ := Γ) (Q := Q) ql (by omega) _ _ _ _ sT ip (fun q => (patOf2 q c).inn) (fun q => (patOf2 q c).st) hp h0 ql.l.length 0 (by omega)
    generalize (ql.l.map (fun q => (patOf2 q c).inn)) = ins at *
    have H : RunH Γ c := ⟨by omega, fun p hp => Run_ok hΓ hc hp⟩
    have hmm : ∀ x ∈ ins.map (·.l), x.length = (inputs c).length ∧ ∀ v ∈ x, V4 v := fun x hx => by
      obtain ⟨y, hy, rfl⟩ := List.mem_map.1 hx
      exact hin y hy
    have hE4 : ∀ i, (playE c S0.l ((ins.map (·.l)).take i)).length = (states c).length ∧ ∀ v ∈ playE c S0.l ((ins.map (·.l)).take i), V4 v := fun i =>
      ⟨playE_len _ _ hfl, playE_4 hc.lev _ _ hfl hf4 fun x hx => hmm x (List.mem_of_mem_take hx)⟩
    obtain ⟨B, hB, hBn, ea⟩ := Play_any c H hc.lev hc.ok (by omega) (by omega) S0 hfl hf4 hfo.1 ins (by omega) hin
    obtain ⟨B1, hB1, hBn1, eb⟩ := Play_any c H hc.lev hc.ok (by omega) (by omega) S0 hfl hf4 hfo.1 (ins.take (ql.l.length / 2)) (by rw [List.length_take]; omega) fun x hx => hin x (List.mem_of_mem_take hx)
    rw [List.map_take] at hB1 eb
    have hE1 := hE4 (ql.l.length / 2)
    rw [← hB1] at hE1
    obtain ⟨B2, hB2, _, ed⟩ := Play_any c H hc.lev hc.ok (by omega) (by omega) B1 hE1.1 hE1.2 hBn1 (ins.drop (ql.l.length / 2)) (by rw [List.length_drop]; omega) fun x hx => hin x (List.mem_of_mem_drop hx)
    rw [List.map_drop] at hB2 ed
    have hBB : B.l = B2.l := by
      rw [hB, hB2, hB1, ← playE_app, List.take_append_drop]
    have hBl : B.l.length ≤ 1000000 := by rw [hB, playE_len _ _ hfl]; omega
    have hml : (ins.map (·.l)).length = ql.l.length := by rw [List.length_map]; exact hnl
    have hRl : (playR c S0.l (ins.map (·.l))).length = ins.length := by rw [playR_len, List.length_map]
    have hgl : ∀ i, i < ins.length → (ins.map (·.l)).getD i [] = (ins.getD i slD).l := fun i hi => by
      rw [List.getD_eq_getElem?_getD, List.getElem?_map, List.getElem?_eq_getElem hi, List.getD_eq_getElem?_getD, List.getElem?_eq_getElem hi]; rfl
    have hRg : ∀ i, i < ins.length → (playR c S0.l (ins.map (·.l))).getD i rspD = rspOf c (ins.getD i slD).l (playE c S0.l ((ins.map (·.l)).take i)) := fun i hi => by
      rw [← hgl i hi]; exact playR_get _ _ i (by rw [List.length_map]; exact hi)
    have g3 := fun Q c0 c1 c2 c3 ip bT N hr h0 hN => sp_l3 (Γ := Γ) (Q := Q) c0 c1 c2 c3 ip bT ins (playR c S0.l (ins.map (·.l))) hRl (by omega) (fun i => playE c S0.l ((ins.map (·.l)).take i)) (fun i => vals (netsL c (ins.getD i slD).l (playE c S0.l ((ins.map (·.l)).take i)))) (some c.nodes.l.length)
      (fun i hi => by
        rw [hRg i hi]
        exact ⟨by show (outL c _).length ≤ _; unfold outL; rw [List.length_map]; omega, by show (nextsL c _).length ≤ _; rw [nexts_len]; omega⟩)
      hr
      (fun i hi => by rw [hRg i hi, ← hgl i hi]; exact (playE_succ _ _ i (by rw [List.length_map]; exact hi)).symm)
      h0 ins.length 0 N (by omega) hN
    have hr : ∀ i (N : Sl Int), i < ins.length → N.l = playE c S0.l ((ins.map (·.l)).take i) → PureCalls Tryz.prog Γ 15 [.agg (tC c), .agg [tV (ins.getD i slD), tV N]] (.tup [.agg [tV ((playR c S0.l (ins.map (·.l))).getD i rspD).out, tV ((playR c S0.l (ins.map (·.l))).getD i rspD).next], .sl (vals (netsL c (ins.getD i slD).l (playE c S0.l ((ins.map (·.l)).take i)))) (some c.nodes.l.length) none, tI 0]) := fun i N hi hN => by
      have hm : ins.getD i slD ∈ ins := by rw [List.getD_eq_getElem?_getD, List.getElem?_eq_getElem hi]; exact List.getElem_mem _
      have := Run_ok (Γ := Γ) hΓ hc (p := ⟨ins.getD i slD, N⟩) ⟨(hin _ hm).1, by show N.l.length = _; rw [hN]; exact (hE4 i).1, (hin _ hm).2, by show ∀ v ∈ N.l, V4 v; rw [hN]; exact (hE4 i).2⟩
      rw [hRg i hi, ← hN]
      exact this
    have g3' := fun Q ip bT N h0 hN => g3 Q _ _ _ _ ip bT N hr h0 hN
    clear g3
    rw [hnl] at ea hRl
    have ltk : (ins.take (ql.l.length / 2)).length = ql.l.length / 2 := by rw [List.length_take]; omega
    have ldr : (ins.drop (ql.l.length / 2)).length = ql.l.length - ql.l.length / 2 := by rw [List.length_drop, hnl]
    rw [ltk] at eb
    rw [ldr] at ed
    have enT : ∀ k, (enc1 tV ins).take k = enc1 tV (ins.take k) := fun k => by simp [enc1, List.map_take]
    have enD : ∀ k, (enc1 tV ins).drop k = enc1 tV (ins.drop k) := fun k => by simp [enc1, List.map_drop]
    have htk : ins.take ql.l.length = ins := List.take_of_length_le (by omega)
    have hdk : (ins.drop (ql.l.length / 2)).take (ql.l.length - ql.l.length / 2) = ins.drop (ql.l.length / 2) := List.take_of_length_le (by omega)
    have hls : ql.l.length / 2 + (ql.l.length - ql.l.length / 2) = ql.l.length := by omega
    have hq2 : IntKind.i64.wrap ((ql.l.length : Int) / 2) = ((ql.l.length / 2 : Nat) : Int) := by
      rw [wrap_i64] <;> omega
    have hk2 : ql.l.length / 2 ≤ ql.l.length := by omega
    have hlR1 : (playR c S0.l ((ins.map (·.l)).take (ql.l.length / 2))).length = ql.l.length / 2 := by rw [playR_len, List.length_take]; omega
    have hlR2 : (playR c B1.l ((ins.map (·.l)).drop (ql.l.length / 2))).length = ql.l.length - ql.l.length / 2 := by rw [playR_len, List.length_drop]; omega
    have s2 := same35_spec (Γ := Γ) B B2 hBB hBl
    have s1 := fun N (h : Sl.l N = B.l) => same35_spec (Γ := Γ) N B h (by rw [h]; exact hBl)
    have hNB : playE c S0.l ((ins.map (·.l)).take ins.length) = B.l := by rw [hB, List.take_of_length_le (by rw [List.length_map]; exact Nat.le_refl _)]
    rw [hNB] at g3'
    clear hr hp
    generalize playR c S0.l ((ins.map (·.l)).take (ql.l.length / 2)) = R1 at *
    generalize playR c B1.l ((ins.map (·.l)).drop (ql.l.length / 2)) = R2 at *
    generalize playR c S0.l (ins.map (·.l)) = R at *
    generalize ql.l.length / 2 = k at *
    have hk3 : (k : Int) ≤ ql.l.length := by omega
    have hdT : (enc1 tV (ins.drop k)).take (ql.l.length - k) = enc1 tV (ins.drop k) := List.take_of_length_le (by rw [enc1_len, ldr]; exact Nat.le_refl _)
    have hws : IntKind.i64.wrap ((k : Int) + ((ql.l.length - k : Nat) : Int)) = ql.l.length := by rw [wrap_i64] <;> omega
    have hwi : wid 1 (enc1 tV ins) := enc1_wid
    simp [spH, tV, hnl, tNodes, tNames, tMems, tSl] at g1 g3'
    simp [tCD, tV, tC, tNodes, tNames, tMems, tSl, noMem] at hof es ea eb ed
    simp only [tV] at s1 s2
    simp [law35_ShiftsPlay_ic, tCD, tV, encN_len, h8, h8', h8'']
    refine callK_pure hof rfl ?_
    simp [tC, tNodes, tNames, tMems, tSl]
    refine callK_pure es rfl ?_
    simp
    refine g1 _ _ _ ?_
    simp [St.freeze, Reg.closed, frzRef, frz1, frz0, frzReg, del, reify, enT, htk]
    refine callK_pure (ea _ _) rfl ?_
    simp [encN_len, hRl, enc1_len, hnl]
    refine g3' _ _ _ S0 (fun N hN => ?_) rfl
    have s1 := s1 N hN
    simp [enc1_len, hnl, hq2, enT, enD, htk, hdk, hdT, hwi, hk2, hk3]
    refine callK_pure es rfl ?_
    simp [enc1_len, hnl, hq2, enT, enD, htk, hdk, hdT, hwi, hk2, hk3]
    refine callK_pure (eb _ _) rfl ?_
    simp [enc1_len, hnl, hq2, enT, enD, htk, hdk, hdT, hwi, hk2, hk3]
    refine callK_pure (ed _ _) rfl ?_
    simp
    refine callK_fresh s1 rfl ?_
    simp
    refine callK_fresh s2 rfl ?_
    simp [encN_len, hlR1, hlR2, hRl, hls, hws]
    refine callK_pure (lives35_spec hΓ) rfl ?_
    simp [law35_ShiftsPlay_rv, reify]
  · have h8' : (8 : Int) < ql.l.length := by omega
    simp [law35_ShiftsPlay_ic, tCD, tV, encN_len, h8, h8']
    refine callK_pure (lives35_spec hΓ) rfl ?_
    simp [law35_ShiftsPlay_rv, reify]
end Go.Lg
