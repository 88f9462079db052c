/- Circuits from plain data are valid. Conditions: none. -/
import Derived.Test.YtgnomdkcimglbaaDoorPkD
import Derived.Test.YtgnomdkcimglbaaDoorPkC
import Derived.Test.YtgnomdkcimglbaaDoorProg
import Derived.KernelRfl
set_option linter.unusedSimpArgs false
set_option linter.unusedVariables false
set_option maxRecDepth 100000
namespace Go.Lg
open Go Go.Proofs

structure NG (B : Bool) (ns : List Nd) (i : Nat) (x : Nd) : Prop where
  k : 0 ≤ x.k ∧ x.k ≤ 15
  f : (fan x.k).1 ≤ x.inn.l.length ∧ (x.inn.l.length : Int) ≤ (fan x.k).2
  inn : ∀ p ∈ x.inn.l, 0 ≤ p ∧ p < ns.length
  top : 1 ≤ x.k ∧ x.k ≤ 13 → ∀ p ∈ x.inn.l, p < i
  bus : x.k = 13 → ∀ p ∈ x.inn.l, (ns.getD p.toNat Nd.d).k = 12
  mm : (x.k ≠ 15 → x.mem = 0 ∧ x.bit = 0) ∧ (x.k = 15 → B = true ∧ x.mem = 0 ∧ 0 ≤ x.bit ∧ x.bit ≤ 1)

theorem NG.mono {B : Bool} {ns ys : List Nd} {i : Nat} {x : Nd} (h : NG B ns i x) : NG B (ns ++ ys) i x :=
  ⟨h.k, h.f, fun p hp => by have := h.inn p hp; simp; omega, h.top, fun hk p hp => by
    have h1 := h.inn p hp
    rw [List.getD_eq_getElem?_getD, List.getElem?_append_left (by omega), ← List.getD_eq_getElem?_getD]
    exact h.bus hk p hp, h.mm⟩

def GNs (B : Bool) (ns : List Nd) : Prop := ∀ i (h : i < ns.length), NG B ns i ns[i]

theorem GNs.add {B : Bool} {ns : List Nd} {y : Nd} (h : GNs B ns) (hy : NG B (ns ++ [y]) ns.length y) : GNs B (ns ++ [y]) := by
  intro i hi
  by_cases h1 : i < ns.length
  · rw [List.getElem_append_left h1]; exact (h i h1).mono
  · have : i = ns.length := by simp at hi; omega
    subst this
    simpa using hy

theorem fan_at : fan 0 = (0, 0) ∧ fan 1 = (0, 0) ∧ fan 2 = (0, 0) ∧ fan 3 = (1, 1) ∧ fan 4 = (1, 1) ∧ fan 5 = (2, 16) ∧ fan 6 = (2, 16) ∧ fan 7 = (2, 16) ∧ fan 8 = (2, 16) ∧ fan 9 = (2, 16) ∧ fan 10 = (2, 16) ∧ fan 11 = (3, 3) ∧ fan 12 = (2, 2) ∧ fan 13 = (1, 16) ∧ fan 14 = (1, 1) ∧ fan 15 = (0, 0) := by decide

theorem ng_inp {B : Bool} {ns : List Nd} {i : Nat} : NG B ns i inpN := ⟨by decide, by decide, by simp [inpN], by simp [inpN], by simp [inpN], by simp [inpN]⟩
theorem ng_dff {B : Bool} {ns : List Nd} {i : Nat} {v : Int} (h : 0 ≤ v ∧ v < ns.length) : NG B ns i (dffN v) := ⟨by simp [dffN], by simp [dffN, fan_at], by simp [dffN]; exact h, by simp [dffN], by simp [dffN], by simp [dffN]⟩
theorem ng_mem {ns : List Nd} {i : Nat} {b : Int} (h : b = 0 ∨ b = 1) : NG true ns i (memN b) := ⟨by simp [memN], by simp [memN, fan_at], by simp [memN], by simp [memN], by simp [memN], by simp [memN]; omega⟩

theorem tri_at {ns : List Nd} : ∀ p ∈ triL ns, 0 ≤ p ∧ p < ns.length ∧ (ns.getD p.toNat Nd.d).k = 12 := by
  intro p hp
  obtain ⟨h1, h2, h3⟩ := ofL_kind [12] ns 0 p hp
  refine ⟨by omega, by omega, ?_⟩
  simpa using h3

theorem getD_in {l : List Int} {q : Nat} (h : q < l.length) : l.getD q 0 ∈ l := by
  rw [List.getD_eq_getElem?_getD, List.getElem?_eq_getElem h]; exact List.getElem_mem h

theorem ng_gate {B bus : Bool} {g : Gd} {ns : List Nd} (hg : GdOk g) (h0 : 1 ≤ ns.length) : NG B (ns ++ [gateN bus g ns]) ns.length (gateN bus g ns) := by
  have a := tmod_lt (n := ns.length) hg.2.1.1 (by omega)
  have b := tmod_lt (n := ns.length) hg.2.2.1.1 (by omega)
  have d := tmod_lt (n := ns.length) hg.2.2.2.1 (by omega)
  have m13 : 0 ≤ g.k.tmod 13 ∧ g.k.tmod 13 < 13 := tmod_lt (n := 13) hg.1.1 (by omega)
  have m9 : 0 ≤ g.k.tmod 9 ∧ g.k.tmod 9 < 9 := tmod_lt (n := 9) hg.1.1 (by omega)
  have ma : 0 ≤ g.a.tmod 2 ∧ g.a.tmod 2 < 2 := tmod_lt (n := 2) hg.2.1.1 (by omega)
  have hkk : 0 ≤ (if bus then g.k.tmod 13 else g.k.tmod 9) ∧ (if bus then g.k.tmod 13 else g.k.tmod 9) < 13 := by cases bus <;> simp <;> omega
  have ht := tri_at (ns := ns)
  obtain ⟨y, hy⟩ : ∃ y, y = gateN bus g ns := ⟨_, rfl⟩
  rw [← hy]
  have hlen : (ns ++ [y]).length = ns.length + 1 := by simp
  have old : ∀ p : Int, 0 ≤ p → p < ns.length → ((ns ++ [y]).getD p.toNat Nd.d).k = (ns.getD p.toNat Nd.d).k := fun p h1 h2 => by
    rw [List.getD_eq_getElem?_getD, List.getElem?_append_left (by omega), ← List.getD_eq_getElem?_getD]
  -- what suffices of a plain gate
  have mk : ∀ (k : Int) (l : List Int) (cap : Option Nat) (nl : Option Bool), 0 ≤ k → k ≤ 15 → k ≠ 13 → k ≠ 15 → (fan k).1 ≤ l.length → (l.length : Int) ≤ (fan k).2 → (∀ p ∈ l, 0 ≤ p ∧ p < ns.length) → NG B (ns ++ [y]) ns.length ⟨k, ⟨l, cap, nl⟩, 0, 0⟩ := fun k l cap nl h1 h2 h3 h4 h5 h6 h7 =>
    ⟨⟨h1, h2⟩, ⟨h5, h6⟩, fun p hp => by have := h7 p hp; omega, fun _ p hp => (h7 p hp).2, fun e => absurd e h3, fun _ => ⟨rfl, rfl⟩, fun e => absurd e h4⟩
  unfold gateN gateT at hy
  simp only at hy
  generalize g.a.tmod ns.length = a' at *
  generalize g.b.tmod ns.length = b' at *
  generalize g.d.tmod ns.length = d' at *
  generalize (if bus = true then g.k.tmod 13 else g.k.tmod 9) = kk at *
  have two : ∀ p ∈ [a', b'], 0 ≤ p ∧ p < ns.length := by intro p hp; simp at hp; rcases hp with rfl | rfl; exact a; exact b
  have three : ∀ p ∈ [a', b', d'], 0 ≤ p ∧ p < ns.length := by intro p hp; simp at hp; rcases hp with rfl | rfl | rfl; exact a; exact b; exact d
  have one : ∀ p ∈ [a'], 0 ≤ p ∧ p < ns.length := by intro p hp; simp at hp; rcases hp with rfl; exact a
  split at hy
  · rename_i h6
    have hc : kk = 0 ∨ kk = 1 ∨ kk = 2 ∨ kk = 3 ∨ kk = 4 ∨ kk = 5 := by omega
    split at hy
    · rw [hy]
      have hf : (fan (5 + kk)).1 = 2 ∧ (fan (5 + kk)).2 = 16 := by rcases hc with rfl | rfl | rfl | rfl | rfl | rfl <;> decide
      rw [← hy]
      have := mk (5 + kk) [a', b', d'] none none (by omega) (by omega) (by omega) (by omega) (by rw [hf.1]; simp) (by rw [hf.2]; simp) three
      rw [← hy] at this; exact this
    · have hf : (fan (5 + kk)).1 = 2 ∧ (fan (5 + kk)).2 = 16 := by rcases hc with rfl | rfl | rfl | rfl | rfl | rfl <;> decide
      have := mk (5 + kk) [a', b'] none none (by omega) (by omega) (by omega) (by omega) (by rw [hf.1]; simp) (by rw [hf.2]; simp) two
      rw [← hy] at this; exact this
  split at hy
  · have := mk 4 [a'] none none (by omega) (by omega) (by omega) (by omega) (by simp [fan_at]) (by simp [fan_at]) one
    rw [← hy] at this; exact this
  split at hy
  · have := mk 11 [a', b', d'] none none (by omega) (by omega) (by omega) (by omega) (by simp [fan_at]) (by simp [fan_at]) three
    rw [← hy] at this; exact this
  split at hy
  · have := mk 12 [a', b'] none none (by omega) (by omega) (by omega) (by omega) (by simp [fan_at]) (by simp [fan_at]) two
    rw [← hy] at this; exact this
  split at hy
  · rename_i ht2
    generalize triL ns = t at *
    have mt := tmod_lt (n := t.length) hg.2.1.1 ht2.2
    have mt2 := tmod_lt (a := g.a.tmod t.length + 1) (n := t.length) (by omega) ht2.2
    have q1 := ht _ (getD_in (l := t) (q := (g.a.tmod t.length).toNat) (by omega))
    have q2 := ht _ (getD_in (l := t) (q := ((g.a.tmod t.length + 1).tmod t.length).toNat) (by omega))
    generalize t.getD (g.a.tmod t.length).toNat 0 = u1 at *
    generalize t.getD ((g.a.tmod t.length + 1).tmod t.length).toNat 0 = u2 at *
    have mkb : ∀ (l : List Int) (cap : Option Nat) (nl : Option Bool), 1 ≤ l.length → l.length ≤ 16 → (∀ p ∈ l, 0 ≤ p ∧ p < ns.length ∧ (ns.getD p.toNat Nd.d).k = 12) → NG B (ns ++ [y]) ns.length ⟨13, ⟨l, cap, nl⟩, 0, 0⟩ := fun l cap nl h5 h6 h7 =>
      ⟨by simp, ⟨by simp [fan_at]; omega, by simp [fan_at]; omega⟩, fun p hp => by have := h7 p hp; omega, fun _ p hp => (h7 p hp).2.1, fun _ p hp => by rw [old p (h7 p hp).1 (h7 p hp).2.1]; exact (h7 p hp).2.2, fun _ => ⟨rfl, rfl⟩, fun e => by simp at e⟩
    split at hy
    · have := mkb [u1, u2] none none (by simp) (by simp) (by intro p hp; simp at hp; rcases hp with rfl | rfl; exact q1; exact q2)
      rw [← hy] at this; exact this
    · have := mkb [u1] none none (by simp) (by simp) (by intro p hp; simp at hp; rcases hp with rfl; exact q1)
      rw [← hy] at this; exact this
  split at hy
  · have hc : g.a.tmod 2 = 0 ∨ g.a.tmod 2 = 1 := by omega
    have hf : (fan (1 + g.a.tmod 2)).1 = 0 ∧ (fan (1 + g.a.tmod 2)).2 = 0 := by rcases hc with e | e <;> rw [e] <;> decide
    have := mk (1 + g.a.tmod 2) [] (some 0) (some true) (by omega) (by omega) (by omega) (by omega) (by rw [hf.1]; simp) (by rw [hf.2]; simp) (by simp)
    rw [← hy] at this; exact this
  · have := mk 3 [a'] none none (by omega) (by omega) (by omega) (by omega) (by simp [fan_at]) (by simp [fan_at]) one
    rw [← hy] at this; exact this

theorem gns_gates {B bus : Bool} : ∀ {l : List Gd} {ns : List Nd}, (∀ g ∈ l, GdOk g) → 1 ≤ ns.length → GNs B ns → GNs B (gatesN bus l ns)
  | [], ns, _, _, h => h
  | g :: l, ns, hg, h0, h => by
    simp only [gatesN]
    exact gns_gates (fun y hy => hg y (List.mem_cons_of_mem _ hy)) (by simp) (h.add (ng_gate (hg g List.mem_cons_self) h0))

theorem gns_set {B : Bool} {ns : List Nd} {j : Nat} {v : Int} (h : GNs B ns) (hj : j < ns.length) (hk : ns[j].k = 14) (hv : 0 ≤ v ∧ v < ns.length) : GNs B (setIn ns j v) := by
  have hm := (h j hj).mm.1 (by rw [hk]; decide)
  have hgd : ns.getD j Nd.d = ns[j] := by simp [List.getD_eq_getElem?_getD, hj]
  have kinds : ∀ q : Nat, ((setIn ns j v).getD q Nd.d).k = (ns.getD q Nd.d).k := fun q => by
    unfold setIn
    simp only [List.getD_eq_getElem?_getD, List.getElem?_set]
    split
    · rename_i e; subst e; simp [hj]
    · rfl
  intro i hi
  have hi' : i < ns.length := by rw [setIn_len] at hi; exact hi
  by_cases hij : i = j
  · subst hij
    have : (setIn ns i v)[i] = ⟨14, ⟨[v], some 1, some false⟩, 0, 0⟩ := by
      simp only [setIn, hgd, hk, hm.1, hm.2, List.getElem_set_self]
    rw [this]
    exact ⟨by simp, by simp [fan_at], by simp [setIn_len]; exact hv, by simp, by simp, by simp⟩
  · have : (setIn ns j v)[i] = ns[i] := by
      simp only [setIn]
      rw [List.getElem_set_ne (fun e => hij e.symm)]
    rw [this]
    have hn := h i hi'
    exact ⟨hn.k, hn.f, fun p hp => by rw [setIn_len]; exact hn.inn p hp, hn.top, fun hk p hp => by rw [kinds]; exact hn.bus hk p hp, hn.mm⟩

theorem setIn_kind {ns : List Nd} {j q : Nat} {v : Int} : ((setIn ns j v).getD q Nd.d).k = (ns.getD q Nd.d).k := by
  unfold setIn
  simp only [List.getD_eq_getElem?_getD, List.getElem?_set]
  split
  · rename_i e; subst e
    split
    · simp
    · rename_i h; simp [List.getElem?_eq_none (Nat.le_of_not_lt h)]
  · rfl

theorem gns_data {B : Bool} {x : CD} {first : Nat} (h0 : Byt x.d0) (h1 : Byt x.d1) : ∀ {k i : Nat} {ns : List Nd}, GNs B ns → (∀ q, q < i + k → first + q < ns.length ∧ (ns.getD (first + q) Nd.d).k = 14) → GNs B (dataN x first k i ns)
  | 0, _, _, h, _ => h
  | k + 1, i, ns, h, hq => by
    simp only [dataN]
    obtain ⟨hl, hk⟩ := hq i (by omega)
    have hd : 0 ≤ ddN x i := by unfold ddN; split; exact h0.1; exact h1.1
    have hv := tmod_lt (n := ns.length) hd (by omega)
    refine gns_data h0 h1 (gns_set h hl (by simpa [List.getD_eq_getElem?_getD, hl] using hk) hv) fun q hq' => ?_
    rw [setIn_len, setIn_kind]
    exact hq q (by omega)

theorem gatesN_kind {bus : Bool} : ∀ {l : List Gd} {ns : List Nd} {q : Nat}, q < ns.length → ((gatesN bus l ns).getD q Nd.d) = (ns.getD q Nd.d)
  | [], _, _, _ => rfl
  | g :: l, ns, q, h => by
    simp only [gatesN]
    rw [gatesN_kind (by simp; omega)]
    rw [List.getD_eq_getElem?_getD, List.getElem?_append_left h, ← List.getD_eq_getElem?_getD]

theorem gns_rep {B : Bool} {x : Nd} (h : ∀ ns : List Nd, 1 ≤ ns.length → ∀ i, NG B ns i x) : ∀ (k : Nat) {ns : List Nd}, GNs B ns → GNs B (ns ++ List.replicate k x)
  | 0, ns, hn => by simpa using hn
  | k + 1, ns, hn => by
    rw [List.replicate_succ, List.append_cons]
    exact gns_rep h k (hn.add (h _ (by simp) _))

theorem nodes5_good {x : CD} (hx : CDOk x) : GNs x.mem (nodes5 x) := by
  have m4 : 0 ≤ x.i.tmod 4 ∧ x.i.tmod 4 < 4 := tmod_lt (n := 4) hx.i.1 (by omega)
  have m3 : 0 ≤ x.f.tmod 3 ∧ x.f.tmod 3 < 3 := tmod_lt (n := 3) hx.f.1 (by omega)
  have g0 : GNs x.mem [] := fun i h => by simp at h
  have g1 : GNs x.mem (nodes1 x) := by
    have := gns_rep (B := x.mem) (x := inpN) (fun ns _ i => ng_inp) (x.i.tmod 4 + 1).toNat g0
    simpa [nodes1] using this
  have l1 : 1 ≤ (nodes1 x).length := by simp [nodes1]; omega
  have g2 : GNs x.mem (nodes2 x) := gns_rep (fun ns h i => ng_dff ⟨by omega, by omega⟩) _ g1
  have l2 : (nodes2 x).length = (nodes1 x).length + (x.f.tmod 3).toNat := by simp [nodes2]
  have g3 : GNs x.mem (nodes3 x) := by
    unfold nodes3
    split
    · rename_i hm
      rw [hm] at g2 ⊢
      have a1 := g2.add (y := memN 0) (ng_mem (.inl rfl))
      have a2 := a1.add (y := memN 1) (ng_mem (.inr rfl))
      rw [List.append_assoc] at a2
      exact a2
    · exact g2
  have l3 : (nodes2 x).length ≤ (nodes3 x).length := by unfold nodes3; split <;> simp
  have g4 : GNs x.mem (nodes4 x) := gns_gates (fun g hg => hx.gates g (List.mem_of_mem_take hg)) (by omega) g3
  have l4 : (nodes3 x).length ≤ (nodes4 x).length := by unfold nodes4; rw [gatesN_len]; omega
  refine gns_data hx.d0 hx.d1 g4 fun q hq => ⟨by omega, ?_⟩
  unfold nodes4
  rw [gatesN_kind (by omega)]
  have e : (nodes3 x).getD ((nodes1 x).length + q) Nd.d = (nodes2 x).getD ((nodes1 x).length + q) Nd.d := by
    unfold nodes3
    split
    · rw [List.getD_eq_getElem?_getD, List.getElem?_append_left (by omega), ← List.getD_eq_getElem?_getD]
    · rfl
  rw [e]
  unfold nodes2
  rw [List.getD_eq_getElem?_getD, List.getElem?_append_right (by omega)]
  simp only [Nat.add_sub_cancel_left]
  rw [List.getElem?_replicate, if_pos (by omega)]
  rfl

theorem firstErr_all {α : Type} {f : α → Int} : ∀ {l : List α}, (∀ x ∈ l, f x = 0) → firstErr (l.map f) = 0
  | [], _ => rfl
  | x :: l, h => by
    simp only [List.map_cons, firstErr, h x List.mem_cons_self, ne_eq, not_true_eq_false, if_false]
    exact firstErr_all fun y hy => h y (List.mem_cons_of_mem _ hy)

theorem names_fine : ∀ n, n ≤ 16 → namesErr [] ((List.range' 0 n).map nameL) = 0 := by
  intro n hn
  have : n = 0 ∨ n = 1 ∨ n = 2 ∨ n = 3 ∨ n = 4 ∨ n = 5 ∨ n = 6 ∨ n = 7 ∨ n = 8 ∨ n = 9 ∨ n = 10 ∨ n = 11 ∨ n = 12 ∨ n = 13 ∨ n = 14 ∨ n = 15 ∨ n = 16 := by omega
  rcases this with rfl | rfl | rfl | rfl | rfl | rfl | rfl | rfl | rfl | rfl | rfl | rfl | rfl | rfl | rfl | rfl | rfl <;> decide +kernel

theorem ofC_shape {x : CD} (hx : CDOk x) : shapeErr (ofC x) = 0 := by
  have hl := nodes4_len hx
  have h5 := nodes5_len hx
  have hg := nodes5_good hx
  have hN : (ofC x).nodes.l = nodes5 x := rfl
  have hmods : ∀ b, Byt b → 0 ≤ b.tmod (nodes4 x).length ∧ b.tmod (nodes4 x).length < (nodes5 x).length := fun b hb => by
    have := tmod_lt (n := (nodes4 x).length) hb.1 (by omega); omega
  have hout : ∀ n, 0 ≤ n ∧ n < ((nodes5 x).length : Int) → outP (ofC x) n = false := fun n h => by simp [outP, hN]; omega
  have hnode : ∀ y ∈ nodes5 x, nodeErr (ofC x) y = 0 := by
    intro y hy
    obtain ⟨i, hi, rfl⟩ := List.getElem_of_mem hy
    have hn := hg i hi
    unfold nodeErr
    rw [if_neg (by have := hn.k; omega), if_neg (by have := hn.f; omega)]
    have h1 : (nodes5 x)[i].inn.l.any (outP (ofC x)) = false := List.any_eq_false.2 fun p hp => by rw [hout p (hn.inn p hp)]; simp
    rw [h1]
    have h2 : ¬ ((nodes5 x)[i].k = 13 ∧ (nodes5 x)[i].inn.l.any (notTri (ofC x)) = true) := by
      rintro ⟨hk, ha⟩
      obtain ⟨p, hp, hq⟩ := List.any_eq_true.1 ha
      have := hn.bus hk p hp
      simp [notTri, hN] at hq
      rw [List.getD_eq_getElem?_getD] at this
      exact hq this
    rw [if_neg (by simp), if_neg h2]
    have h3 : bitOk (ofC x) (nodes5 x)[i] = true := by
      unfold bitOk
      by_cases hk : (nodes5 x)[i].k = 15
      · obtain ⟨hm, e1, e2, e3⟩ := hn.mm.2 hk
        simp only [hk, ne_eq, not_true_eq_false, if_false, decide_eq_true_eq]
        simp [ofC, memM, hm, e1]
        omega
      · have := hn.mm.1 hk
        simp [hk, this]
    rw [h3]; simp
  unfold shapeErr
  have e1 : ¬ (16384 < (ofC x).nodes.l.length ∨ 16 < (ofC x).mems.l.length ∨ 16384 < (ofC x).outs.l.length) := by
    have : (ofC x).mems.l.length ≤ 1 := by simp only [ofC, memM]; split <;> simp
    have : (ofC x).outs.l.length ≤ 4 := by simp [ofC]; omega
    rw [hN]; omega
  have e2 : (ofC x).names.l.length = (ofC x).nodes.l.length := by rw [hN]; simp [ofC]; omega
  rw [if_neg e1, if_neg (by simp [e2]), if_neg (by rw [hN, firstErr_all hnode]; simp), if_neg (by
    rw [show (ofC x).names.l = (List.range' 0 (nodes4 x).length).map nameL from rfl, names_fine _ hl.2]; simp), if_neg (by
    rw [firstErr_all]
    · simp
    · intro m hm
      simp only [ofC, memM] at hm
      split at hm
      · simp at hm; subst hm
        unfold memErr
        have a0 := hout _ (hmods _ hx.p0)
        have a1 := hout _ (hmods _ hx.p1)
        have a2 := hout _ (hmods _ hx.p2)
        have a3 := hout _ (hmods _ hx.p3)
        simp [memOut, a0, a1, a2, a3]
      · cases hm)]
  have ho : (ofC x).outs.l.any (outP (ofC x)) = false := by
    refine List.any_eq_false.2 fun p hp => ?_
    have : 0 ≤ p ∧ p < ((nodes5 x).length : Int) := by
      simp only [ofC, List.mem_append, List.mem_map, List.mem_singleton] at hp
      rcases hp with ⟨b, hb, rfl⟩ | rfl
      · exact hmods b (hx.outs b (List.mem_of_mem_take hb))
      · omega
    rw [hout p this]; simp
  rw [ho]; rfl

/-- Every circuit of plain data is valid. -/
theorem ofC_valid {x : CD} (hx : CDOk x) : levErr (ofC x) = 0 := by
  have hs := ofC_shape hx
  have hg := nodes5_good hx
  have hN : (ofC x).nodes.l = nodes5 x := rfl
  have hin : ∀ y ∈ (ofC x).nodes.l, ∀ p ∈ y.inn.l, 0 ≤ p ∧ p < (ofC x).nodes.l.length := by
    intro y hy p hp
    rw [hN] at hy ⊢
    obtain ⟨i, hi, rfl⟩ := List.getElem_of_mem hy
    exact (hg i hi).inn p hp
  have hd := levels_done (ofC x) (shape_facts hs).2.1 hin (by
    intro i hi hc p hp
    rw [hN] at hi
    have e : (ofC x).nodes.l.getD i Nd.d = (nodes5 x)[i] := by rw [hN]; simp [List.getD_eq_getElem?_getD, hi]
    simp only [kindAt, innAt, e] at hc hp
    exact (hg i hi).top (by simpa [combB] using hc) p hp)
  unfold levErr
  rw [if_neg (by simp [hs]), if_neg hd]

theorem ofC_plain {x : CD} (hx : CDOk x) (hm : x.mem = false) : plainErr (ofC x) = 0 := by
  have hv := ofC_valid hx
  have hg := nodes5_good hx
  have h1 : (ofC x).mems.l = [] := by simp [ofC, memM, hm]
  have h2 : mems (ofC x) = [] := by
    refine List.eq_nil_iff_forall_not_mem.2 fun n hn => ?_
    obtain ⟨a, b, h3⟩ := ofL_kind [15] (ofC x).nodes.l 0 n hn
    have hi : n.toNat < (nodes5 x).length := by have : (ofC x).nodes.l = nodes5 x := rfl; rw [this] at b; omega
    have hk : (nodes5 x)[n.toNat].k = 15 := by
      have : (ofC x).nodes.l = nodes5 x := rfl
      rw [this] at h3
      simpa [List.getD_eq_getElem?_getD, hi] using h3
    have := ((hg _ hi).mm.2 hk).1
    rw [hm] at this; cases this
  unfold plainErr
  rw [if_neg (by simp [hv]), h1, h2]; simp
end Go.Lg

/- The abstract code of some functions, as the program gen.py prints it. Conditions: none. -/
set_option linter.unusedVariables false
namespace Go.Lg
open Go
section
variable {P : Program} {Γ : Tables} {Q : AX → St → Prop} {s : St}
/- probecard/scans.Check (function 32) -/
abbrev scans_Check_g0 : IC := .gh (.seq (.reg [od 32 (.bin .lss (tm 31) (tm 30))] [kp [2, 6, 20, 21, 22, 29, 30, 31, 32] [19]]) (.seq (.cond (tm 32) .skip (.exit 2)) (.seq (.block 3 (.seq (.reg [od 33 (ia 1 29 31), od 34 (ld 1 33), om 10 34] [kp [2, 6, 10, 20,
 21, 22, 29, 30, 31] [19]]) (.seq (.seq (.reg [om 35 10, od 36 (.bin .lss (tm 35) (ki 0)), om 37 36, oF 38 (.mv (tm 10)) 37, oF 39 (fa 0 2) 37, oF 40 (ld 1 39) 37, oF 41 (le 0 40) 37, oF 42 (.bin .geq (tm 38) (tm 41)) 37, od 43
 (.pick (tm 37) kT (tm 42)), om 44 43, oF 45 (fa 0 2) 44, oF 46 (ld 1 45) 44, oF 47 (.mv (tm 10)) 44, oF 48 (ia 4 46 47) 44, oF 49 (fa 0 48) 44, oF 50 (ld 1 49) 44, oF 51 (.bin .neq (tm 50) (ku 14)) 44, od 52 (.pick (tm 44) kT (tm
 51)), om 53 52, oF 54 (.mv (tm 6)) 53, oF 55 (.mv (tm 10)) 53, oF 56 (.lkup (.int .i64) (.bool false) false (tm 54) (tm 55)) 53, od 57 (.pick (tm 53) kT (tm 56))] [kp [2, 6, 10, 20, 21, 22, 29, 30, 31, 57] [19]]) (.cond (tm 57)
 (.seq (.reg [od 4 (.mv (ki 1))] [kp [4] []]) .ret) .skip)) (.reg [om 58 6, om 59 10, on (.mup (.int .i64) (tm 58) (tm 59) kT)] [kp [2, 6, 20, 21, 22, 29, 30, 31] [19]])))) (.reg [od 60 (.bin .add (tm 31) (ki 1)), om 31 60] [kp [2,
 6, 20, 21, 22, 29, 30, 31] [19]])))) [kp [2, 6, 20, 21, 22, 29, 30, 31] [19]]
def scans_Check_l1 : IC := .loop scans_Check_g0
abbrev scans_Check_g2 : IC := .gh (.seq (.reg [od 23 (.bin .lss (tm 22) (tm 21))] [kp [2, 6, 20, 21, 22, 23] [19]]) (.seq (.cond (tm 23) .skip (.exit 0)) (.seq (.block 1 (.seq (.reg [od 24 (ia 1 20 22), od 25 (ld 1 24), om 8 25] [kp [2, 6, 8, 20, 21, 22] [19]])
 (.seq (.seq (.reg [om 26 8, od 27 (le 0 26), od 28 (.bin .eql (tm 27) (ki 0))] [kp [2, 6, 8, 20, 21, 22, 28] [19]]) (.cond (tm 28) (.seq (.reg [od 4 (.mv (ki 1))] [kp [4] []]) .ret) .skip)) (.seq (.reg [om 29 8, od 30 (le 0 29), od
 31 (.mv (ki 0))] [kp [2, 6, 20, 21, 22, 29, 30, 31] [19]]) (.block 2 scans_Check_l1))))) (.reg [od 61 (.bin .add (tm 22) (ki 1)), om 22 61] [kp [2, 6, 20, 21, 22] [19]])))) [kp [2, 6, 20, 21, 22] [19]]
def scans_Check_l3 : IC := .loop scans_Check_g2
abbrev scans_Check_ic : IC := (.seq (.reg [od 2 (.box true (tm 0)), od 4 (.mv (ki 0))] [kp [1, 2] []]) (.seq (.seq (.reg [od 11 (lG 4 2), od 12 (.call 47 [(tm 11)]), om 5 12] [kp [1, 2, 5] []]) (.seq (.reg [om 13 5, od 14 (.bin .neq (tm 13) (ki 0))] [kp [1, 2,
 5, 14] []]) (.cond (tm 14) (.seq (.reg [om 15 5, om 4 15] [kp [4] []]) .ret) .skip))) (.seq (.seq (.reg [om 16 1, od 17 (le 0 16), od 18 (.bin .gtr (tm 17) (ki 64))] [kp [1, 2, 18] []]) (.cond (tm 18) (.seq (.reg [od 4 (.mv (ki
 3))] [kp [4] []]) .ret) .skip)) (.seq (.reg [od 19 (.mkmap), om 6 19] [kp [1, 2, 6] [19]]) (.seq (.seq (.reg [om 20 1, od 21 (le 0 20), od 22 (.mv (ki 0))] [kp [2, 6, 20, 21, 22] [19]]) (.block 0 scans_Check_l3)) (.seq (.seq (.reg
 [om 62 6, od 63 (le 2 62), od 64 (lG 4 2), od 65 (.call 12 [(tm 64)]), od 66 (le 0 65), od 67 (.bin .neq (tm 63) (tm 66))] [kp [67] []]) (.cond (tm 67) (.seq (.reg [od 4 (.mv (ki 8))] [kp [4] []]) .ret) .skip)) (.seq (.reg [od 4
 (.mv (ki 0))] [kp [4] []]) .ret)))))))
theorem scans_Check_l1_run (h : ∀ K : St → Prop, K = run P Γ scans_Check_l1 Q → run P Γ scans_Check_g0 (thenX K Q) s) : run P Γ scans_Check_l1 Q s := run_loop h
theorem scans_Check_l3_run (h : ∀ K : St → Prop, K = run P Γ scans_Check_l3 Q → run P Γ scans_Check_g2 (thenX K Q) s) : run P Γ scans_Check_l3 Q s := run_loop h
def scans_Check_rv : List RV := [.tmp 4]
end
end Go.Lg

/- The abstract code is that of the program (by the kernel). Conditions: none. -/
namespace Go.Lg
open Go Go.Proofs
theorem scans_Check_chk : chkF Tryd.prog 32 scans_Check_ic 68 2 scans_Check_rv = true := by kernel_rfl
end Go.Lg

/- scans.Check. Conditions: none. -/
set_option linter.unusedSimpArgs false
set_option linter.unusedVariables false
set_option maxRecDepth 100000
namespace Go.Lg
open Go Go.Proofs
variable {Γ : Tables}

def seenI (l : List Int) : List (Value × T) := l.map fun n => (.int .i64 n, tB true)
theorem seenI_find (x : Int) : ∀ l : List Int, findM (.int .i64 x) (seenI l) = if x ∈ l then some (tB true) else none
  | [] => rfl
  | y :: l => by
    have ih := seenI_find x l
    simp only [seenI, List.map_cons, findM, keyEq, int_beq] at ih ⊢
    by_cases h : x = y
    · simp [h]
    · simp [h, ih]
theorem seenI_set (x : Int) : ∀ l : List Int, x ∉ l → setM (.int .i64 x) (tB true) (seenI l) = seenI (l ++ [x])
  | [], _ => rfl
  | y :: l, h => by
    have ih := seenI_set x l (fun hm => h (List.mem_cons_of_mem _ hm))
    have hne : x ≠ y := fun e => h (by simp [e])
    simp only [seenI, List.map_cons, setM, keyEq, int_beq, List.cons_append] at ih ⊢
    simp [hne, ih]
theorem seenI_fit (l : List Int) : keysFit (.int .i64) (seenI l) := by
  intro e he; obtain ⟨s, _, rfl⟩ := List.mem_map.1 he; rfl
theorem seenI_len (l : List Int) : (seenI l).length = l.length := by simp [seenI]

def elemBad (c : Cir) (done : List Int) (n : Int) : Bool := decide (n < 0 ∨ (c.nodes.l.length : Int) ≤ n ∨ kindAt c n.toNat ≠ 14 ∨ n ∈ done)
def goElems (c : Cir) : List Int → List Int → Option (List Int)
  | done, [] => some done
  | done, n :: l => if elemBad c done n then none else goElems c (done ++ [n]) l
def goChains (c : Cir) : List Int → List (Sl Int) → Option (List Int)
  | done, [] => some done
  | done, s :: l => if s.l = [] then none else (goElems c done s.l).bind fun d => goChains c d l

theorem elems_loop {Q : AX → St → Prop} (c : Cir) (hn : c.nodes.l.length ≤ 1000000000) (chs : T) (a21 a22 : T) (s : Sl Int) (hs : s.l.length ≤ 1000000000) (R : Option (List Int))
    (h0 : ∀ d, R = some d → Q (.exit 2) ⟨[(2, .t (.ip (tC c) 0)), (6, .lm 19), (20, .t chs), (21, .t a21), (22, .t a22), (29, .t (tSl s)), (30, .t (tI s.l.length)), (31, .t (tI s.l.length)), (32, .t (tB false))], [(19, .mp (seenI d))]⟩)
    (h1 : R = none → Q .ret ⟨[(4, .t (tI 1))], []⟩) : ∀ (kk k : Nat) (done : List Int), kk + k = s.l.length → goElems c done (s.l.drop k) = R →
    run Tryd.prog Γ scans_Check_l1 Q ⟨[(2, .t (.ip (tC c) 0)), (6, .lm 19), (20, .t chs), (21, .t a21), (22, .t a22), (29, .t (tSl s)), (30, .t (tI s.l.length)), (31, .t (tI k))], [(19, .mp (seenI done))]⟩
  | 0, k, done, h, hR => by
    refine scans_Check_l1_run fun K hK => ?_
    have h2 : ¬ k < s.l.length := by omega
    have h3 : k = s.l.length := by omega
    simp [h2]
    subst h3
    rw [List.drop_of_length_le (Nat.le_refl _)] at hR
    exact h0 _ hR.symm
  | kk + 1, k, done, h, hR => by
    refine scans_Check_l1_run fun K hK => ?_
    have h2 : k < s.l.length := by omega
    rw [List.drop_eq_getElem_cons h2] at hR
    simp only [goElems] at hR
    have hfit := seenI_fit done
    generalize hx : s.l[k] = n at hR
    by_cases b1 : n < 0
    · rw [if_pos (show elemBad c done n = true by simp [elemBad, b1])] at hR
      simp (disch := omega) [h2, tSl, enc1_len, enc1_get (0 : Int), enc1_wid, hx, b1]
      exact h1 hR.symm
    by_cases b2 : (c.nodes.l.length : Int) ≤ n
    · rw [if_pos (show elemBad c done n = true by simp [elemBad, b2])] at hR
      simp (disch := omega) [h2, tSl, enc1_len, enc1_get (0 : Int), enc1_wid, hx, b1, b2, tC, tNodes, encN_len]
      exact h1 hR.symm
    have hj : n.toNat < c.nodes.l.length := by omega
    have hk : kindAt c n.toNat = c.nodes.l[n.toNat].k := by simp [kindAt, hj]
    by_cases b3 : c.nodes.l[n.toNat].k = 14
    case neg =>
      rw [if_pos (show elemBad c done n = true by simp [elemBad, hk, b3])] at hR
      simp (disch := omega) [h2, tSl, enc1_len, enc1_get (0 : Int), enc1_wid, hx, b1, b2, tC, tNodes, encN_len, encN_get Nd.d, tNd_wid, tNd, hj, b3]
      exact ⟨by omega, h1 hR.symm⟩
    by_cases b4 : n ∈ done
    · rw [if_pos (show elemBad c done n = true by simp [elemBad, b4])] at hR
      simp (disch := omega) [h2, tSl, enc1_len, enc1_get (0 : Int), enc1_wid, hx, b1, b2, tC, tNodes, encN_len, encN_get Nd.d, tNd_wid, tNd, hj, b3, KT.fits, hfit, seenI_find, b4]
      exact ⟨by omega, h1 hR.symm⟩
    rw [if_neg (show ¬ elemBad c done n = true by simp [elemBad, b1, b2, hk, b3, b4])] at hR
    simp (disch := omega) [h2, tSl, enc1_len, enc1_get (0 : Int), enc1_wid, hx, b1, b2, tC, tNodes, encN_len, encN_get Nd.d, tNd_wid, tNd, hj, b3, KT.fits, hfit, seenI_find, b4, seenI_set, wrap_i64]
    refine ⟨by omega, ?_⟩
    rw [hK]
    have := elems_loop c hn chs a21 a22 s hs R h0 h1 kk (k + 1) (done ++ [n]) (by omega) hR
    simpa [tSl, tC, tNodes] using this

theorem chains_loop {Q : AX → St → Prop} (c : Cir) (hn : c.nodes.l.length ≤ 1000000000) (chs : Sl (Sl Int)) (hl : chs.l.length ≤ 1000000000) (hs : ∀ s ∈ chs.l, s.l.length ≤ 1000000000) (R : Option (List Int))
    (h0 : ∀ d, R = some d → Q (.exit 0) ⟨[(2, .t (.ip (tC c) 0)), (6, .lm 19), (20, .t (tChs chs)), (21, .t (tI chs.l.length)), (22, .t (tI chs.l.length)), (23, .t (tB false))], [(19, .mp (seenI d))]⟩)
    (h1 : R = none → Q .ret ⟨[(4, .t (tI 1))], []⟩) : ∀ (kk k : Nat) (done : List Int), kk + k = chs.l.length → goChains c done (chs.l.drop k) = R →
    run Tryd.prog Γ scans_Check_l3 Q ⟨[(2, .t (.ip (tC c) 0)), (6, .lm 19), (20, .t (tChs chs)), (21, .t (tI chs.l.length)), (22, .t (tI k))], [(19, .mp (seenI done))]⟩
  | 0, k, done, h, hR => by
    refine scans_Check_l3_run fun K hK => ?_
    have h2 : ¬ k < chs.l.length := by omega
    have h3 : k = chs.l.length := by omega
    simp [h2]
    subst h3
    rw [List.drop_of_length_le (Nat.le_refl _)] at hR
    exact h0 _ hR.symm
  | kk + 1, k, done, h, hR => by
    refine scans_Check_l3_run fun K hK => ?_
    have h2 : k < chs.l.length := by omega
    have hsl := hs _ (List.getElem_mem h2)
    rw [List.drop_eq_getElem_cons h2] at hR
    simp only [goChains] at hR
    by_cases he : chs.l[k].l = []
    · rw [if_pos he] at hR
      simp (disch := omega) [h2, tChs, enc1_len, enc1_get Sl.d, enc1_wid, tSl, he, enc1_nil]
      exact h1 hR.symm
    rw [if_neg he] at hR
    have he' : ¬ chs.l[k].l.length = 0 := fun e => he (List.eq_nil_of_length_eq_zero e)
    simp (disch := omega) [h2, tChs, enc1_len, enc1_get Sl.d, enc1_wid, tSl, he, he']
    refine elems_loop c hn (.sl (enc1 tSl chs.l) chs.cap chs.nl) (tI chs.l.length) (tI k) chs.l[k] hsl (goElems c done chs.l[k].l) (fun d hd => ?_) (fun hd => ?_) chs.l[k].l.length 0 done (by omega) rfl
    · rw [hd] at hR
      simp (disch := omega) [wrap_i64]
      rw [hK]
      have := chains_loop c hn chs hl hs R h0 h1 kk (k + 1) d (by omega) hR
      simpa [tChs] using this
    · rw [hd] at hR
      simp
      exact h1 hR.symm

def checkErr (c : Cir) (chs : List (Sl Int)) : Int :=
  if plainErr c ≠ 0 then plainErr c else if 64 < chs.length then 3 else match goChains c [] chs with
    | none => 1
    | some d => if d.length ≠ (states c).length then 8 else 0

theorem scheck_spec (hΓ : GOk Γ) (c : Cir) (hc : COk c) (chs : Sl (Sl Int)) (hl : chs.l.length ≤ 1000000000) (hs : ∀ s ∈ chs.l, s.l.length ≤ 1000000000) : FreshCalls Tryd.prog Γ 32 [.agg (tC c), tChs chs] (tI (checkErr c chs.l)) := by
  refine run_freshQ scans_Check_chk rfl ?_
  simp [scans_Check_ic, tC, tNodes, tNames, tMems, tSl]
  refine callK_fresh (plain_spec hΓ c hc) rfl ?_
  by_cases h1 : plainErr c = 0
  case neg =>
    have : checkErr c chs.l = plainErr c := by unfold checkErr; rw [if_pos h1]
    simp [h1, scans_Check_rv, this]
  have hp : checkErr c chs.l = if 64 < chs.l.length then 3 else match goChains c [] chs.l with
    | none => 1
    | some d => if d.length ≠ (states c).length then 8 else 0 := by unfold checkErr; rw [if_neg (show ¬ (plainErr c ≠ 0) by simp [h1])]
  by_cases h2 : 64 < chs.l.length
  · rw [if_pos h2] at hp
    have h2' : (64 : Int) < chs.l.length := by omega
    simp [h1, tChs, enc1_len, h2', scans_Check_rv, hp]
  rw [if_neg h2] at hp
  have h2' : ¬ (64 : Int) < chs.l.length := by omega
  simp [h1, tChs, enc1_len, h2']
  refine chains_loop c hc.nodes chs hl hs (goChains c [] chs.l) (fun d hd => ?_) (fun hd => ?_) chs.l.length 0 [] (by omega) rfl
  case refine_2 =>
    rw [hd] at hp
    simp [scans_Check_rv, hp]
  rw [hd] at hp
  simp only at hp
  simp [seenI_len, tC, tNodes, tNames, tMems, tSl]
  refine callK_pure (states_spec c hc) rfl ?_
  by_cases h3 : d.length = (states c).length
  · rw [if_neg (show ¬ (d.length ≠ (states c).length) by simp [h3])] at hp
    simp [enc1_len, h3, scans_Check_rv, hp]
  · rw [if_pos h3] at hp
    have h3' : ¬ (d.length : Int) = (states c).length := by omega
    simp [enc1_len, h3, h3', scans_Check_rv, hp]
end Go.Lg

/- abs, length, Reverse. Conditions: none. -/
set_option linter.unusedSimpArgs false
set_option linter.unusedVariables false
set_option maxRecDepth 100000
namespace Go.Lg
open Go Go.Proofs
variable {Γ : Tables}

abbrev Pnt := Int × Int
def atOf (l : List (Int × Pnt)) (n : Int) : Pnt := match l.find? (fun p => p.1 == n) with | some p => p.2 | none => (0, 0)
def Small (l : List (Int × Pnt)) : Prop := ∀ p ∈ l, -1000000 ≤ p.2.1 ∧ p.2.1 ≤ 1000000 ∧ -1000000 ≤ p.2.2 ∧ p.2.2 ≤ 1000000
theorem Small.at {l : List (Int × Pnt)} (h : Small l) (n : Int) : -1000000 ≤ (atOf l n).1 ∧ (atOf l n).1 ≤ 1000000 ∧ -1000000 ≤ (atOf l n).2 ∧ (atOf l n).2 ≤ 1000000 := by
  unfold atOf
  split
  · rename_i p hp
    exact h p (List.mem_of_find?_eq_some hp)
  · simp
end Go.Lg

/- placed and Length. Conditions: none. -/
set_option linter.unusedSimpArgs false
set_option linter.unusedVariables false
set_option maxRecDepth 100000
namespace Go.Lg
open Go Go.Proofs
variable {Γ : Tables}

theorem states_nodup (c : Cir) : (states c).Nodup := (ofL_nodup _ _ _).2

end Go.Lg

/- Shorten, Balance. Conditions: none. -/
set_option linter.unusedSimpArgs false
set_option linter.unusedVariables false
set_option maxRecDepth 100000
namespace Go.Lg
open Go Go.Proofs
variable {Γ : Tables}

theorem states_len (c : Cir) : (states c).length ≤ c.nodes.l.length := ofL_len _ _ _

end Go.Lg

/- ScansBalance: the plain law. Conditions: none. -/
set_option linter.unusedSimpArgs false
set_option linter.unusedVariables false
set_option maxRecDepth 100000
namespace Go.Lg
open Go Go.Proofs
variable {Γ : Tables}

def elems (l : List (Sl Int)) : List Int := (l.map fun s => s.l).flatten
theorem elems_nil : elems [] = [] := rfl
theorem elems_cons {s : Sl Int} {l : List (Sl Int)} : elems (s :: l) = s.l ++ elems l := rfl

/-- Chains of different good nodes are accepted. -/
theorem goElems_ok {c : Cir} : ∀ {l done : List Int}, (∀ n ∈ l, 0 ≤ n ∧ n < c.nodes.l.length ∧ kindAt c n.toNat = 14) → l.Nodup → (∀ n ∈ l, n ∉ done) → goElems c done l = some (done ++ l)
  | [], done, _, _, _ => by simp [goElems]
  | n :: l, done, h, hn, hd => by
    have h0 := h n List.mem_cons_self
    have hb : ¬ elemBad c done n = true := by
      simp [elemBad, h0.2.2, hd n List.mem_cons_self]; omega
    simp only [goElems, if_neg hb]
    rw [goElems_ok (fun m hm => h m (List.mem_cons_of_mem _ hm)) (List.nodup_cons.1 hn).2 (fun m hm he => by
      rcases List.mem_append.1 he with he | he
      · exact hd m (List.mem_cons_of_mem _ hm) he
      · simp at he; subst he; exact (List.nodup_cons.1 hn).1 hm)]
    simp
theorem goChains_ok {c : Cir} : ∀ {l : List (Sl Int)} {done : List Int}, (∀ s ∈ l, s.l ≠ []) → (∀ n ∈ elems l, 0 ≤ n ∧ n < c.nodes.l.length ∧ kindAt c n.toNat = 14) → (elems l).Nodup → (∀ n ∈ elems l, n ∉ done) → goChains c done l = some (done ++ elems l)
  | [], done, _, _, _, _ => by simp [goChains, elems_nil]
  | s :: l, done, hne, h, hn, hd => by
    simp only [elems_cons] at h hn hd ⊢
    have hn' := List.nodup_append.1 hn
    simp only [goChains, if_neg (hne s List.mem_cons_self)]
    rw [goElems_ok (fun n hm => h n (List.mem_append_left _ hm)) hn'.1 (fun n hm => hd n (List.mem_append_left _ hm)), Option.bind_some]
    rw [goChains_ok (fun t ht => hne t (List.mem_cons_of_mem _ ht)) (fun n hm => h n (List.mem_append_right _ hm)) hn'.2.1 (fun n hm he => by
      rcases List.mem_append.1 he with he | he
      · exact hd n (List.mem_append_right _ hm) he
      · exact hn'.2.2 n he n hm rfl)]
    simp

theorem states_good {c : Cir} : ∀ n ∈ states c, 0 ≤ n ∧ n < c.nodes.l.length ∧ kindAt c n.toNat = 14 := by
  intro n hn
  obtain ⟨h1, h2, h3⟩ := ofL_kind [14] c.nodes.l 0 n hn
  refine ⟨by omega, by omega, ?_⟩
  simpa [kindAt] using h3

end Go.Lg

/- Shortening: the plain law. Conditions: none. -/
set_option linter.unusedSimpArgs false
set_option linter.unusedVariables false
set_option maxRecDepth 100000
namespace Go.Lg
open Go Go.Proofs

/-- Complete chains in any order are accepted. -/
theorem check_perm {c : Cir} {chs : List (Sl Int)} (hp : plainErr c = 0) (h64 : chs.length ≤ 64) (hne : ∀ s ∈ chs, s.l ≠ []) (hperm : (elems chs).Perm (states c)) : checkErr c chs = 0 := by
  have hg := goChains_ok (c := c) (l := chs) (done := []) hne (fun n hn => states_good n (hperm.mem_iff.1 hn)) (hperm.nodup_iff.2 (states_nodup c)) (by simp)
  unfold checkErr
  rw [if_neg (by simp [hp]), if_neg (by omega), hg]
  simp [hperm.length_eq]

end Go.Lg

/- The abstract code of some functions, as the program gen.py prints it. Conditions: none. -/
set_option linter.unusedVariables false
namespace Go.Lg
open Go
section
variable {P : Program} {Γ : Tables} {Q : AX → St → Prop} {s : St}
/- (probecard/probecardlaw34.Case).Of (function 5) -/
abbrev law34_Case_Of_ic : IC := (.seq (.reg [od 1 (.box false (tm 0)), od 2 (.alloc false [(.slice none 0 0), (.slice none 0 0), (.slice none 0 0), (.slice none 0 0)]), od 3 (.mv kN)] [kp [1, 2] [1, 2]]) (.seq (.reg [od 5 (fa 0 1), od 6 (fa 5 5), on (.store 1 (tm
 6) kF)] [kp [1, 2] [1, 2]]) (.seq (.reg [od 7 (fa 0 1), od 8 (lG 12 7), od 9 (.call 13 [(tm 8)]), od 4 (.alloc false [(.slice none 0 0), (.slice none 0 0), (.slice none 0 0), (.slice none 0 0)]), on (.store 4 (tm 4) (tm 9))] [kp
 [1, 2, 4] [1, 2, 4]]) (.seq (.reg [od 10 (.ldR 4 4 true (tm 4)), od 11 (.ldR 4 4 true (tm 4)), od 12 (fa 12 1), od 13 (.ldR 1 1 false (tm 12)), od 14 (fa 13 1), od 15 (.ldR 1 1 false (tm 14)), od 16 (.call 14 [(tm 11), (tm 13), (tm
 15)]), on (.stR 2 4 (tm 2) (tm 10)), om 3 16] [kp [2, 3] [2]]) .ret))))
def law34_Case_Of_rv : List RV := [.cell 2 4 true, .tmp 3]

/- probecard/probecardlaw34.Chains (function 14) -/
abbrev law34_Chains_g0 : IC := .gh (.seq (.seq (.reg [om 16 8, om 17 7, od 18 (le 0 17), od 19 (.bin .lss (tm 16) (tm 18)), om 20 19, oT 21 (.mv (tm 8)) 20, oT 22 (.mv (tm 1)) 20, oT 23 (le 0 22) 20, oT 24 (.bin .lss (tm 21) (tm 23)) 20, od 25 (.pick (tm 20) (tm
 24) kF)] [kp [1, 2, 7, 8, 25] [15]]) (.cond (tm 25) .skip (.exit 0))) (.seq (.block 1 (.seq (.reg [om 28 8, om 29 1, om 30 8, od 31 (ia 1 29 30), od 32 (ld 1 31), od 33 (.conv .i64 (tm 32)), om 34 7, od 35 (le 0 34), om 36 8, od 37
 (.bin .sub (tm 35) (tm 36)), od 38 (.bin .rem (tm 33) (tm 37)), od 39 (.bin .add (tm 28) (tm 38)), om 9 39] [kp [1, 2, 7, 8, 9] [15]]) (.reg [om 40 7, om 41 8, om 42 7, om 43 9, om 44 7, om 45 9, od 46 (ia 1 44 45), od 47 (.ldR 15
 1 false (tm 46)), om 48 7, om 49 8, od 50 (ia 1 48 49), od 51 (.ldR 15 1 false (tm 50)), od 52 (ia 1 40 41), on (.stR 15 1 (tm 52) (tm 47)), od 53 (ia 1 42 43), on (.stR 15 1 (tm 53) (tm 51))] [kp [1, 2, 7, 8] [15]]))) (.reg [om 26
 8, od 27 (.bin .add (tm 26) (ki 1)), om 8 27] [kp [1, 2, 7, 8] [15]]))) [kp [1, 2, 7, 8] [15]]
def law34_Chains_l1 : IC := .loop law34_Chains_g0
abbrev law34_Chains_g2 : IC := .gh (.seq (.seq (.reg [om 54 11, om 55 2, od 56 (le 0 55), od 57 (.bin .lss (tm 54) (tm 56)), om 58 57, oT 59 (.mv (tm 7)) 58, oT 60 (le 0 59) 58, oT 61 (.bin .gtr (tm 60) (ki 0)) 58, od 62 (.pick (tm 58) (tm 61) kF)] [kp [2, 7,
 10, 11, 62] [15, 80]]) (.cond (tm 62) .skip (.exit 2))) (.seq (.block 3 (.seq (.reg [om 65 2, om 66 11, od 67 (ia 1 65 66), od 68 (ld 1 67), od 69 (.conv .i64 (tm 68)), om 70 7, od 71 (le 0 70), od 72 (.bin .rem (tm 69) (tm 71)),
 od 73 (.bin .add (ki 1) (tm 72)), om 12 73] [kp [2, 7, 10, 11, 12] [15, 80]]) (.seq (.reg [om 74 10, om 75 7, om 76 12, od 77 (.slice 1 (tm 75) none (some (tm 76)) none), od 78 (.appT 3 1 kN (tm 77)), od 79 (.bsl true 35 1 [(tm
 78)]), od 80 (.app false 35 1 (tm 74) (tm 79)), om 10 80] [kp [2, 7, 10, 11, 12] [15, 80]]) (.reg [om 81 7, om 82 12, od 83 (.slice 1 (tm 81) (some (tm 82)) none none), om 7 83] [kp [2, 7, 10, 11] [15, 80]])))) (.reg [om 63 11, od
 64 (.bin .add (tm 63) (ki 1)), om 11 64] [kp [2, 7, 10, 11] [15, 80]]))) [kp [2, 7, 10, 11] [15, 80]]
def law34_Chains_l3 : IC := .loop law34_Chains_g2
abbrev law34_Chains_ic : IC := (.seq (.reg [od 3 (.box true (tm 0)), od 6 (.mv kN)] [kp [1, 2, 3] []]) (.seq (.reg [od 13 (lG 4 3), od 14 (.call 12 [(tm 13)]), od 15 (.app false 3 1 kN (tm 14)), om 7 15] [kp [1, 2, 7] [15]]) (.seq (.seq (.reg [od 8 (.mv (ki 0))]
 [kp [1, 2, 7, 8] [15]]) (.block 0 law34_Chains_l1)) (.seq (.reg [od 10 (.mv kN)] [.nl 10 80 35 1, kp [2, 7, 10] [15, 80]]) (.seq (.seq (.reg [od 11 (.mv (ki 0))] [kp [2, 7, 10, 11] [15, 80]]) (.block 2 law34_Chains_l3)) (.seq (.seq
 (.reg [om 84 7, od 85 (le 0 84), od 86 (.bin .gtr (tm 85) (ki 0))] [kp [7, 10, 86] [15, 80]]) (.cond (tm 86) (.reg [om 87 10, om 88 7, od 89 (.appT 3 1 kN (tm 88)), od 90 (.bsl true 35 1 [(tm 89)]), oz 91 (.app false 35 1 (tm 87)
 (tm 90)) 80, om 10 91] [kp [10] [80]]) .skip)) (.seq (.reg [om 92 10, om 6 92] [kp [6] [80]]) .ret)))))))
theorem law34_Chains_l1_run (h : ∀ K : St → Prop, K = run P Γ law34_Chains_l1 Q → run P Γ law34_Chains_g0 (thenX K Q) s) : run P Γ law34_Chains_l1 Q s := run_loop h
theorem law34_Chains_l3_run (h : ∀ K : St → Prop, K = run P Γ law34_Chains_l3 Q → run P Γ law34_Chains_g2 (thenX K Q) s) : run P Γ law34_Chains_l3 Q s := run_loop h
def law34_Chains_rv : List RV := [.tmp 6]
end
end Go.Lg

/- The abstract code is that of the program (by the kernel). Conditions: none. -/
namespace Go.Lg
open Go Go.Proofs
theorem law34_Case_Of_chk : chkF Tryd.prog 5 law34_Case_Of_ic 17 1 law34_Case_Of_rv = true := by kernel_rfl
theorem law34_Chains_chk : chkF Tryd.prog 14 law34_Chains_ic 93 3 law34_Chains_rv = true := by kernel_rfl
end Go.Lg

/- turned, Places, Chains. Conditions: none. -/
set_option linter.unusedSimpArgs false
set_option linter.unusedVariables false
set_option maxRecDepth 100000
namespace Go.Lg
open Go Go.Proofs
variable {Γ : Tables}

def permS : Nat → Nat → List Int → List Int → List Int
  | 0, _, _, l => l
  | f + 1, i, keys, l => permS f (i + 1) keys (swapL l i (i + (keys.getD i 0).toNat % (l.length - i)))
def cutS : List Int → List Int → List (Sl Int)
  | [], l => if l = [] then [] else [⟨l, none, none⟩]
  | b :: cuts, l => if l = [] then [] else ⟨l.take (1 + b.toNat % l.length), none, none⟩ :: cutS cuts (l.drop (1 + b.toNat % l.length))

theorem permS_perm : ∀ (f i : Nat) (keys l : List Int), i + f ≤ l.length → (permS f i keys l).Perm l
  | 0, _, _, l, _ => List.Perm.refl l
  | f + 1, i, keys, l, h => by
    simp only [permS]
    have hm := Nat.mod_lt (keys.getD i 0).toNat (show 0 < l.length - i by omega)
    exact (permS_perm f (i + 1) keys _ (by rw [swapL_len]; omega)).trans (swapL_perm (by omega) (by omega))
theorem permS_len {f i : Nat} {keys l : List Int} (h : i + f ≤ l.length) : (permS f i keys l).length = l.length := (permS_perm f i keys l h).length_eq
theorem cutS_elems : ∀ (cuts l : List Int), elems (cutS cuts l) = l
  | [], l => by
    simp only [cutS]
    split
    · rename_i h; rw [h]; rfl
    · simp [elems]
  | b :: cuts, l => by
    simp only [cutS]
    split
    · rename_i h; rw [h]; rfl
    · rw [elems_cons, cutS_elems cuts]; exact List.take_append_drop _ _
theorem cutS_ne : ∀ (cuts l : List Int), ∀ s ∈ cutS cuts l, s.l ≠ [] ∧ s.nl ≠ some true
  | [], l, s, hs => by
    simp only [cutS] at hs
    split at hs
    · cases hs
    · rename_i h; simp at hs; subst hs; exact ⟨h, by simp⟩
  | b :: cuts, l, s, hs => by
    simp only [cutS] at hs
    split at hs
    · cases hs
    · rename_i h
      rcases List.mem_cons.1 hs with rfl | hs
      · refine ⟨fun e => ?_, by simp⟩
        have := congrArg List.length e
        have hp : 0 < l.length := List.length_pos_iff.2 h
        rw [List.length_take, List.length_nil] at this; omega
      · exact cutS_ne cuts _ s hs
theorem elems_le : ∀ (l : List (Sl Int)), (∀ s ∈ l, s.l ≠ []) → l.length ≤ (elems l).length ∧ ∀ s ∈ l, s.l.length ≤ (elems l).length
  | [], _ => by simp [elems_nil]
  | x :: l, h => by
    obtain ⟨h1, h2⟩ := elems_le l fun s hs => h s (List.mem_cons_of_mem _ hs)
    have h3 : 0 < x.l.length := List.length_pos_iff.2 (h x List.mem_cons_self)
    rw [elems_cons, List.length_append]
    refine ⟨by simp only [List.length_cons]; omega, fun s hs => ?_⟩
    rcases List.mem_cons.1 hs with rfl | hs
    · omega
    · have := h2 s hs; omega

theorem perm_loop {Q : AX → St → Prop} (keys : Sl Int) (hk : ∀ b ∈ keys.l, Byt b) (a2 : T) (n : Nat) (hn : n ≤ 1000000000) (R : List Int)
    (h0 : Q (.exit 0) ⟨[(1, .t (.sl (enc1 tK keys.l) keys.cap keys.nl)), (2, .t a2), (7, .ls 15 0 n none), (8, .t (tI (min n keys.l.length : Nat))), (25, .t (tB false))], [(15, .sl 3 1 (ints R))]⟩) : ∀ (k i : Nat) (l : List Int), k + i = min n keys.l.length → permS k i keys.l l = R → l.length = n →
    run Tryd.prog Γ law34_Chains_l1 Q ⟨[(1, .t (.sl (enc1 tK keys.l) keys.cap keys.nl)), (2, .t a2), (7, .ls 15 0 n none), (8, .t (tI i))], [(15, .sl 3 1 (ints l))]⟩
  | 0, i, l, h, hR, hl => by
    refine law34_Chains_l1_run fun K hK => ?_
    simp only [permS] at hR
    subst hR
    have hi : i = min n keys.l.length := by omega
    by_cases h2 : i < n
    · have h3 : ¬ i < keys.l.length := by omega
      simp (disch := omega) [h2, h3, enc1_len]
      subst hi
      simpa using h0
    · simp (disch := omega) [h2, enc1_len]
      subst hi
      simpa using h0
  | k + 1, i, l, h, hR, hl => by
    refine law34_Chains_l1_run fun K hK => ?_
    have h2 : i < n := by omega
    have h3 : i < keys.l.length := by omega
    simp only [permS] at hR
    have ih := perm_loop keys hk a2 n hn R h0 k (i + 1) _ (by omega) hR (by rw [swapL_len]; exact hl)
    have hget := enc1_get (f := tK) 0 h3
    have hkg : keys.l[i]?.getD 0 = keys.l.getD i 0 := by simp [List.getD_eq_getElem?_getD]
    rw [hkg] at hget
    have hmem : keys.l.getD i 0 ∈ keys.l := by rw [getD_eq h3]; exact List.getElem_mem h3
    obtain ⟨b0, b1⟩ := hk _ hmem
    generalize keys.l.getD i 0 = b at *
    rw [hl] at ih
    have hm := Nat.mod_lt b.toNat (show 0 < n - i by omega)
    have hne : ¬ ((n : Int) - i = 0) := by omega
    have hmod : b.tmod ((n : Int) - i) = ((b.toNat % (n - i) : Nat) : Int) := by
      have e1 : b = (b.toNat : Int) := by omega
      have e2 : ((n : Int) - i) = ((n - i : Nat) : Int) := by omega
      rw [e2, Int.natCast_emod, ← e1]; exact Int.tmod_eq_emod_of_nonneg (by omega)
    generalize b.toNat % (n - i) = q at *
    have hj : i + q < n := by omega
    have la : i < l.length := by omega
    have lb : i + q < l.length := by omega
    have ga : l[i]?.getD 0 = l.getD i 0 := by simp [List.getD_eq_getElem?_getD]
    have gb : l[i + q]?.getD 0 = l.getD (i + q) 0 := by simp [List.getD_eq_getElem?_getD]
    have e1 := enc1_get (f := tI) 0 la
    have e2 := enc1_get (f := tI) 0 lb
    rw [ga] at e1
    rw [gb] at e2
    have hs : ints (swapL l i (i + q)) = ((ints l).set i [tI (l.getD (i + q) 0)]).set (i + q) [tI (l.getD i 0)] := by
      show enc1 tI _ = ((enc1 tI l).set _ _).set _ _
      rw [enc1_set, enc1_set]; rfl
    rw [hs] at ih
    generalize l.getD i 0 = va at *
    generalize l.getD (i + q) 0 = vb at *
    have hiq : ((i : Int) + q).toNat = i + q := by omega
    have hiq2 : (i : Int) + q < n := by omega
    simp (disch := omega) [h2, h3, enc1_len, enc1_wid, hget, hl, hne, hmod, e1, e2, hiq, hiq2, hj, wrap_i64]
    refine ⟨by omega, ?_⟩
    rw [hK]
    simpa using ih

theorem cut_loop {Q : AX → St → Prop} (cuts : Sl Int) (hk : ∀ b ∈ cuts.l, Byt b) (L : List Int) (hL : L.length ≤ 1000000000) (R : List (Sl Int))
    (h0 : ∀ (i off len : Nat) (out : List (Sl Int)), out.length ≤ off → off + len = L.length → out ++ (if L.drop off = [] then [] else [⟨L.drop off, none, none⟩]) = R → Q (.exit 2) ⟨[(2, .t (.sl (enc1 tK cuts.l) cuts.cap cuts.nl)), (7, .ls 15 off len none), (10, .ls 80 0 out.length none), (11, .t (tI i)), (62, .t (tB false))], [(15, .sl 3 1 (ints L)), (80, .sl 35 1 (enc1 tSl out))]⟩) : ∀ (k i off len : Nat) (out : List (Sl Int)), k + i = cuts.l.length → off + len = L.length → out ++ cutS (cuts.l.drop i) (L.drop off) = R → out.length ≤ off → i = out.length →
    run Tryd.prog Γ law34_Chains_l3 Q ⟨[(2, .t (.sl (enc1 tK cuts.l) cuts.cap cuts.nl)), (7, .ls 15 off len none), (10, .ls 80 0 out.length none), (11, .t (tI i))], [(15, .sl 3 1 (ints L)), (80, .sl 35 1 (enc1 tSl out))]⟩
  | 0, i, off, len, out, h, ho, hR, hl, hio => by
    refine law34_Chains_l3_run fun K hK => ?_
    have h2 : ¬ i < cuts.l.length := by omega
    rw [List.drop_of_length_le (by omega)] at hR
    simp only [cutS] at hR
    simp [h2, enc1_len]
    exact h0 i off len out hl ho hR
  | k + 1, i, off, len, out, h, ho, hR, hl, hio => by
    refine law34_Chains_l3_run fun K hK => ?_
    have h2 : i < cuts.l.length := by omega
    by_cases hlen : len = 0
    · subst hlen
      have hd : L.drop off = [] := List.drop_of_length_le (by omega)
      rw [hd] at hR
      have hR' : out ++ (if L.drop off = [] then [] else [⟨L.drop off, none, none⟩]) = R := by
        rw [hd]
        rw [List.drop_eq_getElem_cons h2] at hR
        simpa [cutS] using hR
      simp [h2, enc1_len]
      exact h0 i off 0 out hl ho hR'
    have hdl : (L.drop off).length = len := by simp; omega
    have hdn : ¬ L.drop off = [] := fun e => by rw [e] at hdl; simp at hdl; omega
    rw [List.drop_eq_getElem_cons h2] at hR
    simp only [cutS, if_neg hdn, hdl] at hR
    have hget := enc1_get (f := tK) 0 h2
    have hkg : cuts.l[i]?.getD 0 = cuts.l[i] := by simp [h2]
    rw [hkg] at hget
    obtain ⟨b0, b1⟩ := hk _ (List.getElem_mem h2)
    generalize cuts.l[i] = b at *
    have hm := Nat.mod_lt b.toNat (show 0 < len by omega)
    have hne : ¬ (len : Int) = 0 := by omega
    have hmod : b.tmod (len : Int) = ((b.toNat % len : Nat) : Int) := by
      have e1 : b = (b.toNat : Int) := by omega
      rw [Int.natCast_emod, ← e1]; exact Int.tmod_eq_emod_of_nonneg (by omega)
    generalize b.toNat % len = q at *
    have ih := cut_loop cuts hk L hL R h0 k (i + 1) (off + (1 + q)) (len - (1 + q)) (out ++ [⟨(L.drop off).take (1 + q), none, none⟩]) (by omega) (by omega) (by rw [← hR, List.append_assoc, List.drop_drop]; rfl) (by simp; omega) (by simp; omega)
    have ht : ∀ n, (ints L).drop n = ints (L.drop n) := fun n => enc1_drop
    have ht2 : ∀ n (l : List Int), (ints l).take n = ints (l.take n) := fun n l => enc1_take
    have htk : (enc1 tSl out).take out.length = enc1 tSl out := List.take_of_length_le (by rw [enc1_len]; exact Nat.le_refl _)
    have hw : wid 1 [[T.sl (ints ((L.drop off).take (1 + q))) none none]] := by intro e he; simp at he; subst he; rfl
    have hsn : enc1 tSl out ++ [[T.sl (ints ((L.drop off).take (1 + q))) none none]] = enc1 tSl (out ++ [⟨(L.drop off).take (1 + q), none, none⟩]) := enc1_snoc (f := tSl) (x := ⟨(L.drop off).take (1 + q), none, none⟩)
    have hlt : 0 < len := by omega
    have hq1 : (1 + (q : Int)).toNat = 1 + q := by omega
    simp (disch := omega) [h2, enc1_len, enc1_wid, hget, hne, hlen, hlt, hmod, hq1, ht, ht2, htk, hw, hsn, wrap_i64]
    refine ⟨by omega, by omega, by omega, by omega, ?_⟩
    rw [hK]
    have hq1' : (1 : Int) + q = ((1 + q : Nat) : Int) := by omega
    simpa using ih
end Go.Lg

/- Chains of plain data. Conditions: none. -/
set_option linter.unusedSimpArgs false
set_option linter.unusedVariables false
set_option maxRecDepth 100000
namespace Go.Lg
open Go Go.Proofs
variable {Γ : Tables}

theorem Chains_spec (c : Cir) (hc : COk c) (keys cuts : Sl Int) (hk : ∀ b ∈ keys.l, Byt b) (hcu : ∀ b ∈ cuts.l, Byt b) :
    PureCalls Tryd.prog Γ 14 [.agg (tC c), .sl (enc1 tK keys.l) keys.cap keys.nl, .sl (enc1 tK cuts.l) cuts.cap cuts.nl] (tChs ⟨cutS cuts.l (permS (min (states c).length keys.l.length) 0 keys.l (states c)), none, none⟩) := by
  refine run_pureQ law34_Chains_chk rfl ?_
  have hsl := states_len c
  have hcn := hc.nodes
  have hpl := permS_len (f := min (states c).length keys.l.length) (i := 0) (keys := keys.l) (l := states c) (by omega)
  have g1 := fun Q h0 => perm_loop (Γ := Γ) (Q := Q) keys hk (.sl (enc1 tK cuts.l) cuts.cap cuts.nl) (states c).length (by omega) _ h0 (min (states c).length keys.l.length) 0 (states c) (by omega) rfl rfl
  generalize permS (min (states c).length keys.l.length) 0 keys.l (states c) = L at *
  have g2 := fun Q h0 => cut_loop (Γ := Γ) (Q := Q) cuts hcu L (by omega) (cutS cuts.l L) h0 cuts.l.length 0 0 L.length [] (by omega) (by omega) (by simp) (by simp) rfl
  simp [law34_Chains_ic, tC, tNodes, tNames, tMems, tSl]
  refine callK_pure (states_spec c hc) rfl ?_
  simp [enc1_len, enc1_wid]
  simp only [hpl] at g2
  refine ⟨by omega, g1 _ ?_⟩
  simp
  refine g2 _ fun i off len out h1 h2 h3 => ?_
  have hdl : (L.drop off).length = len := by rw [List.length_drop]; omega
  by_cases hlen : len = 0
  · have hd : L.drop off = [] := List.drop_of_length_le (by omega)
    rw [hd, if_pos rfl, List.append_nil] at h3
    generalize cutS cuts.l L = R at *
    subst h3
    have htk : (enc1 tSl out).take out.length = enc1 tSl out := enc1_take_len
    simp [hlen, law34_Chains_rv, reify, htk, tChs]
  · have hdn : ¬ L.drop off = [] := fun e => by rw [e] at hdl; simp at hdl; omega
    rw [if_neg hdn] at h3
    have hlt : 0 < len := by omega
    have htk : (enc1 tSl out).take out.length = enc1 tSl out := enc1_take_len
    have ht : (ints L).drop off = ints (L.drop off) := enc1_drop
    have ht2 : (ints (L.drop off)).take len = ints (L.drop off) := List.take_of_length_le (by rw [enc1_len, hdl]; exact Nat.le_refl _)
    have hw : wid 1 [[T.sl (ints (L.drop off)) none none]] := by intro e he; simp at he; subst he; rfl
    have hsn : enc1 tSl out ++ [[T.sl (ints (L.drop off)) none none]] = enc1 tSl (out ++ [⟨L.drop off, none, none⟩]) := enc1_snoc (f := tSl) (x := ⟨L.drop off, none, none⟩)
    have hww : wid 1 (ints (L.drop off)) := enc1_wid
    rw [h3] at hsn
    have hRl : (cutS cuts.l L).length = out.length + 1 := by rw [← h3]; simp
    have htk2 : (enc1 tSl (cutS cuts.l L)).take (out.length + 1) = enc1 tSl (cutS cuts.l L) := by rw [← hRl]; exact enc1_take_len
    have hol : out.length ≤ 1000000000 := by omega
    have hol1 : (out.length : Int) + 1 = ((out.length + 1 : Nat) : Int) := by omega
    clear h3
    generalize cutS cuts.l L = R at *
    simp [hlen, hlt, enc1_len, ht, ht2, htk, hw, hww, hsn, hdl]
    refine ⟨by omega, by omega, ?_⟩
    simp [law34_Chains_rv, reify, htk2, tChs]
end Go.Lg

/- What a case lays. Conditions: none. -/
set_option linter.unusedSimpArgs false
set_option linter.unusedVariables false
set_option maxRecDepth 100000
namespace Go.Lg
open Go Go.Proofs
variable {Γ : Tables}

structure CaseD where
  x : CD
  keys : Sl Int
  cuts : Sl Int
def tCase (y : CaseD) : List T := tCD y.x ++ [.sl (enc1 tK y.keys.l) y.keys.cap y.keys.nl, .sl (enc1 tK y.cuts.l) y.cuts.cap y.cuts.nl]
structure CaseOk (y : CaseD) : Prop where
  x : CDOk y.x
  keys : ∀ b ∈ y.keys.l, Byt b
  cuts : ∀ b ∈ y.cuts.l, Byt b
def noMemX (x : CD) : CD := { x with mem := false }
def caseC (y : CaseD) : Cir := ofC (noMemX y.x)
def caseCh (y : CaseD) : List (Sl Int) := cutS y.cuts.l (permS (min (states (caseC y)).length y.keys.l.length) 0 y.keys.l (states (caseC y)))
theorem noMemX_ok {x : CD} (h : CDOk x) : CDOk (noMemX x) := ⟨h.i, h.f, h.d0, h.d1, h.p0, h.p1, h.p2, h.p3, h.gates, h.outs⟩

theorem CaseOf_spec (y : CaseD) (hy : CaseOk y) : PureCalls Tryd.prog Γ 5 [.agg (tCase y)] (.tup [.agg (tC (caseC y)), tChs ⟨caseCh y, none, none⟩]) := by
  refine run_pureQ law34_Case_Of_chk rfl ?_
  have hx := noMemX_ok hy.x
  have e1 := Of_spec (Γ := Γ) (noMemX y.x) hx
  have hc := ofC_ok hx
  have e2 := Chains_spec (Γ := Γ) (caseC y) hc y.keys y.cuts hy.keys hy.cuts
  unfold caseCh
  have hcc : ofC (noMemX y.x) = caseC y := rfl
  rw [hcc] at e1
  generalize caseC y = c at *
  simp [law34_Case_Of_ic, tCase, tCD]
  simp [tCD, noMemX] at e1
  refine callK_pure e1 rfl ?_
  simp [tC, tNodes, tNames, tMems, tSl]
  simp [tC, tNodes, tNames, tMems, tSl] at e2
  refine callK_pure e2 rfl ?_
  simp [law34_Case_Of_rv, reify]
end Go.Lg

/- A case and a list of places, opened. Conditions: none. -/
set_option linter.unusedSimpArgs false
set_option linter.unusedVariables false
set_option maxRecDepth 100000
namespace Go.Lg
open Go Go.Proofs Go.Proofs.YtgnomdkcimglbaaDoor
theorem cells29 : Tryd.prog.cellsOf 29 = 14 := by kernel_rfl
theorem rdByC : Rd Tryd.prog 25 fun ts => ∃ s : Sl Int, ts = [.sl (enc1 tK s.l) s.cap s.nl] ∧ ∀ b ∈ s.l, Byt b := by
  refine (rd_slice Tryd.underlying25 cells5 (by decide) rdU8).mono fun ts ⟨es, cap, nl, h, _, hes⟩ => ?_
  obtain ⟨l, rfl, hl⟩ := list_of (f := fun n => [tK n]) (Q := Byt) fun x hx => (hes x hx).1
  exact ⟨⟨l, cap, nl⟩, h, hl⟩
theorem rdCase : Rd Tryd.prog 29 fun ts => ∃ y, ts = tCase y ∧ CaseOk y := by
  refine (rd_struct (l := [(12, fun ts => ∃ x, ts = tCD x ∧ CDOk x), (1, fun ts => ∃ s : Sl Int, ts = [.sl (enc1 tK s.l) s.cap s.nl] ∧ ∀ b ∈ s.l, Byt b), (1, fun ts => ∃ s : Sl Int, ts = [.sl (enc1 tK s.l) s.cap s.nl] ∧ ∀ b ∈ s.l, Byt b)]) Tryd.underlying29 cells29
    (.cons rfl cells27 rdCD (.cons rfl cells25 rdByC (.cons rfl cells25 rdByC (.nil _))))).mono fun ts h => ?_
  obtain ⟨_, _, rfl, ⟨x, rfl, hx⟩, _, _, rfl, ⟨s, rfl, hs⟩, _, _, rfl, ⟨t, rfl, ht⟩, rfl⟩ := h
  exact ⟨⟨x, s, t⟩, by simp [tCase], hx, hs, ht⟩
end Go.Lg
namespace Go.Proofs.YtgnomdkcimglbaaDoor
open Go Go.Lg Go.ChangeShapes Go.WideShapes Go.ChangeAt Go.RowKit
theorem open_case {H : Type} {enc : TypeId × Value → H} {W : World} {base : Nat} {v : Value} {d : DataW H} {p : List MemPlace} (hval : Value.okWide Tryd.prog W .any base 29 v) (h : DataW.Trod enc Tryd.prog W 0 (fun _ => true) true 29 v d p) : ∃ y, CaseOk y ∧ TR W (Old W) (.agg (tCase y)) v := by
  simp only [Value.okWide, Tryd.underlying29] at hval
  obtain ⟨cs, rfl, _, _⟩ := hval
  obtain ⟨fuel, hf⟩ := h
  obtain ⟨ts, ⟨x, rfl, hx⟩, htr, ho⟩ := rdCase H enc W true fuel _ _ hf
  exact ⟨x, hx, tr_agg htr ho⟩
end Go.Proofs.YtgnomdkcimglbaaDoor

/- The seat's rows that list more than the table of the gates. Conditions: none. -/
set_option linter.unusedSimpArgs false
set_option linter.unusedVariables false
set_option maxRecDepth 100000
namespace Go.Proofs.YtgnomdkcimglbaaDoor
open Go Go.Lg Go.ChangeShapes Go.WideShapes Go.ChangeAt Go.RowKit

theorem laidMet_tail {P : Program} {x : String × DataW Unit} {l : List (String × DataW Unit)} {w : World} (h : laidMet P (x :: l) w) : laidMet P l w := by
  obtain ⟨ps, hv, hn, hm⟩ := h
  obtain ⟨n, d⟩ := x
  obtain ⟨g, t, cs, fuel, p, q, h1, h2, h3, h4, h5, rfl⟩ := hv
  exact ⟨q, h5, (List.nodup_append.1 hn).2.1, fun b off hq => hm b off (List.mem_append_right _ hq)⟩

theorem gl_of4 {W : World} (h : laidMetH Tryd.prog [("math/bits.deBruijn32tab", Rows.laid_math_bits_deBruijn32tab), ("math/bits.deBruijn64tab", Rows.laid_math_bits_deBruijn64tab), ("internal/strconv.uint64pow10", Rows.laid_internal_strconv_uint64pow10), ("probecard/logic.fanins", Rows.laid_probecard_logic_fanins)] W) : Gl G0 W (Old W) := by
  rw [MakeChecks.laidMetH_plain _ _ _ (by kernel_rfl)] at h
  exact fan_gl (laidMet_tail (laidMet_tail (laidMet_tail h)))

/-- A world for the witness: the tables hold what their initialisers lay. -/
noncomputable def laidWorld4 (os : Os) : World :=
  { laidWorld os with heap := (((laidWorld os).heap.modify 0 fun
      | .cells _ t frozen => .cells ([.int .u64 1, .int .u64 10, .int .u64 100, .int .u64 1000, .int .u64 10000, .int .u64 100000, .int .u64 1000000, .int .u64 10000000, .int .u64 100000000, .int .u64 1000000000, .int .u64 10000000000, .int .u64 100000000000, .int .u64 1000000000000, .int .u64 10000000000000, .int .u64 100000000000000, .int .u64 1000000000000000, .int .u64 10000000000000000, .int .u64 100000000000000000, .int .u64 1000000000000000000, .int .u64 10000000000000000000] : List Value).toArray t frozen
      | o => o).modify 1 fun
      | .cells _ t frozen => .cells ([.int .u8 0, .int .u8 1, .int .u8 28, .int .u8 2, .int .u8 29, .int .u8 14, .int .u8 24, .int .u8 3, .int .u8 30, .int .u8 22, .int .u8 20, .int .u8 15, .int .u8 25, .int .u8 17, .int .u8 4, .int .u8 8, .int .u8 31, .int .u8 27, .int .u8 13, .int .u8 23, .int .u8 21, .int .u8 19, .int .u8 16, .int .u8 7, .int .u8 26, .int .u8 12, .int .u8 18, .int .u8 6, .int .u8 11, .int .u8 5, .int .u8 10, .int .u8 9] : List Value).toArray t frozen
      | o => o).modify 2 fun
      | .cells _ t frozen => .cells ([.int .u8 0, .int .u8 1, .int .u8 56, .int .u8 2, .int .u8 57, .int .u8 49, .int .u8 28, .int .u8 3, .int .u8 61, .int .u8 58, .int .u8 42, .int .u8 50, .int .u8 38, .int .u8 29, .int .u8 17, .int .u8 4, .int .u8 62, .int .u8 47, .int .u8 59, .int .u8 36, .int .u8 45, .int .u8 43, .int .u8 51, .int .u8 22, .int .u8 53, .int .u8 39, .int .u8 33, .int .u8 30, .int .u8 24, .int .u8 18, .int .u8 12, .int .u8 5, .int .u8 63, .int .u8 55, .int .u8 48, .int .u8 27, .int .u8 60, .int .u8 41, .int .u8 37, .int .u8 16, .int .u8 46, .int .u8 35, .int .u8 44, .int .u8 21, .int .u8 52, .int .u8 32, .int .u8 23, .int .u8 11, .int .u8 54, .int .u8 26, .int .u8 40, .int .u8 15, .int .u8 34, .int .u8 20, .int .u8 31, .int .u8 10, .int .u8 25, .int .u8 14, .int .u8 19, .int .u8 9, .int .u8 13, .int .u8 8, .int .u8 7, .int .u8 6] : List Value).toArray t frozen
      | o => o }
end Go.Proofs.YtgnomdkcimglbaaDoor

/- The abstract code of some functions, as the program gen.py prints it. Conditions: none. -/
set_option linter.unusedVariables false
namespace Go.Lg
open Go
section
variable {P : Program} {Γ : Tables} {Q : AX → St → Prop} {s : St}
/- probecard/probecardlaw35.ShiftsTest (function 3) -/
abbrev law35_ShiftsCollect_g0 : IC := .gh (.seq (.seq (.reg [om 37 12, od 38 (fa 3 5), od 39 (ld 1 38), od 40 (le 0 39), om 41 6, od 42 (le 0 41), od 43 (.bin .add (tm 40) (tm 42)), od 44 (.bin .lss (tm 37) (tm 43))] [kp [1, 5, 6, 7, 8, 9, 10, 11, 12, 44] [5, 11, 64,
 69]]) (.cond (tm 44) .skip (.exit 2))) (.seq (.block 3 (.seq (.reg [od 13 (.mv (ku 0))] [kp [1, 5, 6, 7, 8, 9, 10, 11, 12, 13] [5, 11, 64, 69]]) (.seq (.seq (.reg [om 47 1, od 48 (le 0 47), od 49 (.bin .gtr (tm 48) (ki 0))] [kp [1,
 5, 6, 7, 8, 9, 10, 11, 12, 13, 49] [5, 11, 64, 69]]) (.cond (tm 49) (.reg [om 50 1, om 51 9, om 52 1, od 53 (le 0 52), od 54 (.bin .rem (tm 51) (tm 53)), od 55 (ia 1 50 54), od 56 (ld 1 55), od 57 (.bin .rem (tm 56) (ku 4)), om 13
 57] [kp [1, 5, 6, 7, 8, 9, 10, 11, 12, 13] [5, 11, 64, 69]]) .skip)) (.seq (.reg [om 58 9, od 59 (.bin .add (tm 58) (ki 1)), om 9 59] [kp [1, 5, 6, 7, 8, 9, 10, 11, 12, 13] [5, 11, 64, 69]]) (.reg [od 60 (fa 0 11), od 61 (ld 1 60),
 om 62 13, od 63 (.bsl true 51 1 [(tm 62)]), od 64 (.app false 51 1 (tm 61) (tm 63)), od 65 (fa 0 11), on (.store 1 (tm 65) (tm 64))] [kp [1, 5, 6, 7, 8, 9, 10, 11, 12] [5, 11, 64, 69]]))))) (.reg [om 45 12, od 46 (.bin .add (tm 45)
 (ki 1)), om 12 46] [kp [1, 5, 6, 7, 8, 9, 10, 11, 12] [5, 11, 64, 69]]))) [kp [1, 5, 6, 7, 8, 9, 10, 11, 12] [5, 11, 64, 69]]
def law35_ShiftsCollect_l1 : IC := .loop law35_ShiftsCollect_g0
abbrev law35_ShiftsCollect_g2 : IC := .gh (.seq (.seq (.reg [om 30 10, om 31 7, od 32 (.bin .mul (ki 2) (tm 31)), od 33 (.bin .add (tm 32) (ki 1)), od 34 (.bin .lss (tm 30) (tm 33))] [kp [1, 5, 6, 7, 8, 9, 10, 34] [5, 69]]) (.cond (tm 34) .skip (.exit 0))) (.seq
 (.block 1 (.seq (.reg [od 11 (.alloc false [(.slice none 0 0), (.slice none 0 0)])] [.nlb 11 0 64 51 1, kp [1, 5, 6, 7, 8, 9, 10, 11] [5, 11, 64, 69]]) (.seq (.seq (.reg [od 12 (.mv (ki 0))] [kp [1, 5, 6, 7, 8, 9, 10, 11, 12] [5,
 11, 64, 69]]) (.gh (.block 2 law35_ShiftsCollect_l1) [.frz 64])) (.reg [om 66 8, od 67 (lG 2 11), od 68 (.bsl true 56 2 [(tm 67)]), od 69 (.app false 56 2 (tm 66) (tm 68)), om 8 69] [kp [1, 5, 6, 7, 8, 9, 10] [5, 69]])))) (.reg [om
 35 10, od 36 (.bin .add (tm 35) (ki 1)), om 10 36] [kp [1, 5, 6, 7, 8, 9, 10] [5, 69]]))) [kp [1, 5, 6, 7, 8, 9, 10] [5, 69]]
def law35_ShiftsCollect_l3 : IC := .loop law35_ShiftsCollect_g2
abbrev law35_ShiftsCollect_g4 : IC := .gh (.seq (.seq (.reg [om 98 17, od 99 (fa 3 5), od 100 (ld 1 99), od 101 (le 0 100), od 102 (.bin .lss (tm 98) (tm 101))] [kp [5, 6, 7, 8, 14, 16, 17, 102] [5, 14, 69]]) (.cond (tm 102) .skip (.exit 4))) (.seq (.block 5 (.seq
 (.reg [od 105 (fa 0 14), od 106 (ld 1 105), om 107 17, od 108 (ia 1 106 107), od 109 (ld 1 108), om 110 8, om 111 7, od 112 (ia 2 110 111), od 113 (fa 0 112), od 114 (ld 1 113), om 115 17, od 116 (ia 1 114 115), od 117 (ld 1 116),
 od 118 (.bin .neq (tm 109) (tm 117))] [kp [5, 6, 7, 8, 14, 16, 17, 118] [5, 14, 69]]) (.cond (tm 118) (.seq (.reg [od 4 (.mv kF)] [kp [4] []]) .ret) .skip))) (.reg [om 103 17, od 104 (.bin .add (tm 103) (ki 1)), om 17 104] [kp [5,
 6, 7, 8, 14, 16, 17] [5, 14, 69]]))) [kp [5, 6, 7, 8, 14, 16, 17] [5, 14, 69]]
def law35_ShiftsCollect_l5 : IC := .loop law35_ShiftsCollect_g4
abbrev law35_ShiftsCollect_g6 : IC := .gh (.seq (.seq (.reg [om 134 20, om 135 16, od 136 (le 0 135), od 137 (.bin .lss (tm 134) (tm 136))] [kp [5, 6, 7, 8, 14, 16, 18, 19, 20, 137] [5, 14, 69]]) (.cond (tm 137) .skip (.exit 10))) (.seq (.block 11 (.seq (.reg [om 140
 16, om 141 20, od 142 (ia 1 140 141), od 143 (ld 1 142), om 144 6, om 145 18, od 146 (ia 1 144 145), od 147 (ld 1 146), om 148 19, od 149 (ia 1 147 148), od 150 (ld 1 149), od 151 (.bin .eql (tm 143) (tm 150)), om 152 151, oT 153
 (fa 1 14) 152, oT 154 (ld 1 153) 152, oT 155 (.mv (tm 20)) 152, oT 156 (ia 1 154 155) 152, oT 157 (ld 1 156) 152, oT 158 (.mv (tm 8)) 152, oT 159 (.mv (tm 7)) 152, oT 160 (.mv (tm 6)) 152, oT 161 (.mv (tm 18)) 152, oT 162 (ia 1 160
 161) 152, oT 163 (ld 1 162) 152, oT 164 (le 0 163) 152, oT 165 (.bin .add (tm 159) (tm 164)) 152, oT 166 (.mv (tm 19)) 152, oT 167 (.bin .sub (tm 165) (tm 166)) 152, oT 168 (ia 2 158 167) 152, oT 169 (fa 0 168) 152, oT 170 (ld 1
 169) 152, oT 171 (fa 3 5) 152, oT 172 (ld 1 171) 152, oT 173 (le 0 172) 152, oT 174 (.mv (tm 18)) 152, oT 175 (.bin .add (tm 173) (tm 174)) 152, oT 176 (ia 1 170 175) 152, oT 177 (ld 1 176) 152, oT 178 (.bin .neq (tm 157) (tm 177))
 152, od 179 (.pick (tm 152) (tm 178) kF)] [kp [5, 6, 7, 8, 14, 16, 18, 19, 20, 179] [5, 14, 69]]) (.cond (tm 179) (.seq (.reg [od 4 (.mv kF)] [kp [4] []]) .ret) .skip))) (.reg [om 138 20, od 139 (.bin .add (tm 138) (ki 1)), om 20
 139] [kp [5, 6, 7, 8, 14, 16, 18, 19, 20] [5, 14, 69]]))) [kp [5, 6, 7, 8, 14, 16, 18, 19, 20] [5, 14, 69]]
def law35_ShiftsCollect_l7 : IC := .loop law35_ShiftsCollect_g6
abbrev law35_ShiftsCollect_g8 : IC := .gh (.seq (.seq (.reg [om 125 19, om 126 6, om 127 18, od 128 (ia 1 126 127), od 129 (ld 1 128), od 130 (le 0 129), od 131 (.bin .lss (tm 125) (tm 130))] [kp [5, 6, 7, 8, 14, 16, 18, 19, 131] [5, 14, 69]]) (.cond (tm 131) .skip
 (.exit 8))) (.seq (.block 9 (.seq (.reg [od 20 (.mv (ki 0))] [kp [5, 6, 7, 8, 14, 16, 18, 19, 20] [5, 14, 69]]) (.block 10 law35_ShiftsCollect_l7))) (.reg [om 132 19, od 133 (.bin .add (tm 132) (ki 1)), om 19 133] [kp [5, 6, 7, 8,
 14, 16, 18, 19] [5, 14, 69]]))) [kp [5, 6, 7, 8, 14, 16, 18, 19] [5, 14, 69]]
def law35_ShiftsCollect_l9 : IC := .loop law35_ShiftsCollect_g8
abbrev law35_ShiftsCollect_g10 : IC := .gh (.seq (.seq (.reg [om 119 18, om 120 6, od 121 (le 0 120), od 122 (.bin .lss (tm 119) (tm 121))] [kp [5, 6, 7, 8, 14, 16, 18, 122] [5, 14, 69]]) (.cond (tm 122) .skip (.exit 6))) (.seq (.block 7 (.seq (.reg [od 19 (.mv (ki 0))]
 [kp [5, 6, 7, 8, 14, 16, 18, 19] [5, 14, 69]]) (.block 8 law35_ShiftsCollect_l9))) (.reg [om 123 18, od 124 (.bin .add (tm 123) (ki 1)), om 18 124] [kp [5, 6, 7, 8, 14, 16, 18] [5, 14, 69]]))) [kp [5, 6, 7, 8, 14, 16, 18] [5, 14,
 69]]
def law35_ShiftsCollect_l11 : IC := .loop law35_ShiftsCollect_g10
abbrev law35_ShiftsCollect_ic : IC := (.seq (.reg [od 2 (.box true (tm 0)), od 4 (.mv kF)] [kp [1, 2] []]) (.seq (.reg [od 24 (lG 14 2), od 25 (.call 5 [(tm 24)]), om 23 25, od 26 (ex 23 0), od 27 (ex 23 1), od 5 (.alloc false [(.slice none 0 0), (.slice none 0 0),
 (.slice none 0 0), (.slice none 0 0)]), on (.store 4 (tm 5) (tm 26)), om 6 27] [kp [1, 5, 6] [5]]) (.seq (.reg [om 28 6, od 29 (.call 9 [(tm 28)]), om 7 29] [kp [1, 5, 6, 7] [5]]) (.seq (.reg [od 8 (.mv kN)] [.nl 8 69 56 2, kp [1,
 5, 6, 7, 8] [5, 69]]) (.seq (.reg [od 9 (.mv (ki 0))] [kp [1, 5, 6, 7, 8, 9] [5, 69]]) (.seq (.seq (.reg [od 10 (.mv (ki 0))] [kp [1, 5, 6, 7, 8, 9, 10] [5, 69]]) (.gh (.block 0 law35_ShiftsCollect_l3) [.frz 69])) (.seq (.reg [od
 71 (lG 4 5), om 72 6, om 73 8, od 74 (.call 11 [(tm 71), (tm 72), (tm 73)]), om 70 74, od 75 (ex 70 0), od 76 (ex 70 1), od 14 (.alloc false [(.slice none 0 0), (.slice none 0 0)]), on (.store 2 (tm 14) (tm 75)), om 15 76] [kp [5,
 6, 7, 8, 14, 15] [5, 14, 69]]) (.seq (.reg [od 77 (lG 4 5), od 78 (.call 12 [(tm 77)]), om 16 78] [kp [5, 6, 7, 8, 14, 15, 16] [5, 14, 69]]) (.seq (.seq (.reg [om 79 15, od 80 (.bin .neq (tm 79) (ki 0)), om 81 80, oF 82 (fa 0 14)
 81, oF 83 (ld 1 82) 81, oF 84 (le 0 83) 81, oF 85 (fa 3 5) 81, oF 86 (ld 1 85) 81, oF 87 (le 0 86) 81, oF 88 (.bin .neq (tm 84) (tm 87)) 81, od 89 (.pick (tm 81) kT (tm 88)), om 90 89, oF 91 (fa 1 14) 90, oF 92 (ld 1 91) 90, oF 93
 (le 0 92) 90, oF 94 (.mv (tm 16)) 90, oF 95 (le 0 94) 90, oF 96 (.bin .neq (tm 93) (tm 95)) 90, od 97 (.pick (tm 90) kT (tm 96))] [kp [5, 6, 7, 8, 14, 16, 97] [5, 14, 69]]) (.cond (tm 97) (.seq (.reg [od 4 (.mv kF)] [kp [4] []])
 .ret) .skip)) (.seq (.seq (.reg [od 17 (.mv (ki 0))] [kp [5, 6, 7, 8, 14, 16, 17] [5, 14, 69]]) (.block 4 law35_ShiftsCollect_l5)) (.seq (.seq (.reg [od 18 (.mv (ki 0))] [kp [5, 6, 7, 8, 14, 16, 18] [5, 14, 69]]) (.block 6
 law35_ShiftsCollect_l11)) (.seq (.reg [od 181 (.ldR 5 4 true (tm 5)), om 182 6, om 183 8, od 184 (.slice 2 (tm 183) (some (ki 1)) none none), od 185 (.call 11 [(tm 181), (tm 182), (tm 184)]), om 180 185, od 186 (ex 180 0), od 187
 (ex 180 1), od 21 (.alloc false [(.slice none 0 0), (.slice none 0 0)]), on (.stR 21 2 (tm 21) (tm 186)), om 22 187] [kp [22] []]) (.seq (.reg [om 188 22, od 189 (.bin .eql (tm 188) (ki 8)), om 190 189, oT 191 (.call 10 []) 190, od
 192 (.pick (tm 190) (tm 191) kF), om 4 192] [kp [4] []]) .ret)))))))))))))
theorem law35_ShiftsCollect_l1_run (h : ∀ K : St → Prop, K = run P Γ law35_ShiftsCollect_l1 Q → run P Γ law35_ShiftsCollect_g0 (thenX K Q) s) : run P Γ law35_ShiftsCollect_l1 Q s := run_loop h
theorem law35_ShiftsCollect_l3_run (h : ∀ K : St → Prop, K = run P Γ law35_ShiftsCollect_l3 Q → run P Γ law35_ShiftsCollect_g2 (thenX K Q) s) : run P Γ law35_ShiftsCollect_l3 Q s := run_loop h
theorem law35_ShiftsCollect_l5_run (h : ∀ K : St → Prop, K = run P Γ law35_ShiftsCollect_l5 Q → run P Γ law35_ShiftsCollect_g4 (thenX K Q) s) : run P Γ law35_ShiftsCollect_l5 Q s := run_loop h
theorem law35_ShiftsCollect_l7_run (h : ∀ K : St → Prop, K = run P Γ law35_ShiftsCollect_l7 Q → run P Γ law35_ShiftsCollect_g6 (thenX K Q) s) : run P Γ law35_ShiftsCollect_l7 Q s := run_loop h
theorem law35_ShiftsCollect_l9_run (h : ∀ K : St → Prop, K = run P Γ law35_ShiftsCollect_l9 Q → run P Γ law35_ShiftsCollect_g8 (thenX K Q) s) : run P Γ law35_ShiftsCollect_l9 Q s := run_loop h
theorem law35_ShiftsCollect_l11_run (h : ∀ K : St → Prop, K = run P Γ law35_ShiftsCollect_l11 Q → run P Γ law35_ShiftsCollect_g10 (thenX K Q) s) : run P Γ law35_ShiftsCollect_l11 Q s := run_loop h
def law35_ShiftsCollect_rv : List RV := [.tmp 4]
end
end Go.Lg

/- The abstract code is that of the program (by the kernel). Conditions: none. -/
namespace Go.Lg
open Go Go.Proofs
theorem law35_ShiftsCollect_chk : chkF Tryd.prog 4 law35_ShiftsCollect_ic 193 2 law35_ShiftsCollect_rv = true := by kernel_rfl
end Go.Lg

/- The abstract code of some functions, as the program gen.py prints it. Conditions: none. -/
set_option linter.unusedVariables false
namespace Go.Lg
open Go
section
variable {P : Program} {Γ : Tables} {Q : AX → St → Prop} {s : St}
/- probecard/shifts.Depth (function 9) -/
abbrev shifts_Depth_g0 : IC := .gh (.seq (.reg [od 9 (.bin .lss (tm 8) (tm 7))] [kp [3, 6, 7, 8, 9] []]) (.seq (.cond (tm 9) .skip (.exit 0)) (.seq (.block 1 (.seq (.reg [od 10 (ia 1 6 8), od 11 (ld 1 10), om 5 11] [kp [3, 5, 6, 7, 8] []]) (.reg [om 12 3, om 13
 5, od 14 (le 0 13), od 15 (.mmx true [(tm 12), (tm 14)]), om 3 15] [kp [3, 6, 7, 8] []]))) (.reg [od 16 (.bin .add (tm 8) (ki 1)), om 8 16] [kp [3, 6, 7, 8] []])))) [kp [3, 6, 7, 8] []]
def shifts_Depth_l1 : IC := .loop shifts_Depth_g0
abbrev shifts_Depth_ic : IC := (.seq (.reg [od 2 (.mv (ki 0))] [kp [0] []]) (.seq (.reg [od 3 (.mv (ki 0))] [kp [0, 3] []]) (.seq (.seq (.reg [om 6 0, od 7 (le 0 6), od 8 (.mv (ki 0))] [kp [3, 6, 7, 8] []]) (.block 0 shifts_Depth_l1)) (.seq (.reg [om 17 3, om 2
 17] [kp [2] []]) .ret))))
theorem shifts_Depth_l1_run (h : ∀ K : St → Prop, K = run P Γ shifts_Depth_l1 Q → run P Γ shifts_Depth_g0 (thenX K Q) s) : run P Γ shifts_Depth_l1 Q s := run_loop h
def shifts_Depth_rv : List RV := [.tmp 2]

/- probecard/shifts.values (function 19) -/
abbrev shifts_values_ic : IC := (.seq (.reg [od 4 (.mv (ki 0))] [kp [0, 1] []]) (.seq (.seq (.reg [om 5 0, od 6 (le 0 5), om 7 1, od 8 (.bin .neq (tm 6) (tm 7))] [kp [0, 8] []]) (.cond (tm 8) (.seq (.reg [od 4 (.mv (ki 8))] [kp [4] []]) .ret) .skip)) (.seq (.seq
 (.reg [om 9 0, od 10 (.call 41 [(tm 9), (.func 42)])] [kp [10] []]) (.cond (tm 10) (.seq (.reg [od 4 (.mv (ki 1))] [kp [4] []]) .ret) .skip)) (.seq (.reg [od 4 (.mv (ki 0))] [kp [4] []]) .ret))))
def shifts_values_rv : List RV := [.tmp 4]

/- probecard/shifts.values$1 (function 42) -/
abbrev shifts_values_1_ic : IC := (.seq (.reg [od 2 (.mv kF)] [kp [0] []]) (.seq (.reg [om 3 0, od 4 (.bin .gtr (tm 3) (ku 3)), om 2 4] [kp [2] []]) .ret))
def shifts_values_1_rv : List RV := [.tmp 2]

/- probecard/shifts.loads (function 23) -/
abbrev shifts_loads_g0 : IC := .gh (.seq (.reg [od 22 (.bin .lss (tm 21) (tm 20))] [kp [1, 2, 7, 19, 20, 21, 22] [17]]) (.seq (.cond (tm 22) .skip (.exit 0)) (.seq (.block 1 (.seq (.reg [om 23 21, od 24 (ia 1 19 21), od 25 (ld 1 24), om 8 23, om 9 25] [kp [1, 2,
 7, 8, 9, 19, 20, 21] [17]]) (.reg [om 26 7, om 27 9, om 28 2, om 29 8, od 30 (ia 1 28 29), od 31 (ld 1 30), od 32 (.call 44 [(tm 31)]), on (.mup (.int .i64) (tm 26) (tm 27) (tm 32))] [kp [1, 2, 7, 19, 20, 21] [17]]))) (.reg [od 33
 (.bin .add (tm 21) (ki 1)), om 21 33] [kp [1, 2, 7, 19, 20, 21] [17]])))) [kp [1, 2, 7, 19, 20, 21] [17]]
def shifts_loads_l1 : IC := .loop shifts_loads_g0
abbrev shifts_loads_g2 : IC := .gh (.seq (.reg [od 46 (.bin .lss (tm 45) (tm 44))] [kp [1, 7, 10, 11, 12, 13, 36, 37, 43, 44, 45, 46] [17, 42, 71]]) (.seq (.cond (tm 46) .skip (.exit 4)) (.seq (.block 5 (.seq (.reg [om 47 45, od 48 (ia 1 43 45), od 49 (ld 1 48),
 om 14 47, om 15 49] [kp [1, 7, 10, 11, 12, 13, 14, 15, 36, 37, 43, 44, 45] [17, 42, 71]]) (.seq (.reg [om 50 10, od 51 (.bin .sub (tm 50) (ki 1)), om 52 12, od 53 (.bin .sub (tm 51) (tm 52)), om 16 53] [kp [1, 7, 10, 11, 12, 13,
 14, 15, 16, 36, 37, 43, 44, 45] [17, 42, 71]]) (.seq (.reg [om 54 16, om 55 15, od 56 (le 0 55), od 57 (.bin .lss (tm 54) (tm 56))] [kp [1, 7, 10, 11, 12, 13, 14, 15, 16, 36, 37, 43, 44, 45, 57] [17, 42, 71]]) (.cond (tm 57) (.reg
 [om 58 13, om 59 14, om 60 7, om 61 15, om 62 16, od 63 (ia 1 61 62), od 64 (ld 1 63), od 65 (.lkup (.int .i64) (.int .u8 0) false (tm 60) (tm 64)), od 66 (ia 1 58 59), on (.store 1 (tm 66) (tm 65))] [kp [1, 7, 10, 11, 12, 13, 36,
 37, 43, 44, 45] [17, 42, 71]]) .skip))))) (.reg [od 67 (.bin .add (tm 45) (ki 1)), om 45 67] [kp [1, 7, 10, 11, 12, 13, 36, 37, 43, 44, 45] [17, 42, 71]])))) [kp [1, 7, 10, 11, 12, 13, 36, 37, 43, 44, 45] [17, 42, 71]]
def shifts_loads_l3 : IC := .loop shifts_loads_g2
abbrev shifts_loads_g4 : IC := .gh (.seq (.reg [od 38 (.bin .lss (tm 37) (tm 36))] [kp [1, 7, 10, 11, 36, 37, 38] [17, 71]]) (.seq (.cond (tm 38) .skip (.exit 2)) (.seq (.block 3 (.seq (.reg [om 39 37, om 12 39] [kp [1, 7, 10, 11, 12, 36, 37] [17, 71]]) (.seq
 (.reg [om 40 1, od 41 (le 0 40), od 42 (.mk 51 1 [(.int .u8 0)] (tm 41) (tm 41)), om 13 42] [kp [1, 7, 10, 11, 12, 13, 36, 37] [17, 42, 71]]) (.seq (.seq (.reg [om 43 1, od 44 (le 0 43), od 45 (.mv (ki 0))] [kp [1, 7, 10, 11, 12,
 13, 36, 37, 43, 44, 45] [17, 42, 71]]) (.gh (.block 4 shifts_loads_l3) [.frz 42])) (.reg [om 68 11, om 69 13, od 70 (.bsl true 41 1 [(tm 69)]), od 71 (.app false 41 1 (tm 68) (tm 70)), om 11 71] [kp [1, 7, 10, 11, 36, 37] [17,
 71]]))))) (.reg [od 72 (.bin .add (tm 37) (ki 1)), om 37 72] [kp [1, 7, 10, 11, 36, 37] [17, 71]])))) [kp [1, 7, 10, 11, 36, 37] [17, 71]]
def shifts_loads_l5 : IC := .loop shifts_loads_g4
abbrev shifts_loads_ic : IC := (.seq (.reg [od 3 (.box true (tm 0)), od 6 (.mv kN)] [kp [1, 2, 3] []]) (.seq (.reg [od 17 (.mkmap), om 7 17] [kp [1, 2, 3, 7] [17]]) (.seq (.seq (.reg [od 18 (lG 4 3), od 19 (.call 12 [(tm 18)]), od 20 (le 0 19), od 21 (.mv (ki
 0))] [kp [1, 2, 7, 19, 20, 21] [17]]) (.block 0 shifts_loads_l1)) (.seq (.reg [om 34 1, od 35 (.call 9 [(tm 34)]), om 10 35] [kp [1, 7, 10] [17]]) (.seq (.reg [od 11 (.mv kN)] [.nl 11 71 41 1, kp [1, 7, 10, 11] [17, 71]]) (.seq
 (.seq (.reg [om 36 10, od 37 (.mv (ki 0))] [kp [1, 7, 10, 11, 36, 37] [17, 71]]) (.gh (.block 2 shifts_loads_l5) [.frz 71])) (.seq (.reg [om 73 11, od 74 (.call 24 [(tm 73)]), om 6 74] [kp [6] []]) .ret)))))))
theorem shifts_loads_l1_run (h : ∀ K : St → Prop, K = run P Γ shifts_loads_l1 Q → run P Γ shifts_loads_g0 (thenX K Q) s) : run P Γ shifts_loads_l1 Q s := run_loop h
theorem shifts_loads_l3_run (h : ∀ K : St → Prop, K = run P Γ shifts_loads_l3 Q → run P Γ shifts_loads_g2 (thenX K Q) s) : run P Γ shifts_loads_l3 Q s := run_loop h
theorem shifts_loads_l5_run (h : ∀ K : St → Prop, K = run P Γ shifts_loads_l5 Q → run P Γ shifts_loads_g4 (thenX K Q) s) : run P Γ shifts_loads_l5 Q s := run_loop h
def shifts_loads_rv : List RV := [.tmp 6]

/- probecard/shifts.Loads (function 8) -/
abbrev shifts_Loads_ic : IC := (.seq (.reg [od 3 (.box true (tm 0)), od 6 (.mv kN), od 7 (.mv (ki 0))] [kp [1, 2, 3] []]) (.seq (.seq (.reg [od 12 (lG 4 3), om 13 1, od 14 (.call 17 [(tm 12), (tm 13)]), om 11 14, od 15 (ex 11 0), od 16 (ex 11 1), od 8 (.alloc
 false [(.slice none 0 0), (.slice none 0 0), (.slice none 0 0), (.slice none 0 0), (.slice none 0 0), (.int .i64 0), (.slice none 0 0), (.slice none 0 0)]), on (.store 8 (tm 8) (tm 15)), om 9 16] [kp [1, 2, 3, 9] []]) (.seq (.reg
 [om 17 9, od 18 (.bin .neq (tm 17) (ki 0))] [kp [1, 2, 3, 9, 18] []]) (.cond (tm 18) (.seq (.reg [om 19 9, od 6 (.mv kN), om 7 19] [kp [6, 7] []]) .ret) .skip))) (.seq (.seq (.reg [om 20 2, od 21 (lG 4 3), od 22 (.call 12 [(tm
 21)]), od 23 (le 0 22), od 24 (.call 19 [(tm 20), (tm 23)]), om 10 24] [kp [1, 2, 3, 10] []]) (.seq (.reg [om 25 10, od 26 (.bin .neq (tm 25) (ki 0))] [kp [1, 2, 3, 10, 26] []]) (.cond (tm 26) (.seq (.reg [om 27 10, od 6 (.mv kN),
 om 7 27] [kp [6, 7] []]) .ret) .skip))) (.seq (.reg [od 28 (lG 4 3), om 29 1, om 30 2, od 31 (.call 23 [(tm 28), (tm 29), (tm 30)]), om 6 31, od 7 (.mv (ki 0))] [kp [6, 7] []]) .ret))))
def shifts_Loads_rv : List RV := [.tmp 6, .tmp 7]

/- probecard/shifts.Test (function 7) -/
abbrev shifts_Test_g0 : IC := .gh (.seq (.reg [od 67 (.bin .lss (tm 66) (tm 65))] [kp [1, 5, 12, 13, 14, 15, 64, 65, 66, 67] [56, 59, 76]]) (.seq (.cond (tm 67) .skip (.exit 0)) (.seq (.block 1 (.seq (.reg [od 68 (ia 1 64 66), od 69 (ld 1 68), om 17 69] [kp [1,
 5, 12, 13, 14, 15, 17, 64, 65, 66] [56, 59, 76]]) (.reg [om 70 15, om 71 14, om 72 12, om 73 17, od 74 (.callv (tm 71) [(tm 72), (ku 1), (tm 73)]), od 75 (.bsl true 41 1 [(tm 74)]), od 76 (.app false 41 1 (tm 70) (tm 75)), om 15
 76] [kp [1, 5, 12, 13, 14, 15, 64, 65, 66] [56, 59, 76]]))) (.reg [od 77 (.bin .add (tm 66) (ki 1)), om 66 77] [kp [1, 5, 12, 13, 14, 15, 64, 65, 66] [56, 59, 76]])))) [kp [1, 5, 12, 13, 14, 15, 64, 65, 66] [56, 59, 76]]
def shifts_Test_l1 : IC := .loop shifts_Test_g0
abbrev shifts_Test_g2 : IC := .gh (.seq (.reg [od 89 (.bin .lss (tm 88) (tm 87))] [kp [12, 13, 14, 15, 87, 88, 89] [56, 59, 76]]) (.seq (.cond (tm 89) .skip (.exit 2)) (.seq (.block 3 (.reg [om 90 15, om 91 14, om 92 12, om 93 13, od 94 (.callv (tm 91) [(tm
 92), (ku 1), (tm 93)]), od 95 (.bsl true 41 1 [(tm 94)]), oz 96 (.app false 41 1 (tm 90) (tm 95)) 76, om 15 96] [kp [12, 13, 14, 15, 87, 88] [56, 59, 76]])) (.reg [od 97 (.bin .add (tm 88) (ki 1)), om 88 97] [kp [12, 13, 14, 15,
 87, 88] [56, 59, 76]])))) [kp [12, 13, 14, 15, 87, 88] [56, 59, 76]]
def shifts_Test_l3 : IC := .loop shifts_Test_g2
abbrev shifts_Test_ic : IC := (.seq (.reg [od 3 (.box true (tm 0)), od 5 (.box true (tm 2)), od 6 (.mv kN), od 7 (.mv (ki 0))] [kp [1, 3, 5] []]) (.seq (.seq (.reg [od 19 (lG 4 3), om 20 1, od 21 (.call 17 [(tm 19), (tm 20)]), om 18 21, od 22 (ex 18 0), od 23
 (ex 18 1), od 8 (.alloc false [(.slice none 0 0), (.slice none 0 0), (.slice none 0 0), (.slice none 0 0), (.slice none 0 0), (.int .i64 0), (.slice none 0 0), (.slice none 0 0)]), on (.store 8 (tm 8) (tm 22)), om 9 23] [kp [1, 3,
 5, 9] []]) (.seq (.reg [om 24 9, od 25 (.bin .neq (tm 24) (ki 0))] [kp [1, 3, 5, 9, 25] []]) (.cond (tm 25) (.seq (.reg [om 26 9, od 6 (.mv kN), om 7 26] [kp [6, 7] []]) .ret) .skip))) (.seq (.reg [od 27 (lG 4 3), od 28 (.call 18
 [(tm 27)]), od 29 (le 0 28), od 30 (lG 4 3), od 31 (.call 12 [(tm 30)]), od 32 (le 0 31), om 10 29, om 11 32] [kp [1, 3, 5, 10, 11] []]) (.seq (.seq (.reg [od 33 (fa 0 5), od 34 (ld 1 33), od 35 (le 0 34), om 36 10, od 37 (.bin
 .neq (tm 35) (tm 36)), om 38 37, oF 39 (fa 1 5) 38, oF 40 (ld 1 39) 38, oF 41 (le 0 40) 38, oF 42 (.mv (tm 11)) 38, oF 43 (.bin .neq (tm 41) (tm 42)) 38, od 44 (.pick (tm 38) kT (tm 43))] [kp [1, 3, 5, 10, 11, 44] []]) (.cond (tm
 44) (.seq (.reg [od 6 (.mv kN), od 7 (.mv (ki 8))] [kp [6, 7] []]) .ret) .skip)) (.seq (.seq (.reg [od 45 (fa 0 5), od 46 (ld 1 45), om 47 10, od 48 (.call 19 [(tm 46), (tm 47)]), od 49 (fa 1 5), od 50 (ld 1 49), om 51 11, od 52
 (.call 19 [(tm 50), (tm 51)]), od 53 (.mmx true [(tm 48), (tm 52)]), od 54 (.bin .neq (tm 53) (ki 0))] [kp [1, 3, 5, 10, 54] []]) (.cond (tm 54) (.seq (.reg [od 6 (.mv kN), od 7 (.mv (ki 1))] [kp [6, 7] []]) .ret) .skip)) (.seq
 (.reg [om 55 10, od 56 (.mk 51 1 [(.int .u8 0)] (tm 55) (tm 55)), om 12 56] [.frz 56, kp [1, 3, 5, 12] [56]]) (.seq (.reg [om 57 1, od 58 (le 0 57), od 59 (.mk 51 1 [(.int .u8 0)] (tm 58) (tm 58)), om 13 59] [.frz 59, kp [1, 3, 5,
 12, 13] [56, 59]]) (.seq (.reg [od 14 (.mv (.func 20))] [kp [1, 3, 5, 12, 13, 14] [56, 59]]) (.seq (.reg [od 15 (.mv kN)] [.nl 15 76 41 1, kp [1, 3, 5, 12, 13, 14, 15] [56, 59, 76]]) (.seq (.seq (.reg [od 60 (lG 4 3), om 61 1, od
 62 (fa 1 5), od 63 (ld 1 62), od 64 (.call 23 [(tm 60), (tm 61), (tm 63)]), od 65 (le 0 64), od 66 (.mv (ki 0))] [kp [1, 5, 12, 13, 14, 15, 64, 65, 66] [56, 59, 76]]) (.block 0 shifts_Test_l1)) (.seq (.reg [om 78 15, om 79 14, od
 80 (fa 0 5), od 81 (ld 1 80), om 82 13, od 83 (.callv (tm 79) [(tm 81), (ku 0), (tm 82)]), od 84 (.bsl true 41 1 [(tm 83)]), oz 85 (.app false 41 1 (tm 78) (tm 84)) 76, om 15 85] [kp [1, 12, 13, 14, 15] [56, 59, 76]]) (.seq (.seq
 (.reg [om 86 1, od 87 (.call 9 [(tm 86)]), od 88 (.mv (ki 0))] [kp [12, 13, 14, 15, 87, 88] [56, 59, 76]]) (.gh (.block 2 shifts_Test_l3) [.frz 76])) (.seq (.reg [om 98 15, od 99 (.call 24 [(tm 98)]), om 6 99, od 7 (.mv (ki 0))]
 [kp [6, 7] []]) .ret)))))))))))))
theorem shifts_Test_l1_run (h : ∀ K : St → Prop, K = run P Γ shifts_Test_l1 Q → run P Γ shifts_Test_g0 (thenX K Q) s) : run P Γ shifts_Test_l1 Q s := run_loop h
theorem shifts_Test_l3_run (h : ∀ K : St → Prop, K = run P Γ shifts_Test_l3 Q → run P Γ shifts_Test_g2 (thenX K Q) s) : run P Γ shifts_Test_l3 Q s := run_loop h
def shifts_Test_rv : List RV := [.tmp 6, .tmp 7]

/- probecard/shifts.Test$1 (function 20) -/
abbrev shifts_Test_1_ic : IC := (.seq (.reg [od 6 (.mv kN)] [kp [0, 1, 2] []]) (.seq (.reg [om 7 0, om 8 1, od 9 (.bsl true 51 1 [(tm 8)]), om 10 2, od 11 (.bsl true 41 1 [(tm 7), (tm 9), (tm 10)]), od 12 (.call 22 [(tm 11)]), od 13 (.call 21 [(tm 12)]), om 6 13]
 [kp [6] []]) .ret))
def shifts_Test_1_rv : List RV := [.tmp 6]

/- probecard/shifts.Collect (function 11) -/
abbrev shifts_Collect_g0 : IC := .gh (.seq (.reg [od 57 (.bin .lss (tm 56) (tm 55))] [kp [2, 3, 6, 10, 11, 12, 13, 14, 47, 48, 49, 55, 56, 57] [6, 46, 106]]) (.seq (.cond (tm 57) .skip (.exit 2)) (.seq (.block 3 (.seq (.reg [om 58 56, om 15 58] [kp [2, 3, 6, 10,
 11, 12, 13, 14, 15, 47, 48, 49, 55, 56] [6, 46, 106]]) (.reg [om 59 12, om 60 14, om 61 14, od 62 (le 0 61), od 63 (.bin .sub (tm 62) (ki 1)), om 64 15, od 65 (.bin .sub (tm 63) (tm 64)), od 66 (ia 1 60 65), od 67 (ld 1 66), om 68
 2, om 69 10, od 70 (.bin .add (tm 69) (ki 1)), om 71 15, od 72 (.bin .add (tm 70) (tm 71)), od 73 (ia 2 68 72), od 74 (fa 0 73), od 75 (ld 1 74), om 76 11, om 77 13, od 78 (.bin .add (tm 76) (tm 77)), od 79 (ia 1 75 78), od 80 (ld
 1 79), on (.mup (.int .i64) (tm 59) (tm 67) (tm 80))] [kp [2, 3, 6, 10, 11, 12, 13, 14, 47, 48, 49, 55, 56] [6, 46, 106]]))) (.reg [od 81 (.bin .add (tm 56) (ki 1)), om 56 81] [kp [2, 3, 6, 10, 11, 12, 13, 14, 47, 48, 49, 55, 56]
 [6, 46, 106]])))) [kp [2, 3, 6, 10, 11, 12, 13, 14, 47, 48, 49, 55, 56] [6, 46, 106]]
def shifts_Collect_l1 : IC := .loop shifts_Collect_g0
abbrev shifts_Collect_g2 : IC := .gh (.seq (.reg [od 50 (.bin .lss (tm 49) (tm 48))] [kp [2, 3, 6, 10, 11, 12, 47, 48, 49, 50] [6, 46, 106]]) (.seq (.cond (tm 50) .skip (.exit 0)) (.seq (.block 1 (.seq (.reg [om 51 49, od 52 (ia 1 47 49), od 53 (ld 1 52), om 13
 51, om 14 53] [kp [2, 3, 6, 10, 11, 12, 13, 14, 47, 48, 49] [6, 46, 106]]) (.seq (.reg [om 54 14, od 55 (le 0 54), od 56 (.mv (ki 0))] [kp [2, 3, 6, 10, 11, 12, 13, 14, 47, 48, 49, 55, 56] [6, 46, 106]]) (.block 2
 shifts_Collect_l1)))) (.reg [od 82 (.bin .add (tm 49) (ki 1)), om 49 82] [kp [2, 3, 6, 10, 11, 12, 47, 48, 49] [6, 46, 106]])))) [kp [2, 3, 6, 10, 11, 12, 47, 48, 49] [6, 46, 106]]
def shifts_Collect_l3 : IC := .loop shifts_Collect_g2
abbrev shifts_Collect_g4 : IC := .gh (.seq (.reg [od 97 (.bin .lss (tm 96) (tm 95))] [kp [6, 12, 16, 94, 95, 96, 97] [6, 16, 46, 106]]) (.seq (.cond (tm 97) .skip (.exit 4)) (.seq (.block 5 (.seq (.reg [od 98 (ia 1 94 96), od 99 (ld 1 98), om 18 99] [kp [6, 12,
 16, 18, 94, 95, 96] [6, 16, 46, 106]]) (.reg [od 100 (fa 1 16), od 101 (ld 1 100), om 102 12, om 103 18, od 104 (.lkup (.int .i64) (.int .u8 0) false (tm 102) (tm 103)), od 105 (.bsl true 51 1 [(tm 104)]), od 106 (.app false 51 1
 (tm 101) (tm 105)), od 107 (fa 1 16), on (.store 1 (tm 107) (tm 106))] [kp [6, 12, 16, 94, 95, 96] [6, 16, 46, 106]]))) (.reg [od 108 (.bin .add (tm 96) (ki 1)), om 96 108] [kp [6, 12, 16, 94, 95, 96] [6, 16, 46, 106]])))) [kp [6,
 12, 16, 94, 95, 96] [6, 16, 46, 106]]
def shifts_Collect_l5 : IC := .loop shifts_Collect_g4
abbrev shifts_Collect_ic : IC := (.seq (.reg [od 3 (.box true (tm 0)), od 6 (.alloc false [(.slice none 0 0), (.slice none 0 0)]), od 7 (.mv (ki 0))] [kp [1, 2, 3, 6] [6, 106]]) (.seq (.reg [od 20 (lG 4 3), om 21 1, od 22 (.call 17 [(tm 20), (tm 21)]), om 19 22,
 od 23 (ex 19 0), od 24 (ex 19 1), od 8 (.alloc false [(.slice none 0 0), (.slice none 0 0), (.slice none 0 0), (.slice none 0 0), (.slice none 0 0), (.int .i64 0), (.slice none 0 0), (.slice none 0 0)]), on (.store 8 (tm 8) (tm
 23)), om 9 24] [.frz 8, kp [1, 2, 3, 6, 8, 9] [6, 8, 106]]) (.seq (.seq (.reg [om 25 9, od 26 (.bin .neq (tm 25) (ki 0))] [kp [1, 2, 3, 6, 8, 9, 26] [6, 8, 106]]) (.cond (tm 26) (.seq (.reg [od 27 (.build [(1, kN), (1, kN)]), om 28
 9, on (.store 2 (tm 6) (tm 27)), om 7 28] [kp [6, 7] [6, 106]]) .ret) .skip)) (.seq (.reg [om 29 1, od 30 (.call 9 [(tm 29)]), om 10 30] [kp [1, 2, 3, 6, 8, 10] [6, 8, 106]]) (.seq (.seq (.reg [om 31 2, od 32 (le 0 31), om 33 10,
 od 34 (.bin .mul (ki 2) (tm 33)), od 35 (.bin .add (tm 34) (ki 1)), od 36 (.bin .neq (tm 32) (tm 35)), om 37 36, oF 38 (.mv (tm 2)) 37, oF 39 (.mkf 27 [(tm 8)]) 37, oF 40 (.call 26 [(tm 38), (tm 39)]) 37, od 41 (.pick (tm 37) kT
 (tm 40))] [kp [1, 2, 3, 6, 10, 41] [6, 106]]) (.cond (tm 41) (.seq (.reg [od 42 (.build [(1, kN), (1, kN)]), on (.store 2 (tm 6) (tm 42)), od 7 (.mv (ki 8))] [kp [6, 7] [6, 106]]) .ret) .skip)) (.seq (.reg [od 43 (fa 3 3), od 44
 (ld 1 43), od 45 (le 0 44), om 11 45] [kp [1, 2, 3, 6, 10, 11] [6, 106]]) (.seq (.reg [od 46 (.mkmap), om 12 46] [kp [1, 2, 3, 6, 10, 11, 12] [6, 46, 106]]) (.seq (.seq (.reg [om 47 1, od 48 (le 0 47), od 49 (.mv (ki 0))] [kp [2,
 3, 6, 10, 11, 12, 47, 48, 49] [6, 46, 106]]) (.block 0 shifts_Collect_l3)) (.seq (.reg [om 83 2, om 84 10, od 85 (ia 2 83 84), od 86 (fa 0 85), od 87 (ld 1 86), om 88 11, od 89 (.slice 1 (tm 87) none (some (tm 88)) none), od 90
 (.call 28 [(tm 89)]), od 91 (.call 21 [(tm 90)]), od 92 (.build [(1, (tm 91)), (1, kN)]), od 16 (.alloc false [(.slice none 0 0), (.slice none 0 0)]), on (.store 2 (tm 16) (tm 92))] [.nlb 16 1 106 51 1, kp [3, 6, 12, 16] [6, 16,
 46, 106]]) (.seq (.seq (.reg [od 93 (lG 4 3), od 94 (.call 12 [(tm 93)]), od 95 (le 0 94), od 96 (.mv (ki 0))] [kp [6, 12, 16, 94, 95, 96] [6, 16, 46, 106]]) (.gh (.block 4 shifts_Collect_l5) [.frz 106])) (.seq (.reg [od 109 (fa 1
 16), od 110 (ld 1 109), od 111 (.call 21 [(tm 110)]), od 112 (fa 1 16), on (.store 1 (tm 112) (tm 111))] [kp [6, 16] [6, 16, 106]]) (.seq (.reg [od 113 (lG 2 16), on (.store 2 (tm 6) (tm 113)), od 7 (.mv (ki 0))] [kp [6, 7] [6,
 106]]) .ret))))))))))))
theorem shifts_Collect_l1_run (h : ∀ K : St → Prop, K = run P Γ shifts_Collect_l1 Q → run P Γ shifts_Collect_g0 (thenX K Q) s) : run P Γ shifts_Collect_l1 Q s := run_loop h
theorem shifts_Collect_l3_run (h : ∀ K : St → Prop, K = run P Γ shifts_Collect_l3 Q → run P Γ shifts_Collect_g2 (thenX K Q) s) : run P Γ shifts_Collect_l3 Q s := run_loop h
theorem shifts_Collect_l5_run (h : ∀ K : St → Prop, K = run P Γ shifts_Collect_l5 Q → run P Γ shifts_Collect_g4 (thenX K Q) s) : run P Γ shifts_Collect_l5 Q s := run_loop h
def shifts_Collect_rv : List RV := [.cell 6 2 true, .tmp 7]

/- probecard/shifts.Collect$1 (function 27) -/
abbrev shifts_Collect_1_ic : IC := (.seq (.reg [od 2 (.box true (tm 0)), od 3 (.mv kF)] [kp [1, 2] []]) (.seq (.reg [od 4 (fa 0 2), od 5 (ld 1 4), od 6 (le 0 5), od 7 (fa 0 1), od 8 (fa 3 7), od 9 (ld 1 8), od 10 (le 0 9), od 11 (.bin .neq (tm 6) (tm 10)), om 3 11]
 [kp [3] []]) .ret))
def shifts_Collect_1_rv : List RV := [.tmp 3]

/- slices.Clip[[][]probecard/api.Value,[]probecard/api.Value] (function 24) -/
abbrev slices_Clip_api_Values_ic : IC := (.seq (.reg [od 2 (.mv kN)] [kp [0] []]) (.seq (.reg [om 3 0, om 4 0, od 5 (le 0 4), om 6 0, od 7 (le 0 6), od 8 (.slice 1 (tm 3) none (some (tm 5)) (some (tm 7))), om 2 8] [kp [2] []]) .ret))
def slices_Clip_api_Values_rv : List RV := [.tmp 2]

/- slices.ContainsFunc[[]probecard/api.Response,probecard/api.Response] (function 26) -/
abbrev slices_ContainsFunc_api_Response_ic : IC := (.seq (.reg [od 4 (.mv kF)] [kp [0, 1] []]) (.seq (.reg [om 5 0, om 6 1, od 7 (.call 45 [(tm 5), (tm 6)]), od 8 (.bin .geq (tm 7) (ki 0)), om 4 8] [kp [4] []]) .ret))
def slices_ContainsFunc_api_Response_rv : List RV := [.tmp 4]

/- slices.IndexFunc[[]probecard/api.Response,probecard/api.Response] (function 45) -/
abbrev slices_IndexFunc_api_Response_g0 : IC := .gh (.seq (.reg [od 9 (.bin .lss (tm 8) (tm 7))] [kp [0, 1, 7, 8, 9] []]) (.seq (.cond (tm 9) .skip (.exit 0)) (.seq (.block 1 (.seq (.reg [om 10 8, om 5 10] [kp [0, 1, 5, 7, 8] []]) (.seq (.reg [om 11 1, om 12 0, om 13 5, od 14
 (ia 2 12 13), od 15 (lG 2 14), od 16 (.callv (tm 11) [(tm 15)])] [kp [0, 1, 5, 7, 8, 16] []]) (.cond (tm 16) (.seq (.reg [om 17 5, om 4 17] [kp [4] []]) .ret) .skip)))) (.reg [od 18 (.bin .add (tm 8) (ki 1)), om 8 18] [kp [0, 1, 7,
 8] []])))) [kp [0, 1, 7, 8] []]
def slices_IndexFunc_api_Response_l1 : IC := .loop slices_IndexFunc_api_Response_g0
abbrev slices_IndexFunc_api_Response_ic : IC := (.seq (.reg [od 4 (.mv (ki 0))] [kp [0, 1] []]) (.seq (.seq (.reg [om 6 0, od 7 (le 0 6), od 8 (.mv (ki 0))] [kp [0, 1, 7, 8] []]) (.block 0 slices_IndexFunc_api_Response_l1)) (.seq (.reg [od 4 (.mv (.const (.int .i64 (-1))))] [kp
 [4] []]) .ret)))
theorem slices_IndexFunc_api_Response_l1_run (h : ∀ K : St → Prop, K = run P Γ slices_IndexFunc_api_Response_l1 Q → run P Γ slices_IndexFunc_api_Response_g0 (thenX K Q) s) : run P Γ slices_IndexFunc_api_Response_l1 Q s := run_loop h
def slices_IndexFunc_api_Response_rv : List RV := [.tmp 4]

/- probecard/probecardlaw35.row (function 25) -/
abbrev law35_row_ic : IC := (.seq (.reg [od 0 (.alloc false [(.slice none 0 0), (.slice none 0 0), (.slice none 0 0), (.slice none 0 0)])] [kp [0] [0]]) (.seq (.reg [od 2 (.bsl true 3 1 [(ki 0)]), od 3 (.build [(1, (ku 14)), (1, (tm 2)), (1, (ki 0)), (1, (ki
 0))]), od 1 (.alloc false [(.int .u8 0), (.slice none 0 0), (.int .i64 0), (.int .i64 0)]), on (.store 4 (tm 1) (tm 3))] [kp [0, 1] [0, 1]]) (.seq (.reg [od 4 (.build [(1, (ku 0)), (1, kN), (1, (ki 0)), (1, (ki 0))]), od 5 (lG 4
 1), od 6 (lG 4 1), od 7 (lG 4 1), od 8 (.bsl true 81 4 [(tm 4), (tm 5), (tm 6), (tm 7)]), od 9 (.bsl true 9 1 [(.const (sV [97])), (.const (sV [102])), (.const (sV [103])), (.const (sV [104]))]), od 10 (.bsl true 3 1 [(ki 0)]), od
 11 (.build [(1, (tm 8)), (1, (tm 9)), (1, kN), (1, (tm 10))]), on (.store 4 (tm 0) (tm 11))] [kp [0] [0]]) .ret)))
def law35_row_rv : List RV := [.cell 0 4 true]

/- probecard/probecardlaw35.lives (function 10) -/
abbrev law35_lives_ic : IC := (.seq (.reg [od 0 (.mv kF)] [kp [] []]) (.seq (.reg [od 6 (.bsl true 3 1 [(ki 1), (ki 2)]), od 7 (.bsl true 3 1 [(ki 3)]), od 8 (.bsl true 35 1 [(tm 6), (tm 7)]), om 1 8] [kp [1] []]) (.seq (.reg [od 10 (.call 25 []), om 11 1, od
 12 (.bsl true 51 1 [(ku 0), (ku 1), (ku 1)]), od 13 (.call 8 [(tm 10), (tm 11), (tm 12)]), om 9 13, od 14 (ex 9 0), od 15 (ex 9 1), om 2 14, om 3 15] [kp [1, 2, 3] []]) (.seq (.reg [od 17 (.call 25 []), om 18 1, od 19 (.bsl true 51
 1 [(ku 1)]), od 20 (.bsl true 51 1 [(ku 0), (ku 1), (ku 1)]), od 21 (.build [(1, (tm 19)), (1, (tm 20))]), od 22 (.call 7 [(tm 17), (tm 18), (tm 21)]), om 16 22, od 23 (ex 16 0), od 24 (ex 16 1), om 4 23, om 5 24] [kp [2, 3, 4, 5]
 []]) (.seq (.seq (.reg [om 25 3, od 26 (.bin .neq (tm 25) (ki 0)), om 27 26, oF 28 (.mv (tm 5)) 27, oF 29 (.bin .neq (tm 28) (ki 0)) 27, od 30 (.pick (tm 27) kT (tm 29)), om 31 30, oF 32 (.mv (tm 2)) 31, oF 33 (le 0 32) 31, oF 34
 (.bin .neq (tm 33) (ki 2)) 31, od 35 (.pick (tm 31) kT (tm 34)), om 36 35, oF 37 (.mv (tm 2)) 36, oF 38 (.iadr 1 (tm 37) (ki 0)) 36, oF 39 (ld 1 38) 36, oF 40 (le 0 39) 36, oF 41 (.bin .neq (tm 40) (ki 2)) 36, od 42 (.pick (tm 36)
 kT (tm 41)), om 43 42, oF 44 (.mv (tm 2)) 43, oF 45 (.iadr 1 (tm 44) (ki 1)) 43, oF 46 (ld 1 45) 43, oF 47 (le 0 46) 43, oF 48 (.bin .neq (tm 47) (ki 2)) 43, od 49 (.pick (tm 43) kT (tm 48)), om 50 49, oF 51 (.mv (tm 4)) 50, oF 52
 (le 0 51) 50, oF 53 (.bin .neq (tm 52) (ki 5)) 50, od 54 (.pick (tm 50) kT (tm 53))] [kp [2, 54] []]) (.cond (tm 54) (.seq (.reg [od 0 (.mv kF)] [kp [0] []]) .ret) .skip)) (.seq (.reg [om 55 2, od 56 (.iadr 1 (tm 55) (ki 0)), od 57
 (ld 1 56), od 58 (.iadr 1 (tm 57) (ki 0)), od 59 (ld 1 58), od 60 (.bin .eql (tm 59) (ku 1)), om 61 60, oT 62 (.mv (tm 2)) 61, oT 63 (.iadr 1 (tm 62) (ki 0)) 61, oT 64 (ld 1 63) 61, oT 65 (.iadr 1 (tm 64) (ki 1)) 61, oT 66 (ld 1
 65) 61, oT 67 (.bin .eql (tm 66) (ku 0)) 61, od 68 (.pick (tm 61) (tm 67) kF), om 69 68, oT 70 (.mv (tm 2)) 69, oT 71 (.iadr 1 (tm 70) (ki 1)) 69, oT 72 (ld 1 71) 69, oT 73 (.iadr 1 (tm 72) (ki 0)) 69, oT 74 (ld 1 73) 69, oT 75
 (.bin .eql (tm 74) (ku 0)) 69, od 76 (.pick (tm 69) (tm 75) kF), om 77 76, oT 78 (.mv (tm 2)) 77, oT 79 (.iadr 1 (tm 78) (ki 1)) 77, oT 80 (ld 1 79) 77, oT 81 (.iadr 1 (tm 80) (ki 1)) 77, oT 82 (ld 1 81) 77, oT 83 (.bin .eql (tm
 82) (ku 1)) 77, od 84 (.pick (tm 77) (tm 83) kF), om 0 84] [kp [0] []]) .ret))))))
def law35_lives_rv : List RV := [.tmp 0]
end
end Go.Lg

/- The abstract code is that of the program (by the kernel). Conditions: none. -/
namespace Go.Lg
open Go Go.Proofs
theorem shifts_Depth_chk : chkF Tryd.prog 9 shifts_Depth_ic 18 1 shifts_Depth_rv = true := by kernel_rfl
theorem shifts_values_chk : chkF Tryd.prog 19 shifts_values_ic 11 2 shifts_values_rv = true := by kernel_rfl
theorem shifts_values_1_chk : chkF Tryd.prog 42 shifts_values_1_ic 5 1 shifts_values_1_rv = true := by kernel_rfl
theorem shifts_loads_chk : chkF Tryd.prog 23 shifts_loads_ic 75 3 shifts_loads_rv = true := by kernel_rfl
theorem shifts_Loads_chk : chkF Tryd.prog 8 shifts_Loads_ic 32 3 shifts_Loads_rv = true := by kernel_rfl
theorem shifts_Test_chk : chkF Tryd.prog 7 shifts_Test_ic 100 3 shifts_Test_rv = true := by kernel_rfl
theorem shifts_Test_1_chk : chkF Tryd.prog 20 shifts_Test_1_ic 14 3 shifts_Test_1_rv = true := by kernel_rfl
theorem shifts_Collect_chk : chkF Tryd.prog 11 shifts_Collect_ic 114 3 shifts_Collect_rv = true := by kernel_rfl
theorem shifts_Collect_1_chk : chkF Tryd.prog 27 shifts_Collect_1_ic 12 2 shifts_Collect_1_rv = true := by kernel_rfl
theorem slices_Clip_api_Values_chk : chkF Tryd.prog 24 slices_Clip_api_Values_ic 9 1 slices_Clip_api_Values_rv = true := by kernel_rfl
theorem slices_ContainsFunc_api_Response_chk : chkF Tryd.prog 26 slices_ContainsFunc_api_Response_ic 9 2 slices_ContainsFunc_api_Response_rv = true := by kernel_rfl
theorem slices_IndexFunc_api_Response_chk : chkF Tryd.prog 45 slices_IndexFunc_api_Response_ic 19 2 slices_IndexFunc_api_Response_rv = true := by kernel_rfl
theorem law35_row_chk : chkF Tryd.prog 25 law35_row_ic 12 0 law35_row_rv = true := by kernel_rfl
theorem law35_lives_chk : chkF Tryd.prog 10 law35_lives_ic 85 0 law35_lives_rv = true := by kernel_rfl
end Go.Lg

/- The abstract code of some functions, as the program gen.py prints it. Conditions: none. -/
set_option linter.unusedVariables false
namespace Go.Lg
open Go
section
variable {P : Program} {Γ : Tables} {Q : AX → St → Prop} {s : St}
/- slices.Concat[[]probecard/api.Value,probecard/api.Value] (function 22) -/
abbrev slices_Concat_api_Value_g0 : IC := .gh (.seq (.reg [od 12 (.bin .lss (tm 11) (tm 10))] [kp [0, 3, 9, 10, 11, 12] []]) (.seq (.cond (tm 12) .skip (.exit 0)) (.seq (.block 1 (.seq (.reg [od 13 (ia 1 9 11), od 14 (ld 1 13), om 5 14] [kp [0, 3, 5, 9, 10, 11] []]) (.seq
 (.reg [om 15 3, om 16 5, od 17 (le 0 16), od 18 (.bin .add (tm 15) (tm 17)), om 3 18] [kp [0, 3, 9, 10, 11] []]) (.seq (.reg [om 19 3, od 20 (.bin .lss (tm 19) (ki 0))] [kp [0, 3, 9, 10, 11, 20] []]) (.cond (tm 20) .dead .skip)))))
 (.reg [od 22 (.bin .add (tm 11) (ki 1)), om 11 22] [kp [0, 3, 9, 10, 11] []])))) [kp [0, 3, 9, 10, 11] []]
def slices_Concat_api_Value_l1 : IC := .loop slices_Concat_api_Value_g0
abbrev slices_Concat_api_Value_g2 : IC := .gh (.seq (.reg [od 28 (.bin .lss (tm 27) (tm 26))] [kp [6, 25, 26, 27, 28] [24022]]) (.seq (.cond (tm 28) .skip (.exit 2)) (.seq (.block 3 (.seq (.reg [od 29 (ia 1 25 27), od 30 (ld 1 29), om 8 30] [kp [6, 8, 25, 26, 27] [24022]])
 (.reg [om 31 6, om 32 8, oz 33 (.app false 51 1 (tm 31) (tm 32)) 24022, om 6 33] [kp [6, 25, 26, 27] [24022]]))) (.reg [od 34 (.bin .add (tm 27) (ki 1)), om 27 34] [kp [6, 25, 26, 27] [24022]])))) [kp [6, 25, 26, 27] [24022]]
def slices_Concat_api_Value_l3 : IC := .loop slices_Concat_api_Value_g2
abbrev slices_Concat_api_Value_ic : IC := (.seq (.reg [od 2 (.mv kN)] [kp [0] []]) (.seq (.reg [od 3 (.mv (ki 0))] [kp [0, 3] []]) (.seq (.seq (.reg [om 9 0, od 10 (le 0 9), od 11 (.mv (ki 0))] [kp [0, 3, 9, 10, 11] []]) (.block 0 slices_Concat_api_Value_l1)) (.seq (.reg
 [om 23 3, od 24 (.hcall 43 [kN, (tm 23)] [] 24000), om 6 24] [kp [0, 6] [24022]]) (.seq (.seq (.reg [om 25 0, od 26 (le 0 25), od 27 (.mv (ki 0))] [kp [6, 25, 26, 27] [24022]]) (.block 2 slices_Concat_api_Value_l3)) (.seq (.reg [om
 35 6, om 2 35] [kp [2] [24022]]) .ret))))))
theorem slices_Concat_api_Value_l1_run (h : ∀ K : St → Prop, K = run P Γ slices_Concat_api_Value_l1 Q → run P Γ slices_Concat_api_Value_g0 (thenX K Q) s) : run P Γ slices_Concat_api_Value_l1 Q s := run_loop h
theorem slices_Concat_api_Value_l3_run (h : ∀ K : St → Prop, K = run P Γ slices_Concat_api_Value_l3 Q → run P Γ slices_Concat_api_Value_g2 (thenX K Q) s) : run P Γ slices_Concat_api_Value_l3 Q s := run_loop h
def slices_Concat_api_Value_rv : List RV := [.tmp 2]

/- slices.Clone[[]probecard/api.Value,probecard/api.Value] (function 28) -/
abbrev slices_Clone_api_Value_ic : IC := (.seq (.reg [od 2 (.mv kN)] [kp [0] []]) (.seq (.seq (.reg [om 3 0, od 4 (.isNil true (tm 3))] [kp [0, 4] []]) (.cond (tm 4) (.seq (.reg [od 2 (.mv kN)] [kp [2] []]) .ret) .skip)) (.seq (.reg [od 5 (.bsl true 51 1 []), om 6 0, od 7
 (.appT 51 1 (tm 5) (tm 6)), om 2 7] [kp [2] []]) .ret)))
def slices_Clone_api_Value_rv : List RV := [.tmp 2]

/- slices.Grow[[]probecard/api.Value,probecard/api.Value] (function 43) -/
abbrev slices_Grow_api_Value_ic : IC := (.seq (.reg [od 4 (.mv kN)] [kp [0, 1] [22]]) (.seq (.seq (.reg [om 5 1, od 6 (.bin .lss (tm 5) (ki 0))] [kp [0, 1, 6] [22]]) (.cond (tm 6) .dead .skip)) (.seq (.seq (.reg [om 8 1, om 9 0, od 10 (.cap (tm 9)), om 11 0, od 12 (le 0
 11), od 13 (.bin .sub (tm 10) (tm 12)), od 14 (.bin .sub (tm 8) (tm 13)), om 1 14] [kp [0, 1] [22]]) (.seq (.reg [om 15 1, od 16 (.bin .gtr (tm 15) (ki 0))] [kp [0, 1, 16] [22]]) (.cond (tm 16) (.reg [om 17 0, om 18 0, od 19 (.cap
 (tm 18)), od 20 (.slice 1 (tm 17) none (some (tm 19)) none), om 21 1, od 22 (.appZ 51 1 [(.int .u8 0)] (tm 20) (tm 21)), om 23 0, od 24 (le 0 23), od 25 (.slice 1 (tm 22) none (some (tm 24)) none), om 0 25] [kp [0] [22]]) .skip)))
 (.seq (.reg [om 26 0, om 4 26] [kp [4] [22]]) .ret))))
def slices_Grow_api_Value_rv : List RV := [.tmp 4]
end
end Go.Lg

/- The abstract code is that of the program (by the kernel). Conditions: none. -/
namespace Go.Lg
open Go Go.Proofs
theorem slices_Concat_api_Value_chk : chkF Tryd.prog 22 slices_Concat_api_Value_ic 36 1 slices_Concat_api_Value_rv = true := by kernel_rfl
theorem slices_Clone_api_Value_chk : chkF Tryd.prog 28 slices_Clone_api_Value_ic 8 1 slices_Clone_api_Value_rv = true := by kernel_rfl
theorem slices_Grow_api_Value_chk : chkF Tryd.prog 43 slices_Grow_api_Value_ic 27 2 slices_Grow_api_Value_rv = true := by kernel_rfl
end Go.Lg

/- slices.Concat of values. Conditions: none. -/
set_option linter.unusedSimpArgs false
set_option linter.unusedVariables false
set_option maxRecDepth 100000
namespace Go.Lg
open Go Go.Proofs
variable {Γ : Tables}

theorem grow_h (n : Nat) (h0 : 0 < n) (hn : n ≤ 1000000000) : HCalls Tryd.prog Γ 43 [] [.t (.sl [] (some 0) (some true)), .t (tI n)] (.ls 22 0 0 none) [(22, .sl 51 1 (List.replicate n [tK 0]))] := by
  refine run_handQ slices_Grow_api_Value_chk rfl ?_
  have h1 : (0 : Int) < n := by omega
  have h2 : ¬ (n : Int) < 0 := by omega
  have h3 : (n : Int) ≤ 2147483648 := by omega
  simp (disch := omega) [slices_Grow_api_Value_ic, slices_Grow_api_Value_rv, h1, h2, h3, h0, wrap_i64]

theorem concat_l1 {Q : AX → St → Prop} (ss : List (Sl Int)) (cap : Option Nat) (nl : Option Bool) (hs : ss.length ≤ 1000) (hl : ∀ s ∈ ss, s.l.length ≤ 1000000) (N : Nat)
    (h0 : Q (.exit 0) ⟨[(0, .t (.sl (enc1 tV ss) cap nl)), (3, .t (tI N)), (9, .t (.sl (enc1 tV ss) cap nl)), (10, .t (tI ss.length)), (11, .t (tI ss.length)), (12, .t (tB false))], []⟩) :
    ∀ (k i m : Nat), k + i = ss.length → m ≤ i * 1000000 → m + ((ss.drop i).flatMap (·.l)).length = N →
    run Tryd.prog Γ slices_Concat_api_Value_l1 Q ⟨[(0, .t (.sl (enc1 tV ss) cap nl)), (3, .t (tI m)), (9, .t (.sl (enc1 tV ss) cap nl)), (10, .t (tI ss.length)), (11, .t (tI i))], []⟩
  | 0, i, m, h, hm, hN => by
    refine slices_Concat_api_Value_l1_run fun K hK => ?_
    have h3 : i = ss.length := by omega
    subst h3
    rw [List.drop_of_length_le (Nat.le_refl _)] at hN
    simp at hN
    subst hN
    simp
    exact h0
  | k + 1, i, m, h, hm, hN => by
    refine slices_Concat_api_Value_l1_run fun K hK => ?_
    have h2 : i < ss.length := by omega
    rw [List.drop_eq_getElem_cons h2] at hN
    have e := enc1_get (f := tV) ⟨[], none, none⟩ h2
    have e2 : ss[i]?.getD ⟨[], none, none⟩ = ss[i] := by simp [h2]
    rw [e2] at e
    have hsl := hl _ (List.getElem_mem h2)
    generalize ss[i] = s at *
    simp at hN
    have ih := concat_l1 ss cap nl hs hl N h0 k (i + 1) (m + s.l.length) (by omega) (by omega) (by simp; omega)
    have e' : ∀ h : i < (enc1 tV ss).length, (enc1 tV ss)[i] = [tV s] := fun h => by rw [← e]; simp [h]
    have w1 : IntKind.i64.wrap ((m : Int) + (s.l.length : Int)) = ((m + s.l.length : Nat) : Int) := by rw [wrap_i64] <;> omega
    have w2 : ¬ ((m : Int) + (s.l.length : Int)) < 0 := by omega
    have w1' : IntKind.i64.wrap ((m : Int) + (s.l.length : Int)) = (m : Int) + (s.l.length : Int) := by rw [wrap_i64] <;> omega
    simp only [tV] at e e'
    simp [h2, enc1_len, enc1_wid, e, e', w1', w2]
    rw [wrap_i64 (by omega) (by omega), hK]
    simpa [tV] using ih

theorem concat_l3 {Q : AX → St → Prop} (ss : List (Sl Int)) (cap : Option Nat) (nl : Option Bool) (hs : ss.length ≤ 1000) (hl : ∀ s ∈ ss, s.l.length ≤ 1000000) (R : List Int)
    (h0 : ∀ E : List (List T), E.take R.length = vals R → flatReg (.sl 51 1 E) → Q (.exit 2) ⟨[(6, .ls 24022 0 R.length none), (25, .t (.sl (enc1 tV ss) cap nl)), (26, .t (tI ss.length)), (27, .t (tI ss.length)), (28, .t (tB false))], [(24022, .sl 51 1 E)]⟩) :
    ∀ (k i : Nat) (acc : List Int) (E : List (List T)), k + i = ss.length → acc.length ≤ i * 1000000 → E.take acc.length = vals acc → flatReg (.sl 51 1 E) → acc ++ (ss.drop i).flatMap (·.l) = R →
    run Tryd.prog Γ slices_Concat_api_Value_l3 Q ⟨[(6, .ls 24022 0 acc.length none), (25, .t (.sl (enc1 tV ss) cap nl)), (26, .t (tI ss.length)), (27, .t (tI i))], [(24022, .sl 51 1 E)]⟩
  | 0, i, acc, E, h, hm, hE, hF, hR => by
    refine slices_Concat_api_Value_l3_run fun K hK => ?_
    have h3 : i = ss.length := by omega
    subst h3
    rw [List.drop_of_length_le (Nat.le_refl _)] at hR
    simp at hR
    subst hR
    simp
    exact h0 E hE hF
  | k + 1, i, acc, E, h, hm, hE, hF, hR => by
    refine slices_Concat_api_Value_l3_run fun K hK => ?_
    have h2 : i < ss.length := by omega
    rw [List.drop_eq_getElem_cons h2] at hR
    have e := enc1_get (f := tV) ⟨[], none, none⟩ h2
    have e2 : ss[i]?.getD ⟨[], none, none⟩ = ss[i] := by simp [h2]
    rw [e2] at e
    have hsl := hl _ (List.getElem_mem h2)
    generalize ss[i] = s at *
    have q : vals acc ++ vals s.l = vals (acc ++ s.l) := enc1_app
    have ih := concat_l3 ss cap nl hs hl R h0 k (i + 1) (acc ++ s.l) (vals (acc ++ s.l)) (by omega) (by simp; omega) enc1_take_len (flatReg_enc1 fun _ => rfl) (by rw [← hR]; simp)
    have e' : ∀ h : i < (enc1 tV ss).length, (enc1 tV ss)[i] = [tV s] := fun h => by rw [← e]; simp [h]
    simp only [tV] at e e'
    have hm : min acc.length E.length = acc.length := by have := congrArg List.length hE; simpa [enc1_len] using this
    simp [h2, enc1_len, enc1_wid, e, e', hE, q, hm]
    refine ⟨by omega, ?_⟩
    rw [wrap_i64 (by omega) (by omega), hK]
    simpa [tV] using ih

theorem concat_spec (ss : List (Sl Int)) (cap : Option Nat) (nl : Option Bool) (hs : ss.length ≤ 1000) (hl : ∀ s ∈ ss, s.l.length ≤ 1000000) (h0 : 0 < (ss.flatMap (·.l)).length) :
    FreshCalls Tryd.prog Γ 22 [.sl (enc1 tV ss) cap nl] (.sl (vals (ss.flatMap (·.l))) none none) := by
  refine run_freshQ slices_Concat_api_Value_chk rfl ?_
  have hb : ∀ l : List (Sl Int), (∀ s ∈ l, s.l.length ≤ 1000000) → (l.flatMap (·.l)).length ≤ l.length * 1000000 := by
    intro l
    induction l with
    | nil => intro _; simp
    | cons s l ih =>
      intro h
      have h1 := h s List.mem_cons_self
      have h2 := ih fun x hx => h x (List.mem_cons_of_mem _ hx)
      simp at h2 ⊢
      omega
  have hb := hb ss hl
  have g1 := fun Q h0 => concat_l1 (Γ := Γ) (Q := Q) ss cap nl hs hl (ss.flatMap (·.l)).length h0 ss.length 0 0 (by omega) (by omega) (by simp)
  have g2 := grow_h (Γ := Γ) (ss.flatMap (·.l)).length h0 (by omega)
  have g3 := fun Q h0 E hE hF => concat_l3 (Γ := Γ) (Q := Q) ss cap nl hs hl (ss.flatMap (·.l)) h0 ss.length 0 [] E (by omega) (by simp) hE hF (by simp)
  generalize ss.flatMap (·.l) = R at *
  simp [slices_Concat_api_Value_ic, enc1_len]
  refine g1 _ ?_
  simp
  refine ⟨_, _, g2, ?_⟩
  simp [enc1_len]
  refine g3 _ (fun E hE hF => ?_) _ (by simp [enc1]) (fun e he t ht => by rw [List.eq_of_mem_replicate he] at ht; simp at ht; subst ht; rfl)
  simp [slices_Concat_api_Value_rv, hE]
  exact hF
end Go.Lg

/- The abstract code of some functions, as the program gen.py prints it. Conditions: none. -/
set_option linter.unusedVariables false
namespace Go.Lg
open Go
section
variable {P : Program} {Γ : Tables} {Q : AX → St → Prop} {s : St}
/- probecard/scans.Insert (function 17) -/
abbrev scans_Insert_g0 : IC := .gh (.seq (.reg [od 51 (.bin .lss (tm 50) (tm 49))] [kp [1, 2, 4, 7, 8, 48, 49, 50, 51] [4, 44, 46, 78, 90, 111, 157, 62040, 62052]]) (.seq (.cond (tm 51) .skip (.exit 0)) (.seq (.block 1 (.seq (.reg [od 52 (ia 1 48 50), od 53 (ld
 1 52), om 10 53] [kp [1, 2, 4, 7, 8, 10, 48, 49, 50] [4, 44, 46, 78, 90, 111, 157, 62040, 62052]]) (.reg [om 54 8, od 55 (.nck (tm 54)), od 56 (fa 4 55), od 57 (ld 1 56), om 58 10, on (.mup .str (tm 57) (tm 58) kT)] [kp [1, 2, 4,
 7, 8, 48, 49, 50] [4, 44, 46, 78, 90, 111, 157, 62040, 62052]]))) (.reg [od 59 (.bin .add (tm 50) (ki 1)), om 50 59] [kp [1, 2, 4, 7, 8, 48, 49, 50] [4, 44, 46, 78, 90, 111, 157, 62040, 62052]])))) [kp [1, 2, 4, 7, 8, 48, 49, 50]
 [4, 44, 46, 78, 90, 111, 157, 62040, 62052]]
def scans_Insert_l1 : IC := .loop scans_Insert_g0
abbrev scans_Insert_g2 : IC := .gh (.seq (.reg [od 95 (.bin .lss (tm 94) (tm 93))] [kp [2, 4, 7, 8, 11, 12, 15, 65, 66, 67, 92, 93, 94, 95] [4, 11, 44, 46, 64, 78, 90, 111, 157, 62040, 62052]]) (.seq (.cond (tm 95) .skip (.exit 4)) (.seq (.block 5 (.seq (.reg
 [od 96 (ia 1 92 94), od 97 (ld 1 96), om 17 97] [kp [2, 4, 7, 8, 11, 12, 15, 17, 65, 66, 67, 92, 93, 94] [4, 11, 44, 46, 64, 78, 90, 111, 157, 62040, 62052]]) (.reg [om 98 12, om 99 17, om 100 15, om 101 17, on (.mup (.int .i64)
 (tm 98) (tm 99) (tm 100)), om 15 101] [kp [2, 4, 7, 8, 11, 12, 15, 65, 66, 67, 92, 93, 94] [4, 11, 44, 46, 64, 78, 90, 111, 157, 62040, 62052]]))) (.reg [od 102 (.bin .add (tm 94) (ki 1)), om 94 102] [kp [2, 4, 7, 8, 11, 12, 15,
 65, 66, 67, 92, 93, 94] [4, 11, 44, 46, 64, 78, 90, 111, 157, 62040, 62052]])))) [kp [2, 4, 7, 8, 11, 12, 15, 65, 66, 67, 92, 93, 94] [4, 11, 44, 46, 64, 78, 90, 111, 157, 62040, 62052]]
def scans_Insert_l3 : IC := .loop scans_Insert_g2
abbrev scans_Insert_g4 : IC := .gh (.seq (.reg [od 68 (.bin .lss (tm 67) (tm 66))] [kp [2, 4, 7, 8, 11, 12, 65, 66, 67, 68] [4, 11, 44, 46, 64, 78, 90, 111, 157, 62040, 62052]]) (.seq (.cond (tm 68) .skip (.exit 2)) (.seq (.block 3 (.seq (.reg [om 69 67, od 70
 (ia 1 65 67), od 71 (ld 1 70), om 13 69, om 14 71] [kp [2, 4, 7, 8, 11, 12, 13, 14, 65, 66, 67] [4, 11, 44, 46, 64, 78, 90, 111, 157, 62040, 62052]]) (.seq (.reg [od 72 (fa 4 11), od 73 (.ldR 11 1 false (tm 72)), om 74 14, od 75
 (.call 36 [(tm 74)]), od 76 (.call 35 [(tm 75)]), od 77 (.bsl true 35 1 [(tm 76)]), od 78 (.app false 35 1 (tm 73) (tm 77)), od 79 (fa 4 11), on (.stR 11 1 (tm 79) (tm 78))] [kp [2, 4, 7, 8, 11, 12, 13, 14, 65, 66, 67] [4, 11, 44,
 46, 64, 78, 90, 111, 157, 62040, 62052]]) (.seq (.reg [om 80 8, od 81 (.build [(1, (ku 0)), (1, kN), (1, (ki 0)), (1, (ki 0))]), om 82 13, od 83 (.call 37 [(tm 82)]), od 84 (.bin .add (.const (sV [115, 105])) (tm 83)), od 85
 (.hcall 34 [(tm 80), (tm 81), (tm 84)] [44, 46, 111, 62040, 62052] 85000), om 15 85] [.ren 85040 62040, .ren 85052 62052, kp [2, 4, 7, 8, 11, 12, 14, 15, 65, 66, 67] [4, 11, 44, 46, 64, 78, 90, 111, 157, 62040, 62052]]) (.seq (.reg
 [od 86 (fa 6 11), od 87 (ld 1 86), om 88 15, od 89 (.bsl true 3 1 [(tm 88)]), od 90 (.app false 3 1 (tm 87) (tm 89)), od 91 (fa 6 11), on (.store 1 (tm 91) (tm 90))] [kp [2, 4, 7, 8, 11, 12, 14, 15, 65, 66, 67] [4, 11, 44, 46, 64,
 78, 90, 111, 157, 62040, 62052]]) (.seq (.seq (.reg [om 92 14, od 93 (le 0 92), od 94 (.mv (ki 0))] [kp [2, 4, 7, 8, 11, 12, 15, 65, 66, 67, 92, 93, 94] [4, 11, 44, 46, 64, 78, 90, 111, 157, 62040, 62052]]) (.block 4
 scans_Insert_l3)) (.reg [om 103 8, om 104 8, od 105 (.nck (tm 104)), od 106 (fa 0 105), od 107 (fa 3 106), od 108 (ld 1 107), om 109 15, od 110 (.bsl true 3 1 [(tm 109)]), od 111 (.app false 3 1 (tm 108) (tm 110)), od 112 (.nck (tm
 103)), od 113 (fa 0 112), od 114 (fa 3 113), on (.store 1 (tm 114) (tm 111))] [kp [2, 4, 7, 8, 11, 12, 65, 66, 67] [4, 11, 44, 46, 64, 78, 90, 111, 157, 62040, 62052]]))))))) (.reg [od 115 (.bin .add (tm 67) (ki 1)), om 67 115] [kp
 [2, 4, 7, 8, 11, 12, 65, 66, 67] [4, 11, 44, 46, 64, 78, 90, 111, 157, 62040, 62052]])))) [kp [2, 4, 7, 8, 11, 12, 65, 66, 67] [4, 11, 44, 46, 64, 78, 90, 111, 157, 62040, 62052]]
def scans_Insert_l5 : IC := .loop scans_Insert_g4
abbrev scans_Insert_g6 : IC := .gh (.seq (.reg [od 119 (.bin .lss (tm 118) (tm 117))] [kp [2, 4, 8, 11, 12, 116, 117, 118, 119] [4, 11, 44, 46, 64, 78, 90, 111, 157, 62040, 62052]]) (.seq (.cond (tm 119) .skip (.exit 6)) (.seq (.block 7 (.seq (.reg [om 120 118,
 od 121 (ia 1 116 118), od 122 (ld 1 121), om 18 120, om 19 122] [kp [2, 4, 8, 11, 12, 18, 19, 116, 117, 118] [4, 11, 44, 46, 64, 78, 90, 111, 157, 62040, 62052]]) (.seq (.reg [om 123 8, od 124 (fa 5 11), od 125 (ld 1 124), od 126
 (fa 0 2), od 127 (ld 1 126), om 128 19, od 129 (ia 4 127 128), od 130 (fa 1 129), od 131 (ld 1 130), od 132 (.iadr 1 (tm 131) (ki 0)), od 133 (ld 1 132), om 134 12, om 135 19, od 136 (.lkup (.int .i64) (.int .i64 0) false (tm 134)
 (tm 135)), od 137 (.bsl true 3 1 [(tm 125), (tm 133), (tm 136)]), od 138 (.build [(1, (ku 11)), (1, (tm 137)), (1, (ki 0)), (1, (ki 0))]), om 139 18, od 140 (.call 37 [(tm 139)]), od 141 (.bin .add (.const (sV [115, 109])) (tm
 140)), od 142 (.hcall 34 [(tm 123), (tm 138), (tm 141)] [44, 46, 111, 62040, 62052] 142000), om 20 142] [.ren 142040 62040, .ren 142052 62052, kp [2, 4, 8, 11, 12, 19, 20, 116, 117, 118] [4, 11, 44, 46, 64, 78, 90, 111, 157, 62040,
 62052]]) (.seq (.reg [om 143 8, od 144 (.nck (tm 143)), od 145 (fa 0 144), od 146 (fa 0 145), od 147 (ld 1 146), om 148 19, om 149 20, od 150 (.bsl true 3 1 [(tm 149)]), od 151 (ia 4 147 148), od 152 (fa 1 151), on (.store 1 (tm
 152) (tm 150))] [kp [2, 4, 8, 11, 12, 20, 116, 117, 118] [4, 11, 44, 46, 64, 78, 90, 111, 157, 62040, 62052]]) (.reg [od 153 (fa 7 11), od 154 (ld 1 153), om 155 20, od 156 (.bsl true 3 1 [(tm 155)]), od 157 (.app false 3 1 (tm
 154) (tm 156)), od 158 (fa 7 11), on (.store 1 (tm 158) (tm 157))] [kp [2, 4, 8, 11, 12, 116, 117, 118] [4, 11, 44, 46, 64, 78, 90, 111, 157, 62040, 62052]]))))) (.reg [od 159 (.bin .add (tm 118) (ki 1)), om 118 159] [kp [2, 4, 8,
 11, 12, 116, 117, 118] [4, 11, 44, 46, 64, 78, 90, 111, 157, 62040, 62052]])))) [kp [2, 4, 8, 11, 12, 116, 117, 118] [4, 11, 44, 46, 64, 78, 90, 111, 157, 62040, 62052]]
def scans_Insert_l7 : IC := .loop scans_Insert_g6
abbrev scans_Insert_ic : IC := (.seq (.reg [od 2 (.box true (tm 0)), od 4 (.alloc false [(.slice none 0 0), (.slice none 0 0), (.slice none 0 0), (.slice none 0 0), (.slice none 0 0), (.int .i64 0), (.slice none 0 0), (.slice none 0 0)]), od 5 (.mv (ki 0))] [kp
 [1, 2, 4] [4, 44, 78, 90, 111, 157, 62040, 62052]]) (.seq (.seq (.reg [od 21 (lG 4 2), om 22 1, od 23 (.call 32 [(tm 21), (tm 22)]), om 6 23] [kp [1, 2, 4, 6] [4, 44, 78, 90, 111, 157, 62040, 62052]]) (.seq (.reg [om 24 6, od 25
 (.bin .neq (tm 24) (ki 0))] [kp [1, 2, 4, 6, 25] [4, 44, 78, 90, 111, 157, 62040, 62052]]) (.cond (tm 25) (.seq (.reg [od 26 (.build [(4, (.const (.agg #[(.slice none 0 0), (.slice none 0 0), (.slice none 0 0), (.slice none 0
 0)]))), (1, kN), (1, (ki 0)), (1, kN), (1, kN)]), om 27 6, on (.store 8 (tm 4) (tm 26)), om 5 27] [kp [4, 5] [4, 44, 78, 90, 111, 157, 62040, 62052]]) .ret) .skip))) (.seq (.reg [od 28 (lG 4 2), od 29 (.call 12 [(tm 28)]), om 7 29]
 [kp [1, 2, 4, 7] [4, 44, 78, 90, 111, 157, 62040, 62052]]) (.seq (.seq (.reg [od 30 (fa 0 2), od 31 (ld 1 30), od 32 (le 0 31), od 33 (.bin .add (tm 32) (ki 1)), om 34 1, od 35 (le 0 34), od 36 (.bin .add (tm 33) (tm 35)), om 37 7,
 od 38 (le 0 37), od 39 (.bin .add (tm 36) (tm 38)), od 40 (.bin .gtr (tm 39) (ki 16384))] [kp [1, 2, 4, 7, 40] [4, 44, 78, 90, 111, 157, 62040, 62052]]) (.cond (tm 40) (.seq (.reg [od 41 (.build [(4, (.const (.agg #[(.slice none 0
 0), (.slice none 0 0), (.slice none 0 0), (.slice none 0 0)]))), (1, kN), (1, (ki 0)), (1, kN), (1, kN)]), on (.store 8 (tm 4) (tm 41)), od 5 (.mv (ki 3))] [kp [4, 5] [4, 44, 78, 90, 111, 157, 62040, 62052]]) .ret) .skip)) (.seq
 (.reg [od 42 (lG 4 2), od 43 (.call 33 [(tm 42)]), od 44 (.mkmap), od 45 (.build [(4, (tm 43)), (1, (tm 44)), (1, kF)]), od 46 (.box false (tm 45)), om 8 46] [kp [1, 2, 4, 7, 8] [4, 44, 46, 78, 90, 111, 157, 62040, 62052]]) (.seq
 (.seq (.reg [od 47 (fa 1 2), od 48 (ld 1 47), od 49 (le 0 48), od 50 (.mv (ki 0))] [kp [1, 2, 4, 7, 8, 48, 49, 50] [4, 44, 46, 78, 90, 111, 157, 62040, 62052]]) (.block 0 scans_Insert_l1)) (.seq (.reg [od 11 (.alloc false [(.slice
 none 0 0), (.slice none 0 0), (.slice none 0 0), (.slice none 0 0), (.slice none 0 0), (.int .i64 0), (.slice none 0 0), (.slice none 0 0)])] [.nlb 11 4 78 35 1, .nlb 11 6 90 3 1, .nlb 11 7 157 3 1, kp [1, 2, 4, 7, 8, 11] [4, 11,
 44, 46, 78, 90, 111, 157, 62040, 62052]]) (.seq (.reg [om 60 8, od 61 (.build [(1, (ku 0)), (1, kN), (1, (ki 0)), (1, (ki 0))]), od 62 (.hcall 34 [(tm 60), (tm 61), (.const (sV [115, 101]))] [44, 46, 111, 62040, 62052] 62000), od
 63 (fa 5 11), on (.store 1 (tm 63) (tm 62))] [kp [1, 2, 4, 7, 8, 11] [4, 11, 44, 46, 78, 90, 111, 157, 62040, 62052]]) (.seq (.reg [od 64 (.mkmap), om 12 64] [kp [1, 2, 4, 7, 8, 11, 12] [4, 11, 44, 46, 64, 78, 90, 111, 157, 62040,
 62052]]) (.seq (.seq (.reg [om 65 1, od 66 (le 0 65), od 67 (.mv (ki 0))] [kp [2, 4, 7, 8, 11, 12, 65, 66, 67] [4, 11, 44, 46, 64, 78, 90, 111, 157, 62040, 62052]]) (.block 2 scans_Insert_l5)) (.seq (.seq (.reg [om 116 7, od 117
 (le 0 116), od 118 (.mv (ki 0))] [kp [2, 4, 8, 11, 12, 116, 117, 118] [4, 11, 44, 46, 64, 78, 90, 111, 157, 62040, 62052]]) (.gh (.block 6 scans_Insert_l7) [.frz 62040, .frz 62052, .frz 111, .frz 78, .frz 90, .frz 157])) (.seq
 (.seq (.reg [om 160 8, od 161 (.nck (tm 160)), od 162 (fa 5 161), od 163 (ld 1 162)] [kp [4, 8, 11, 163] [4, 11, 44, 46, 78, 90, 111, 157, 62040, 62052]]) (.cond (tm 163) (.seq (.reg [od 164 (.build [(4, (.const (.agg #[(.slice
 none 0 0), (.slice none 0 0), (.slice none 0 0), (.slice none 0 0)]))), (1, kN), (1, (ki 0)), (1, kN), (1, kN)]), on (.store 8 (tm 4) (tm 164)), od 5 (.mv (ki 5))] [kp [4, 5] [4, 44, 78, 90, 111, 157, 62040, 62052]]) .ret) .skip))
 (.seq (.reg [om 165 8, om 166 8, om 167 8, om 168 8, od 169 (.nck (tm 168)), od 170 (fa 0 169), od 171 (fa 0 170), od 172 (.ldR 46 1 false (tm 171)), od 173 (.call 38 [(tm 172)]), om 174 8, od 175 (.nck (tm 174)), od 176 (fa 0
 175), od 177 (fa 1 176), od 178 (.ldR 46 1 false (tm 177)), od 179 (.call 39 [(tm 178)]), om 180 8, od 181 (.nck (tm 180)), od 182 (fa 0 181), od 183 (fa 3 182), od 184 (.ldR 46 1 false (tm 183)), od 185 (.call 35 [(tm 184)]), od
 186 (.nck (tm 165)), od 187 (fa 0 186), od 188 (fa 0 187), on (.stR 46 1 (tm 188) (tm 173)), od 189 (.nck (tm 166)), od 190 (fa 0 189), od 191 (fa 1 190), on (.stR 46 1 (tm 191) (tm 179)), od 192 (.nck (tm 167)), od 193 (fa 0 192),
 od 194 (fa 3 193), on (.stR 46 1 (tm 194) (tm 185))] [kp [4, 8, 11] [4, 11, 44, 46, 78, 90, 111, 157, 62040, 62052]]) (.seq (.reg [om 195 8, od 196 (.nck (tm 195)), od 197 (fa 0 196), od 198 (.ldR 46 4 true (tm 197)), od 199 (fa 4
 11), od 200 (.ldR 11 1 false (tm 199)), od 201 (.call 40 [(tm 200)]), od 202 (fa 6 11), od 203 (.ldR 11 1 false (tm 202)), od 204 (.call 35 [(tm 203)]), od 205 (fa 7 11), od 206 (.ldR 11 1 false (tm 205)), od 207 (.call 35 [(tm
 206)]), od 208 (fa 0 11), on (.stR 11 4 (tm 208) (tm 198)), od 209 (fa 4 11), on (.stR 11 1 (tm 209) (tm 201)), od 210 (fa 6 11), on (.stR 11 1 (tm 210) (tm 204)), od 211 (fa 7 11), on (.stR 11 1 (tm 211) (tm 207))] [kp [4, 11] [4,
 11, 44, 78, 90, 111, 157, 62040, 62052]]) (.seq (.reg [od 212 (lG 8 11), on (.store 8 (tm 4) (tm 212)), od 5 (.mv (ki 0))] [kp [4, 5] [4, 44, 78, 90, 111, 157, 62040, 62052]]) .ret)))))))))))))))
theorem scans_Insert_l1_run (h : ∀ K : St → Prop, K = run P Γ scans_Insert_l1 Q → run P Γ scans_Insert_g0 (thenX K Q) s) : run P Γ scans_Insert_l1 Q s := run_loop h
theorem scans_Insert_l3_run (h : ∀ K : St → Prop, K = run P Γ scans_Insert_l3 Q → run P Γ scans_Insert_g2 (thenX K Q) s) : run P Γ scans_Insert_l3 Q s := run_loop h
theorem scans_Insert_l5_run (h : ∀ K : St → Prop, K = run P Γ scans_Insert_l5 Q → run P Γ scans_Insert_g4 (thenX K Q) s) : run P Γ scans_Insert_l5 Q s := run_loop h
theorem scans_Insert_l7_run (h : ∀ K : St → Prop, K = run P Γ scans_Insert_l7 Q → run P Γ scans_Insert_g6 (thenX K Q) s) : run P Γ scans_Insert_l7 Q s := run_loop h
def scans_Insert_rv : List RV := [.cell 4 8 true, .tmp 5]

/- (*probecard/scans.builder).add (function 34) -/
abbrev scans_builder_add_g0 : IC := .gh (.seq (.seq (.reg [om 7 0, od 8 (.nck (tm 7)), od 9 (fa 4 8), od 10 (ld 1 9), om 11 2, od 12 (.lkup .str (.bool false) false (tm 10) (tm 11))] [kp [0, 2, 4, 12] [40, 52, 1000000, 1000001, 1000002, 1000003, 1000004]]) (.cond (tm
 12) .skip (.exit 0))) (.block 1 (.reg [om 13 2, od 14 (.bin .add (tm 13) (.const (sV [95]))), om 2 14] [kp [0, 2, 4] [40, 52, 1000000, 1000001, 1000002, 1000003, 1000004]]))) [kp [0, 2, 4] [40, 52, 1000000, 1000001, 1000002,
 1000003, 1000004]]
def scans_builder_add_l1 : IC := .loop scans_builder_add_g0
abbrev scans_builder_add_ic : IC := (.seq (.reg [od 4 (.box true (tm 1)), od 6 (.mv (ki 0))] [kp [0, 2, 4] [40, 52, 1000000, 1000001, 1000002, 1000003, 1000004]]) (.seq (.block 0 scans_builder_add_l1) (.seq (.reg [om 15 0, od 16 (.nck (tm 15)), od 17 (fa 4 16), od 18
 (ld 1 17), om 19 2, on (.mup .str (tm 18) (tm 19) kT)] [kp [0, 2, 4] [40, 52, 1000000, 1000001, 1000002, 1000003, 1000004]]) (.seq (.reg [om 20 0, om 21 0, od 22 (.nck (tm 21)), od 23 (fa 5 22), od 24 (ld 1 23), om 25 24, oF 26
 (.mv (tm 2)) 25, oF 27 (le 1 26) 25, oF 28 (.bin .gtr (tm 27) (ki 32)) 25, od 29 (.pick (tm 25) kT (tm 28)), od 30 (.nck (tm 20)), od 31 (fa 5 30), on (.store 1 (tm 31) (tm 29))] [kp [0, 2, 4] [40, 52, 1000000, 1000001, 1000002,
 1000003, 1000004]]) (.seq (.reg [om 32 0, om 33 0, od 34 (.nck (tm 33)), od 35 (fa 0 34), od 36 (fa 0 35), od 37 (.ldR 1000001 1 false (tm 36)), od 38 (.ldT 4 true (tm 4)), od 39 (.bsl true 81 4 [(tm 38)]), od 40 (.app false 81 4
 (tm 37) (tm 39)), od 41 (.nck (tm 32)), od 42 (fa 0 41), od 43 (fa 0 42), on (.stR 1000001 1 (tm 43) (tm 40))] [kp [0, 2] [40, 52, 1000000, 1000001, 1000002, 1000003, 1000004]]) (.seq (.reg [om 44 0, om 45 0, od 46 (.nck (tm 45)),
 od 47 (fa 0 46), od 48 (fa 1 47), od 49 (ld 1 48), om 50 2, od 51 (.bsl true 9 1 [(tm 50)]), od 52 (.app false 9 1 (tm 49) (tm 51)), od 53 (.nck (tm 44)), od 54 (fa 0 53), od 55 (fa 1 54), on (.store 1 (tm 55) (tm 52))] [kp [0]
 [40, 52, 1000000, 1000001, 1000002, 1000003, 1000004]]) (.seq (.reg [om 56 0, od 57 (.nck (tm 56)), od 58 (fa 0 57), od 59 (fa 0 58), od 60 (ld 1 59), od 61 (le 0 60), od 62 (.bin .sub (tm 61) (ki 1)), om 6 62] [kp [6] [40, 52,
 1000000, 1000001, 1000002, 1000003, 1000004]]) .ret)))))))
theorem scans_builder_add_l1_run (h : ∀ K : St → Prop, K = run P Γ scans_builder_add_l1 Q → run P Γ scans_builder_add_g0 (thenX K Q) s) : run P Γ scans_builder_add_l1 Q s := run_loop h
def scans_builder_add_rv : List RV := [.tmp 6]

/- probecard/netlists.Copy (function 33) -/
abbrev netlists_Copy_g0 : IC := .gh (.seq (.reg [od 25 (.bin .lss (tm 24) (tm 23))] [kp [2, 3, 22, 23, 24, 25] [2, 3, 14007]]) (.seq (.cond (tm 25) .skip (.exit 0)) (.seq (.block 1 (.seq (.reg [om 26 24, od 27 (ia 4 22 24), od 28 (lG 4 27), od 5 (.alloc false
 [(.int .u8 0), (.slice none 0 0), (.int .i64 0), (.int .i64 0)]), om 4 26, on (.store 4 (tm 5) (tm 28))] [kp [2, 3, 4, 5, 22, 23, 24] [2, 3, 5, 14007]]) (.reg [od 29 (fa 0 3), od 30 (.ldR 3 1 false (tm 29)), om 31 4, od 32 (fa 1
 5), od 33 (.ldR 5 1 false (tm 32)), od 34 (.callT 51 [(tm 33)]), od 35 (ia 4 30 31), od 36 (fa 1 35), on (.stR 14007 1 (tm 36) (tm 34))] [kp [2, 3, 22, 23, 24] [2, 3, 14007]]))) (.reg [od 37 (.bin .add (tm 24) (ki 1)), om 24 37]
 [kp [2, 3, 22, 23, 24] [2, 3, 14007]])))) [kp [2, 3, 22, 23, 24] [2, 3, 14007]]
def netlists_Copy_l1 : IC := .loop netlists_Copy_g0
abbrev netlists_Copy_g2 : IC := .gh (.seq (.reg [od 42 (.bin .lss (tm 41) (tm 40))] [kp [2, 3, 39, 40, 41, 42] [2, 3, 14007]]) (.seq (.cond (tm 42) .skip (.exit 2)) (.seq (.block 3 (.seq (.reg [om 43 41, od 44 (ia 3 39 41), od 45 (lG 3 44), od 7 (.alloc false
 [(.slice none 0 0), (.slice none 0 0), (.int .i64 0)]), om 6 43, on (.store 3 (tm 7) (tm 45))] [kp [2, 3, 6, 7, 39, 40, 41] [2, 3, 7, 14007]]) (.reg [od 46 (fa 2 3), od 47 (.ldR 3 1 false (tm 46)), om 48 6, od 49 (fa 2 3), od 50
 (.ldR 3 1 false (tm 49)), om 51 6, od 52 (fa 0 7), od 53 (.ldR 7 1 false (tm 52)), od 54 (.callT 51 [(tm 53)]), od 55 (fa 1 7), od 56 (.ldR 7 1 false (tm 55)), od 57 (.callT 51 [(tm 56)]), od 58 (ia 3 47 48), od 59 (fa 0 58), on
 (.stR 14007 1 (tm 59) (tm 54)), od 60 (ia 3 50 51), od 61 (fa 1 60), on (.stR 14007 1 (tm 61) (tm 57))] [kp [2, 3, 39, 40, 41] [2, 3, 14007]]))) (.reg [od 62 (.bin .add (tm 41) (ki 1)), om 41 62] [kp [2, 3, 39, 40, 41] [2, 3,
 14007]])))) [kp [2, 3, 39, 40, 41] [2, 3, 14007]]
def netlists_Copy_l3 : IC := .loop netlists_Copy_g2
abbrev netlists_Copy_ic : IC := (.seq (.reg [od 1 (.box true (tm 0)), od 2 (.alloc false [(.slice none 0 0), (.slice none 0 0), (.slice none 0 0), (.slice none 0 0)])] [kp [1, 2] [2, 14007]]) (.seq (.reg [od 8 (fa 0 1), od 9 (.ldT 1 false (tm 8)), od 10 (.ncall
 48 [(tm 9)] 10000), od 11 (fa 1 1), od 12 (.ldT 1 false (tm 11)), od 13 (.callT 49 [(tm 12)]), od 14 (fa 2 1), od 15 (.ldT 1 false (tm 14)), od 16 (.callT 50 [(tm 15)]), od 17 (fa 3 1), od 18 (.ldT 1 false (tm 17)), od 19 (.callT
 51 [(tm 18)]), od 20 (.build [(1, (tm 10)), (1, (tm 13)), (1, (tm 16)), (1, (tm 19))]), od 3 (.alloc false [(.slice none 0 0), (.slice none 0 0), (.slice none 0 0), (.slice none 0 0)]), on (.stR 3 4 (tm 3) (tm 20))] [kp [2, 3] [2,
 3, 14007]]) (.seq (.seq (.reg [od 21 (fa 0 3), od 22 (ld 1 21), od 23 (le 0 22), od 24 (.mv (ki 0))] [kp [2, 3, 22, 23, 24] [2, 3, 14007]]) (.gh (.block 0 netlists_Copy_l1) [.frz 14007])) (.seq (.seq (.reg [od 38 (fa 2 3), od 39
 (ld 1 38), od 40 (le 0 39), od 41 (.mv (ki 0))] [kp [2, 3, 39, 40, 41] [2, 3, 14007]]) (.block 2 netlists_Copy_l3)) (.seq (.reg [od 63 (lG 4 3), on (.store 4 (tm 2) (tm 63))] [kp [2] [2, 14007]]) .ret)))))
theorem netlists_Copy_l1_run (h : ∀ K : St → Prop, K = run P Γ netlists_Copy_l1 Q → run P Γ netlists_Copy_g0 (thenX K Q) s) : run P Γ netlists_Copy_l1 Q s := run_loop h
theorem netlists_Copy_l3_run (h : ∀ K : St → Prop, K = run P Γ netlists_Copy_l3 Q → run P Γ netlists_Copy_g2 (thenX K Q) s) : run P Γ netlists_Copy_l3 Q s := run_loop h
def netlists_Copy_rv : List RV := [.cell 2 4 true]

/- probecard/netlists.copied[probecard/api.Node] (function 48) -/
abbrev netlists_copied_api_Node_ic : IC := (.seq (.reg [od 2 (.mv kN)] [kp [0] []]) (.seq (.reg [om 3 0, od 4 (.hcall 56 [(tm 3)] [] 4000), od 5 (.hcall 38 [(tm 4)] [4007] 5000), om 2 5] [kp [2] [4007]]) .ret))
def netlists_copied_api_Node_rv : List RV := [.tmp 2]

/- probecard/netlists.copied[string] (function 49) -/
abbrev netlists_copied_string_ic : IC := (.seq (.reg [od 2 (.mv kN)] [kp [0] []]) (.seq (.reg [om 3 0, od 4 (.call 57 [(tm 3)]), od 5 (.call 39 [(tm 4)]), om 2 5] [kp [2] []]) .ret))
def netlists_copied_string_rv : List RV := [.tmp 2]

/- probecard/netlists.copied[probecard/api.Memory] (function 50) -/
abbrev netlists_copied_api_Memory_ic : IC := (.seq (.reg [od 2 (.mv kN)] [kp [0] []]) (.seq (.reg [om 3 0, od 4 (.call 59 [(tm 3)]), od 5 (.call 58 [(tm 4)]), om 2 5] [kp [2] []]) .ret))
def netlists_copied_api_Memory_rv : List RV := [.tmp 2]

/- probecard/netlists.copied[int] (function 51) -/
abbrev netlists_copied_int_ic : IC := (.seq (.reg [od 2 (.mv kN)] [kp [0] []]) (.seq (.reg [om 3 0, od 4 (.call 36 [(tm 3)]), od 5 (.call 35 [(tm 4)]), om 2 5] [kp [2] []]) .ret))
def netlists_copied_int_rv : List RV := [.tmp 2]

/- slices.Clone[[]probecard/api.Node,probecard/api.Node] (function 56) -/
abbrev slices_Clone_api_Node_ic : IC := (.seq (.reg [od 2 (.mv kN)] [kp [0] []]) (.seq (.seq (.reg [om 3 0, od 4 (.isNil true (tm 3))] [kp [0, 4] []]) (.cond (tm 4) (.seq (.reg [od 2 (.mv kN)] [kp [2] [7]]) .ret) .skip)) (.seq (.reg [od 5 (.bsl true 81 4 []), om 6 0, od
 7 (.app false 81 4 (tm 5) (tm 6)), om 2 7] [kp [2] [7]]) .ret)))
def slices_Clone_api_Node_rv : List RV := [.tmp 2]

/- slices.Clone[[]string,string] (function 57) -/
abbrev slices_Clone_string_ic : IC := (.seq (.reg [od 2 (.mv kN)] [kp [0] []]) (.seq (.seq (.reg [om 3 0, od 4 (.isNil true (tm 3))] [kp [0, 4] []]) (.cond (tm 4) (.seq (.reg [od 2 (.mv kN)] [kp [2] []]) .ret) .skip)) (.seq (.reg [od 5 (.bsl true 9 1 []), om 6 0, od 7
 (.appT 9 1 (tm 5) (tm 6)), om 2 7] [kp [2] []]) .ret)))
def slices_Clone_string_rv : List RV := [.tmp 2]

/- slices.Clone[[]probecard/api.Memory,probecard/api.Memory] (function 59) -/
abbrev slices_Clone_api_Memory_ic : IC := (.seq (.reg [od 2 (.mv kN)] [kp [0] []]) (.seq (.seq (.reg [om 3 0, od 4 (.isNil true (tm 3))] [kp [0, 4] []]) (.cond (tm 4) (.seq (.reg [od 2 (.mv kN)] [kp [2] []]) .ret) .skip)) (.seq (.reg [od 5 (.bsl true 87 3 []), om 6 0, od 7
 (.appT 87 3 (tm 5) (tm 6)), om 2 7] [kp [2] []]) .ret)))
def slices_Clone_api_Memory_rv : List RV := [.tmp 2]

/- slices.Clip[[]probecard/api.Node,probecard/api.Node] (function 38) -/
abbrev slices_Clip_api_Node_ic : IC := (.seq (.reg [od 2 (.mv kN)] [kp [0] [1000000]]) (.seq (.reg [om 3 0, om 4 0, od 5 (le 0 4), om 6 0, od 7 (le 0 6), od 8 (.slice 4 (tm 3) none (some (tm 5)) (some (tm 7))), om 2 8] [kp [2] [1000000]]) .ret))
def slices_Clip_api_Node_rv : List RV := [.tmp 2]

/- slices.Clip[[]string,string] (function 39) -/
abbrev slices_Clip_string_ic : IC := (.seq (.reg [od 2 (.mv kN)] [kp [0] []]) (.seq (.reg [om 3 0, om 4 0, od 5 (le 0 4), om 6 0, od 7 (le 0 6), od 8 (.slice 1 (tm 3) none (some (tm 5)) (some (tm 7))), om 2 8] [kp [2] []]) .ret))
def slices_Clip_string_rv : List RV := [.tmp 2]

/- slices.Clip[[]probecard/api.Memory,probecard/api.Memory] (function 58) -/
abbrev slices_Clip_api_Memory_ic : IC := (.seq (.reg [od 2 (.mv kN)] [kp [0] []]) (.seq (.reg [om 3 0, om 4 0, od 5 (le 0 4), om 6 0, od 7 (le 0 6), od 8 (.slice 3 (tm 3) none (some (tm 5)) (some (tm 7))), om 2 8] [kp [2] []]) .ret))
def slices_Clip_api_Memory_rv : List RV := [.tmp 2]

/- strconv.Itoa (function 37) -/
abbrev strconv_Itoa_ic : IC := (.seq (.reg [od 2 (.mv (.const (sV [])))] [kp [0] []]) (.seq (.reg [om 3 0, od 4 (.call 52 [(tm 3)]), om 2 4] [kp [2] []]) .ret))
def strconv_Itoa_rv : List RV := [.tmp 2]

/- internal/strconv.Itoa (function 52) -/
abbrev i_strconv_Itoa_ic : IC := (.seq (.reg [od 2 (.mv (.const (sV [])))] [kp [0] []]) (.seq (.reg [om 3 0, od 4 (.call 60 [(tm 3), (ki 10)]), om 2 4] [kp [2] []]) .ret))
def i_strconv_Itoa_rv : List RV := [.tmp 2]

/- internal/strconv.FormatInt (function 60) -/
abbrev i_strconv_FormatInt_ic : IC := (.seq (.reg [od 4 (.mv (.const (sV [])))] [kp [0, 1] []]) (.seq (.seq (.reg [om 10 1, od 11 (.bin .eql (tm 10) (ki 10))] [kp [0, 1, 11] []]) (.cond (tm 11) (.seq (.seq (.reg [om 12 0, od 13 (.bin .leq (ki 0) (tm 12)), om 14 13, oT
 15 (.mv (tm 0)) 14, oT 16 (.bin .lss (tm 15) (ki 100)) 14, od 17 (.pick (tm 14) (tm 16) kF)] [kp [0, 17] []]) (.cond (tm 17) (.seq (.reg [om 18 0, od 19 (.call 62 [(tm 18)]), om 4 19] [kp [4] []]) .ret) .skip)) (.seq (.reg [od 5
 (.alloc false [(.int .u8 0), (.int .u8 0), (.int .u8 0), (.int .u8 0), (.int .u8 0), (.int .u8 0), (.int .u8 0), (.int .u8 0), (.int .u8 0), (.int .u8 0), (.int .u8 0), (.int .u8 0), (.int .u8 0), (.int .u8 0), (.int .u8 0), (.int
 .u8 0), (.int .u8 0), (.int .u8 0), (.int .u8 0), (.int .u8 0), (.int .u8 0), (.int .u8 0), (.int .u8 0), (.int .u8 0)])] [kp [0, 5] [5]]) (.seq (.reg [om 20 0, od 21 (.conv .u64 (tm 20)), om 6 21] [kp [0, 5, 6] [5]]) (.seq (.seq
 (.reg [om 22 0, od 23 (.bin .lss (tm 22) (ki 0))] [kp [0, 5, 6, 23] [5]]) (.cond (tm 23) (.reg [om 24 6, od 25 (.un .neg (tm 24)), om 6 25] [kp [0, 5, 6] [5]]) .skip)) (.seq (.reg [om 26 6, od 27 (.call 63 [(tm 26)]), om 7 27] [kp
 [0, 5, 6, 7] [5]]) .dead))))) .skip)) (.seq (.reg [om 45 0, od 46 (.conv .u64 (tm 45)), om 47 1, om 48 0, od 49 (.bin .lss (tm 48) (ki 0)), od 50 (.call 65 [kN, (tm 46), (tm 47), (tm 49), kF]), om 44 50, od 51 (ex 44 0), od 52 (ex
 44 1), om 8 51, om 9 52] [kp [9] []]) (.seq (.reg [om 53 9, om 4 53] [kp [4] []]) .ret))))
def i_strconv_FormatInt_rv : List RV := [.tmp 4]

/- internal/strconv.small (function 62) -/
abbrev i_strconv_small_ic : IC := (.seq (.reg [od 2 (.mv (.const (sV [])))] [kp [0] []]) (.seq (.seq (.reg [om 3 0, od 4 (.bin .lss (tm 3) (ki 10))] [kp [0, 4] []]) (.cond (tm 4) (.seq (.reg [om 5 0, om 6 0, od 7 (.bin .add (tm 6) (ki 1)), od 8 (.slice 0 (.const
 (sV [48, 49, 50, 51, 52, 53, 54, 55, 56, 57, 97, 98, 99, 100, 101, 102, 103, 104, 105, 106, 107, 108, 109, 110, 111, 112, 113, 114, 115, 116, 117, 118, 119, 120, 121, 122])) (some (tm 5)) (some (tm 7)) none), om 2 8] [kp [2] []])
 .ret) .skip)) (.seq (.reg [om 9 0, od 10 (.bin .mul (tm 9) (ki 2)), om 11 0, od 12 (.bin .mul (tm 11) (ki 2)), od 13 (.bin .add (tm 12) (ki 2)), od 14 (.slice 0 (.const (sV [48, 48, 48, 49, 48, 50, 48, 51, 48, 52, 48, 53, 48, 54,
 48, 55, 48, 56, 48, 57, 49, 48, 49, 49, 49, 50, 49, 51, 49, 52, 49, 53, 49, 54, 49, 55, 49, 56, 49, 57, 50, 48, 50, 49, 50, 50, 50, 51, 50, 52, 50, 53, 50, 54, 50, 55, 50, 56, 50, 57, 51, 48, 51, 49, 51, 50, 51, 51, 51, 52, 51, 53,
 51, 54, 51, 55, 51, 56, 51, 57, 52, 48, 52, 49, 52, 50, 52, 51, 52, 52, 52, 53, 52, 54, 52, 55, 52, 56, 52, 57, 53, 48, 53, 49, 53, 50, 53, 51, 53, 52, 53, 53, 53, 54, 53, 55, 53, 56, 53, 57, 54, 48, 54, 49, 54, 50, 54, 51, 54, 52,
 54, 53, 54, 54, 54, 55, 54, 56, 54, 57, 55, 48, 55, 49, 55, 50, 55, 51, 55, 52, 55, 53, 55, 54, 55, 55, 55, 56, 55, 57, 56, 48, 56, 49, 56, 50, 56, 51, 56, 52, 56, 53, 56, 54, 56, 55, 56, 56, 56, 57, 57, 48, 57, 49, 57, 50, 57, 51,
 57, 52, 57, 53, 57, 54, 57, 55, 57, 56, 57, 57])) (some (tm 10)) (some (tm 13)) none), om 2 14] [kp [2] []]) .ret)))
def i_strconv_small_rv : List RV := [.tmp 2]
end
end Go.Lg

/- The abstract code is that of the program (by the kernel). Conditions: none. -/
namespace Go.Lg
open Go Go.Proofs
theorem scans_Insert_chk : chkF Tryd.prog 17 scans_Insert_ic 213 2 scans_Insert_rv = true := by kernel_rfl
theorem scans_builder_add_chk : chkF Tryd.prog 34 scans_builder_add_ic 63 3 scans_builder_add_rv = true := by kernel_rfl
theorem netlists_Copy_chk : chkF Tryd.prog 33 netlists_Copy_ic 64 1 netlists_Copy_rv = true := by kernel_rfl
theorem netlists_copied_api_Node_chk : chkF Tryd.prog 48 netlists_copied_api_Node_ic 6 1 netlists_copied_api_Node_rv = true := by kernel_rfl
theorem netlists_copied_string_chk : chkF Tryd.prog 49 netlists_copied_string_ic 6 1 netlists_copied_string_rv = true := by kernel_rfl
theorem netlists_copied_api_Memory_chk : chkF Tryd.prog 50 netlists_copied_api_Memory_ic 6 1 netlists_copied_api_Memory_rv = true := by kernel_rfl
theorem netlists_copied_int_chk : chkF Tryd.prog 51 netlists_copied_int_ic 6 1 netlists_copied_int_rv = true := by kernel_rfl
theorem slices_Clone_api_Node_chk : chkF Tryd.prog 56 slices_Clone_api_Node_ic 8 1 slices_Clone_api_Node_rv = true := by kernel_rfl
theorem slices_Clone_string_chk : chkF Tryd.prog 57 slices_Clone_string_ic 8 1 slices_Clone_string_rv = true := by kernel_rfl
theorem slices_Clone_api_Memory_chk : chkF Tryd.prog 59 slices_Clone_api_Memory_ic 8 1 slices_Clone_api_Memory_rv = true := by kernel_rfl
theorem slices_Clip_api_Node_chk : chkF Tryd.prog 38 slices_Clip_api_Node_ic 9 1 slices_Clip_api_Node_rv = true := by kernel_rfl
theorem slices_Clip_string_chk : chkF Tryd.prog 39 slices_Clip_string_ic 9 1 slices_Clip_string_rv = true := by kernel_rfl
theorem slices_Clip_api_Memory_chk : chkF Tryd.prog 58 slices_Clip_api_Memory_ic 9 1 slices_Clip_api_Memory_rv = true := by kernel_rfl
theorem strconv_Itoa_chk : chkF Tryd.prog 37 strconv_Itoa_ic 5 1 strconv_Itoa_rv = true := by kernel_rfl
theorem i_strconv_Itoa_chk : chkF Tryd.prog 52 i_strconv_Itoa_ic 5 1 i_strconv_Itoa_rv = true := by kernel_rfl
theorem i_strconv_FormatInt_chk : chkF Tryd.prog 60 i_strconv_FormatInt_ic 54 2 i_strconv_FormatInt_rv = true := by kernel_rfl
theorem i_strconv_small_chk : chkF Tryd.prog 62 i_strconv_small_ic 15 1 i_strconv_small_rv = true := by kernel_rfl
end Go.Lg

/- Small numbers as text; copies of lists. Conditions: none. -/
set_option linter.unusedSimpArgs false
set_option linter.unusedVariables false
set_option maxRecDepth 100000
namespace Go.Lg
open Go Go.Proofs
variable {Γ : Tables}

def itoaL (i : Nat) : List UInt8 := if i < 10 then [UInt8.ofNat (48 + i)] else [UInt8.ofNat (48 + i / 10), UInt8.ofNat (48 + i % 10)]

def dig1 : List UInt8 := [48, 49, 50, 51, 52, 53, 54, 55, 56, 57, 97, 98, 99, 100, 101, 102, 103, 104, 105, 106, 107, 108, 109, 110, 111, 112, 113, 114, 115, 116, 117, 118, 119, 120, 121, 122]
def dig2 : List UInt8 := (List.range 100).flatMap fun i => [UInt8.ofNat (48 + i / 10), UInt8.ofNat (48 + i % 10)]
theorem dig1_at : ∀ i, i < 10 → ((ByteArray.mk dig1.toArray).extract i (i + 1)).data.toList = [UInt8.ofNat (48 + i)] := by decide +kernel
theorem dig2_at : ∀ i, i < 100 → ((ByteArray.mk dig2.toArray).extract (i * 2) (i * 2 + 2)).data.toList = [UInt8.ofNat (48 + i / 10), UInt8.ofNat (48 + i % 10)] := by decide +kernel
theorem ba_of {a : ByteArray} {l : List UInt8} (h : a.data.toList = l) : a = ByteArray.mk l.toArray := by
  cases a; simp only at h; subst h; rfl

theorem small_spec (i : Nat) (hi : i < 100) : FreshCalls Tryd.prog Γ 62 [tI i] (tS (itoaL i)) := by
  refine run_freshQ i_strconv_small_chk rfl ?_
  by_cases h : i < 10
  · have h' : (i : Int) < 10 := by omega
    have e := ba_of (dig1_at i h)
    simp only [dig1] at e
    simp (disch := omega) [i_strconv_small_ic, sV, h, h', wrap_i64]
    have e1 : ((i : Int) + 1).toNat = i + 1 := by omega
    simp [i_strconv_small_rv, e1, e, itoaL, h, tS, sV]
    omega
  · have h' : ¬ (i : Int) < 10 := by omega
    have e := ba_of (dig2_at i hi)
    have d2 : dig2 = [48, 48, 48, 49, 48, 50, 48, 51, 48, 52, 48, 53, 48, 54, 48, 55, 48, 56, 48, 57, 49, 48, 49, 49, 49, 50, 49, 51, 49, 52, 49, 53, 49, 54, 49, 55, 49, 56, 49, 57, 50, 48, 50, 49, 50, 50, 50, 51, 50, 52, 50, 53, 50, 54, 50, 55, 50, 56, 50, 57, 51, 48, 51, 49, 51, 50, 51, 51, 51, 52, 51, 53, 51, 54, 51, 55, 51, 56, 51, 57, 52, 48, 52, 49, 52, 50, 52, 51, 52, 52, 52, 53, 52, 54, 52, 55, 52, 56, 52, 57, 53, 48, 53, 49, 53, 50, 53, 51, 53, 52, 53, 53, 53, 54, 53, 55, 53, 56, 53, 57, 54, 48, 54, 49, 54, 50, 54, 51, 54, 52, 54, 53, 54, 54, 54, 55, 54, 56, 54, 57, 55, 48, 55, 49, 55, 50, 55, 51, 55, 52, 55, 53, 55, 54, 55, 55, 55, 56, 55, 57, 56, 48, 56, 49, 56, 50, 56, 51, 56, 52, 56, 53, 56, 54, 56, 55, 56, 56, 56, 57, 57, 48, 57, 49, 57, 50, 57, 51, 57, 52, 57, 53, 57, 54, 57, 55, 57, 56, 57, 57] := by decide +kernel
    rw [d2] at e
    simp (disch := omega) [i_strconv_small_ic, sV, h, h', wrap_i64]
    have e1 : ((i : Int) * 2).toNat = i * 2 := by omega
    have e2 : ((i : Int) * 2 + 2).toNat = i * 2 + 2 := by omega
    simp [i_strconv_small_rv, e1, e2, e, itoaL, h, tS, sV]
    omega

theorem itoa_spec (i : Nat) (hi : i < 100) : FreshCalls Tryd.prog Γ 37 [tI i] (tS (itoaL i)) := by
  have h1 : FreshCalls Tryd.prog Γ 60 [tI i, tI 10] (tS (itoaL i)) := by
    refine run_freshQ i_strconv_FormatInt_chk rfl ?_
    have h0 : (0 : Int) ≤ i := by omega
    have h2 : (i : Int) < 100 := by omega
    simp (disch := omega) [i_strconv_FormatInt_ic, h2]
    refine callK_fresh (small_spec i hi) rfl ?_
    simp [i_strconv_FormatInt_rv, tS, sV]
  have h2 : FreshCalls Tryd.prog Γ 52 [tI i] (tS (itoaL i)) := by
    refine run_freshQ i_strconv_Itoa_chk rfl ?_
    simp [i_strconv_Itoa_ic]
    refine callK_fresh h1 rfl ?_
    simp [i_strconv_Itoa_rv, tS, sV]
  refine run_freshQ strconv_Itoa_chk rfl ?_
  simp [strconv_Itoa_ic]
  refine callK_fresh h2 rfl ?_
  simp [strconv_Itoa_rv, tS, sV]
end Go.Lg

/- Copies of circuits. Conditions: none. -/
set_option linter.unusedSimpArgs false
set_option linter.unusedVariables false
set_option maxRecDepth 100000
namespace Go.Lg
open Go Go.Proofs
variable {Γ : Tables}

/-- What is known of a list tells whether it is nil. -/
def SlOk {α : Type} (s : Sl α) : Prop := (s.nl = some true → s.l = []) ∧ (s.nl = none → s.l ≠ []) ∧ s.l.length ≤ 1000000
def cpS (s : Sl Int) : Sl Int := ⟨s.l, some s.l.length, if s.nl = some true then some true else none⟩

theorem clone_int_a (s : Sl Int) (hs : SlOk s) : FreshCalls Tryd.prog Γ 36 [tSl s] (if s.nl = some true then .sl [] (some 0) (some true) else .sl (ints s.l) none none) := by
  refine run_freshQ slices_Clone_int_chk rfl ?_
  obtain ⟨l, cap, nl⟩ := s
  obtain ⟨h1, h2, h3⟩ := hs
  simp only at h1 h2 h3
  rcases nl with _ | _ | _
  · have h4 : ints l ≠ [] := by simpa [enc1] using h2 rfl
    simp (disch := omega) [slices_Clone_int_ic, slices_Clone_int_rv, enc1_wid, enc1_len, h4, Later, tSl]
    omega
  · simp (disch := omega) [slices_Clone_int_ic, slices_Clone_int_rv, enc1_wid, enc1_len, Later, tSl]
    omega
  · have := h1 rfl
    subst this
    simp [slices_Clone_int_ic, slices_Clone_int_rv, tSl]

theorem copied_int_spec (s : Sl Int) (hs : SlOk s) : PureCalls Tryd.prog Γ 51 [tSl s] (tSl (cpS s)) := by
  refine run_pureQ netlists_copied_int_chk rfl ?_
  have e1 := clone_int_a (Γ := Γ) s hs
  obtain ⟨l, cap, nl⟩ := s
  obtain ⟨h1, h2, h3⟩ := hs
  simp only at h1 h2 h3
  simp only at e1
  simp [netlists_copied_int_ic, tSl]
  refine callK_fresh e1 rfl ?_
  rcases nl with _ | _ | _
  · simp
    refine callK_pure (clip_int (ints l) none none enc1_wid) rfl ?_
    simp [netlists_copied_int_rv, cpS, enc1_len]
  · simp
    refine callK_pure (clip_int (ints l) none none enc1_wid) rfl ?_
    simp [netlists_copied_int_rv, cpS, enc1_len]
  · have := h1 rfl
    subst this
    simp
    refine callK_pure (clip_int [] (some 0) (some true) (by simp)) rfl ?_
    simp [netlists_copied_int_rv, cpS, enc1_len, enc1_nil]

theorem copied_names_spec (l : List (List UInt8)) (cap : Option Nat) (nl : Option Bool) (hq : nl ≠ some true) (h : l ≠ []) (hl : l.length ≤ 1000000) : PureCalls Tryd.prog Γ 49 [.sl (enc1 tS l) cap nl] (.sl (enc1 tS l) (some l.length) none) := by
  refine run_pureQ netlists_copied_string_chk rfl ?_
  have h4 : enc1 tS l ≠ [] := by simpa [enc1] using h
  have e1 : PureCalls Tryd.prog Γ 57 [.sl (enc1 tS l) cap nl] (.sl (enc1 tS l) none none) := by
    refine run_pureQ slices_Clone_string_chk rfl ?_
    rcases nl with _ | _ | _
    · simp (disch := omega) [slices_Clone_string_ic, slices_Clone_string_rv, enc1_wid, enc1_len, h4, Later]
      omega
    · simp (disch := omega) [slices_Clone_string_ic, slices_Clone_string_rv, enc1_wid, enc1_len, h4, Later]
      omega
    · exact absurd rfl hq
  have e2 : PureCalls Tryd.prog Γ 39 [.sl (enc1 tS l) none none] (.sl (enc1 tS l) (some l.length) none) := by
    refine run_pureQ slices_Clip_string_chk rfl ?_
    simp [slices_Clip_string_ic, slices_Clip_string_rv, enc1_wid, enc1_len]
  simp [netlists_copied_string_ic]
  refine callK_pure e1 rfl ?_
  simp
  refine callK_pure e2 rfl ?_
  simp [netlists_copied_string_rv]

theorem copied_mems_nil : PureCalls Tryd.prog Γ 50 [.sl [] (some 0) (some true)] (.sl [] (some 0) (some true)) := by
  refine run_pureQ netlists_copied_api_Memory_chk rfl ?_
  have e1 : PureCalls Tryd.prog Γ 59 [.sl [] (some 0) (some true)] (.sl [] (some 0) (some true)) := by
    refine run_pureQ slices_Clone_api_Memory_chk rfl ?_
    simp [slices_Clone_api_Memory_ic, slices_Clone_api_Memory_rv]
  have e2 : PureCalls Tryd.prog Γ 58 [.sl [] (some 0) (some true)] (.sl [] (some 0) (some true)) := by
    refine run_pureQ slices_Clip_api_Memory_chk rfl ?_
    simp [slices_Clip_api_Memory_ic, slices_Clip_api_Memory_rv]
  simp [netlists_copied_api_Memory_ic]
  refine callK_pure e1 rfl ?_
  simp
  refine callK_pure e2 rfl ?_
  simp [netlists_copied_api_Memory_rv]

theorem copied_nodes_h (l : List Nd) (cap : Option Nat) (nl : Option Bool) (hq : nl ≠ some true) (h : l ≠ []) (hl : l.length ≤ 1000000) : HCalls Tryd.prog Γ 48 [] [.t (.sl (encN tNd l) cap nl)] (.ls 4007 0 l.length (some l.length)) [(4007, .sl 81 4 (encN tNd l))] := by
  refine run_handQ netlists_copied_api_Node_chk rfl ?_
  have h4 : encN tNd l ≠ [] := by simpa [encN] using h
  have e1 : HCalls Tryd.prog Γ 56 [] [.t (.sl (encN tNd l) cap nl)] (.ls 7 0 l.length none) [(7, .sl 81 4 (encN tNd l))] := by
    refine run_handQ slices_Clone_api_Node_chk rfl ?_
    rcases nl with _ | _ | _
    · simp (disch := omega) [slices_Clone_api_Node_ic, slices_Clone_api_Node_rv, tNd_wid, encN_len, h4, Later]
      omega
    · simp (disch := omega) [slices_Clone_api_Node_ic, slices_Clone_api_Node_rv, tNd_wid, encN_len, h4, Later]
      omega
    · exact absurd rfl hq
  have e2 : HCalls Tryd.prog Γ 38 [(1000000, .sl 81 4 (encN tNd l))] [.ls 1000000 0 l.length none] (.ls 1000000 0 l.length (some l.length)) [(1000000, .sl 81 4 (encN tNd l))] := by
    refine run_handQ slices_Clip_api_Node_chk rfl ?_
    simp [slices_Clip_api_Node_ic, slices_Clip_api_Node_rv, tNd_wid, encN_len]
  simp [netlists_copied_api_Node_ic]
  refine ⟨_, _, e1, ?_⟩
  simp
  refine ⟨_, _, e2, ?_⟩
  simp [netlists_copied_api_Node_rv]
end Go.Lg

/- netlists.Copy. Conditions: none. -/
set_option linter.unusedSimpArgs false
set_option linter.unusedVariables false
set_option maxRecDepth 100000
namespace Go.Lg
open Go Go.Proofs
variable {Γ : Tables}

theorem calltK_pure {f : FuncId} {as' : List AV} {ts : List T} {res : T} {K : T → Prop} (h : PureCalls Tryd.prog Γ f ts res) (ht : optAll (as'.map toT) = some ts) (hk : K res) : calltK Tryd.prog Γ f as' K ⟨⟩ := ⟨ts, res, ht, .inl h, hk⟩
theorem encN_set {α : Type} {f : α → List T} {l : List α} {n : Nat} {x : α} : (encN f l).set n (f x) = encN f (l.set n x) := by simp [encN, List.map_set]
theorem gN {l : List Nd} {i : Nat} (h : i < l.length) : (encN tNd l)[i]?.getD [] = tNd (l.getD i Nd.d) := by
  rw [encN_get Nd.d h]; rfl

def cpNd (x : Nd) : Nd := ⟨x.k, cpS x.inn, x.mem, x.bit⟩
def cpL : Nat → Nat → List Nd → List Nd
  | 0, _, L => L
  | k + 1, i, L => cpL k (i + 1) (L.set i (cpNd (L.getD i Nd.d)))
theorem cpL_eq : ∀ (k i : Nat) (L : List Nd), i + k = L.length → cpL k i L = L.take i ++ (L.drop i).map cpNd
  | 0, i, L, h => by rw [List.drop_of_length_le (by omega), List.take_of_length_le (by omega)]; simp [cpL]
  | k + 1, i, L, h => by
    have hi : i < L.length := by omega
    simp only [cpL]
    rw [cpL_eq k (i + 1) _ (by simp; omega), List.drop_eq_getElem_cons hi]
    have e : L.getD i Nd.d = L[i] := by simp [List.getD_eq_getElem?_getD, hi]
    rw [e]
    have h1 : (L.set i (cpNd L[i])).take (i + 1) = L.take i ++ [cpNd L[i]] := by
      rw [List.take_add_one, List.take_set_of_le (Nat.le_refl i)]
      simp [hi]
    rw [h1, List.drop_set_of_lt (by omega), List.map_cons, List.append_assoc]
    rfl

def cpH (n : Nat) (nm mm oo : T) (L : List Nd) : List (Nat × Reg) :=
  [(2, .bx [.t (.sl [] (some 0) (some true)), .t (.sl [] (some 0) (some true)), .t (.sl [] (some 0) (some true)), .t (.sl [] (some 0) (some true))]), (3, .bx [.ls 14007 0 n (some n), .t nm, .t mm, .t oo]), (14007, .sl 81 4 (encN tNd L))]

theorem copy_loop {Q : AX → St → Prop} (n : Nat) (hn : n ≤ 1000000) (nm mm oo : T) (R : List Nd)
    (h0 : Q (.exit 0) ⟨[(2, .lp 2 0 0), (3, .lp 3 0 0), (22, .ls 14007 0 n (some n)), (23, .t (tI n)), (24, .t (tI n)), (25, .t (tB false))], cpH n nm mm oo R⟩) :
    ∀ (k i : Nat) (L : List Nd), k + i = n → L.length = n → (∀ j, i ≤ j → j < n → SlOk (L.getD j Nd.d).inn) → cpL k i L = R →
    run Tryd.prog Γ netlists_Copy_l1 Q ⟨[(2, .lp 2 0 0), (3, .lp 3 0 0), (22, .ls 14007 0 n (some n)), (23, .t (tI n)), (24, .t (tI i))], cpH n nm mm oo L⟩
  | 0, i, L, h, hl, hs, hR => by
    refine netlists_Copy_l1_run fun K hK => ?_
    have h3 : i = n := by omega
    subst h3
    simp only [cpL] at hR
    subst hR
    simp [cpH]
    simpa [cpH] using h0
  | k + 1, i, L, h, hl, hs, hR => by
    refine netlists_Copy_l1_run fun K hK => ?_
    have h2 : i < n := by omega
    have hi : i < L.length := by omega
    simp only [cpL] at hR
    have e := gN hi
    have hx : SlOk (L.getD i Nd.d).inn := hs i (Nat.le_refl i) h2
    have e1 := copied_int_spec (Γ := Γ) _ hx
    have ih := copy_loop n hn nm mm oo R h0 k (i + 1) (L.set i (cpNd (L.getD i Nd.d))) (by omega) (by simp [hl]) (fun j hj hjn => by
      have : (L.set i (cpNd (L.getD i Nd.d))).getD j Nd.d = L.getD j Nd.d := by
        rw [List.getD_eq_getElem?_getD, List.getElem?_set, if_neg (by omega), ← List.getD_eq_getElem?_getD]
      rw [this]
      exact hs j (by omega) hjn) hR
    generalize L.getD i Nd.d = x at *
    have e' : ∀ h : i < (encN tNd L).length, (encN tNd L)[i] = tNd x := fun h => by rw [← e]; simp [hi, encN_len]
    have hset : (encN tNd L).set i [tK x.k, tSl (cpS x.inn), tI x.mem, tI x.bit] = encN tNd (L.set i (cpNd x)) := encN_set (f := tNd) (x := cpNd x)
    simp only [tSl] at e1 hset
    simp (disch := omega) [cpH, h2, encN_len, tNd_wid, e, e', hl, wrap_i64, tNd, tSl]
    refine calltK_pure e1 rfl ?_
    simp (disch := omega) [cpH, h2, hi, encN_len, tNd_wid, e, e', hl, wrap_i64, tNd, tSl, hset]
    rw [hK]
    simpa [cpH] using ih

def copyC (c : Cir) : Cir := ⟨⟨c.nodes.l.map cpNd, some c.nodes.l.length, none⟩, ⟨c.names.l, some c.names.l.length, none⟩, ⟨[], some 0, some true⟩, cpS c.outs⟩

/-- A circuit that can be copied: without memories, and what is empty is nil. -/
structure CpOk (c : Cir) : Prop where
  n0 : c.nodes.l ≠ []
  n1 : c.nodes.l.length ≤ 1000000
  nn : c.nodes.nl ≠ some true
  m0 : c.names.l ≠ []
  m1 : c.names.l.length ≤ 1000000
  mn : c.names.nl ≠ some true
  mems : c.mems = ⟨[], some 0, some true⟩
  inn : ∀ x ∈ c.nodes.l, SlOk x.inn
  outs : SlOk c.outs

theorem copy_spec (c : Cir) (hc : CpOk c) : PureCalls Tryd.prog Γ 33 [.agg (tC c)] (.agg (tC (copyC c))) := by
  refine run_pureQ netlists_Copy_chk rfl ?_
  have e1 := copied_nodes_h (Γ := Γ) c.nodes.l c.nodes.cap c.nodes.nl hc.nn hc.n0 hc.n1
  have e2 := copied_names_spec (Γ := Γ) c.names.l c.names.cap c.names.nl hc.mn hc.m0 hc.m1
  have e3 := copied_mems_nil (Γ := Γ)
  have e4 := copied_int_spec (Γ := Γ) c.outs hc.outs
  have hcp : cpL c.nodes.l.length 0 c.nodes.l = c.nodes.l.map cpNd := by rw [cpL_eq _ _ _ (by omega)]; simp
  have hn1 := hc.n1
  have g1 := fun Q nm mm oo h0 => copy_loop (Γ := Γ) (Q := Q) c.nodes.l.length hc.n1 nm mm oo _ h0 c.nodes.l.length 0 c.nodes.l (by omega) rfl (fun j _ hj => hc.inn _ (by rw [List.getD_eq_getElem?_getD, List.getElem?_eq_getElem hj]; exact List.getElem_mem hj)) hcp
  have hml : (encN tNd (c.nodes.l.map cpNd)).take c.nodes.l.length = encN tNd (c.nodes.l.map cpNd) := List.take_of_length_le (by simp [encN])
  simp [netlists_Copy_ic, tC, tNodes, tNames, tMems, tSl, hc.mems]
  refine ⟨_, _, e1, ?_⟩
  simp
  refine calltK_pure e2 rfl ?_
  simp
  refine calltK_pure e3 rfl ?_
  simp
  simp [tSl] at e4
  refine calltK_pure e4 rfl ?_
  simp
  simp [cpH] at g1
  refine g1 _ _ _ _ ?_
  simp [St.freeze, Reg.closed, frzRef, frz1, frz0, frzReg, del, reify, hml]
  refine netlists_Copy_l3_run fun K hK => ?_
  simp [netlists_Copy_rv, copyC, encN_len, enc1_nil, show encN tMm [] = [] from rfl]
end Go.Lg

/- The builder's add, for each state that it is called in. Conditions: none. -/
set_option linter.unusedSimpArgs false
set_option linter.unusedVariables false
set_option maxRecDepth 100000
namespace Go.Lg
open Go Go.Proofs
variable {Γ : Tables}

theorem add_tt (seen : List (List UInt8)) (nodes : List Nd) (names : List (List UInt8)) (ol : List Int) (oc : Option Nat) (on : Option Bool) (x : Nd) (nm : List UInt8) (hn : nodes.length ≤ 1000000) (hm : names.length ≤ 1000000) (hs : nm ∉ seen) (hl : nm.length ≤ 32) :
    HCalls Tryd.prog Γ 34 [(1000000, .mp (seenM seen)), (1000001, .bx [.t (.sl (encN tNd nodes) (some nodes.length) none), .t (.sl (enc1 tS names) (some names.length) none), .t (.sl [] (some 0) (some true)), .t (.sl (ints ol) oc on), .lm 1000000, .t (tB false)])] [.lp 1000001 0 0, .ag ((tNd x).map .t), .t (tS nm)] (.t (tI nodes.length))
      [(40, .sl 81 4 (encN tNd (nodes ++ [x]))), (52, .sl 9 1 (enc1 tS (names ++ [nm]))), (1000000, .mp (seenM (seen ++ [nm]))), (1000001, .bx [.ls 40 0 (nodes.length + 1) none, .ls 52 0 (names.length + 1) none, .t (.sl [] (some 0) (some true)), .t (.sl (ints ol) oc on), .lm 1000000, .t (tB false)])] := by
  refine run_handQ scans_builder_add_chk rfl ?_
  have q1 : encN tNd nodes ++ [[tK x.k, .sl (ints x.inn.l) x.inn.cap x.inn.nl, tI x.mem, tI x.bit]] = encN tNd (nodes ++ [x]) := encN_snoc (f := tNd) (x := x)
  have q2 : enc1 tS names ++ [[.v (sV nm)]] = enc1 tS (names ++ [nm]) := enc1_snoc
  have w1 : wid 4 [[tK x.k, .sl (ints x.inn.l) x.inn.cap x.inn.nl, tI x.mem, tI x.bit]] := by intro e he; simp at he; subst he; rfl
  have w2 : wid 1 [[T.v (sV nm)]] := by intro e he; simp at he; subst he; rfl
  have t1 : (encN tNd nodes).take nodes.length = encN tNd nodes := encN_take_len
  have t2 : (enc1 tS names).take names.length = enc1 tS names := enc1_take_len
  have f1 := seenM_find nm seen
  rw [if_neg hs] at f1
  have f2 := seenM_set nm seen hs
  have f3 := seenM_fit seen
  have h32 : ¬ 32 < nm.length := by omega
  have h32' : ¬ (32 : Int) < nm.length := by omega
  have hfit : KT.str.fits (sV nm) = true := rfl
  simp only [sV] at q2 w2 f1 f2 hfit
  simp [scans_builder_add_ic, tNd, tSl, tS, sV]
  refine scans_builder_add_l1_run fun K hK => ?_
  simp (maxSteps := 1000000) (disch := omega) [f1, f2, f3, hfit, h32, h32', q1, q2, w1, w2, t1, t2, encN_len, enc1_len, tNd_wid, enc1_wid, wrap_i64]
  simp (disch := omega) [scans_builder_add_rv, wrap_i64, hn, hm]
  omega

theorem add_rt (seen : List (List UInt8)) (nodes : List Nd) (names : List (List UInt8)) (ol : List Int) (oc : Option Nat) (on : Option Bool) (x : Nd) (nm : List UInt8) (hn : nodes.length ≤ 1000000) (hm : names.length ≤ 1000000) (hs : nm ∉ seen) (hl : nm.length ≤ 32) :
    HCalls Tryd.prog Γ 34 [(1000000, .mp (seenM seen)), (1000001, .bx [.ls 1000003 0 nodes.length none, .ls 1000004 0 names.length none, .t (.sl [] (some 0) (some true)), .t (.sl (ints ol) oc on), .lm 1000000, .t (tB false)]), (1000003, .sl 81 4 (encN tNd nodes)), (1000004, .sl 9 1 (enc1 tS names))] [.lp 1000001 0 0, .ag ((tNd x).map .t), .t (tS nm)] (.t (tI nodes.length))
      [(40, .sl 81 4 (encN tNd (nodes ++ [x]))), (52, .sl 9 1 (enc1 tS (names ++ [nm]))), (1000000, .mp (seenM (seen ++ [nm]))), (1000001, .bx [.ls 40 0 (nodes.length + 1) none, .ls 52 0 (names.length + 1) none, .t (.sl [] (some 0) (some true)), .t (.sl (ints ol) oc on), .lm 1000000, .t (tB false)])] := by
  refine run_handQ scans_builder_add_chk rfl ?_
  have q1 : encN tNd nodes ++ [[tK x.k, .sl (ints x.inn.l) x.inn.cap x.inn.nl, tI x.mem, tI x.bit]] = encN tNd (nodes ++ [x]) := encN_snoc (f := tNd) (x := x)
  have q2 : enc1 tS names ++ [[.v (sV nm)]] = enc1 tS (names ++ [nm]) := enc1_snoc
  have w1 : wid 4 [[tK x.k, .sl (ints x.inn.l) x.inn.cap x.inn.nl, tI x.mem, tI x.bit]] := by intro e he; simp at he; subst he; rfl
  have w2 : wid 1 [[T.v (sV nm)]] := by intro e he; simp at he; subst he; rfl
  have t1 : (encN tNd nodes).take nodes.length = encN tNd nodes := encN_take_len
  have t2 : (enc1 tS names).take names.length = enc1 tS names := enc1_take_len
  have f1 := seenM_find nm seen
  rw [if_neg hs] at f1
  have f2 := seenM_set nm seen hs
  have f3 := seenM_fit seen
  have h32 : ¬ 32 < nm.length := by omega
  have h32' : ¬ (32 : Int) < nm.length := by omega
  have hfit : KT.str.fits (sV nm) = true := rfl
  simp only [sV] at q2 w2 f1 f2 hfit
  simp [scans_builder_add_ic, tNd, tSl, tS, sV]
  refine scans_builder_add_l1_run fun K hK => ?_
  simp (maxSteps := 1000000) (disch := omega) [f1, f2, f3, hfit, h32, h32', q1, q2, w1, w2, t1, t2, encN_len, enc1_len, tNd_wid, enc1_wid, wrap_i64]
  simp (disch := omega) [scans_builder_add_rv, wrap_i64, hn, hm]
  omega

theorem add_rr (seen : List (List UInt8)) (nodes : List Nd) (names : List (List UInt8)) (ol : List Int) (x : Nd) (nm : List UInt8) (hn : nodes.length ≤ 1000000) (hm : names.length ≤ 1000000) (hs : nm ∉ seen) (hl : nm.length ≤ 32) :
    HCalls Tryd.prog Γ 34 [(1000000, .mp (seenM seen)), (1000001, .bx [.ls 1000003 0 nodes.length none, .ls 1000004 0 names.length none, .t (.sl [] (some 0) (some true)), .ls 1000002 0 ol.length none, .lm 1000000, .t (tB false)]), (1000002, .sl 3 1 (ints ol)), (1000003, .sl 81 4 (encN tNd nodes)), (1000004, .sl 9 1 (enc1 tS names))] [.lp 1000001 0 0, .ag ((tNd x).map .t), .t (tS nm)] (.t (tI nodes.length))
      [(40, .sl 81 4 (encN tNd (nodes ++ [x]))), (52, .sl 9 1 (enc1 tS (names ++ [nm]))), (1000000, .mp (seenM (seen ++ [nm]))), (1000001, .bx [.ls 40 0 (nodes.length + 1) none, .ls 52 0 (names.length + 1) none, .t (.sl [] (some 0) (some true)), .ls 1000002 0 ol.length none, .lm 1000000, .t (tB false)]), (1000002, .sl 3 1 (ints ol))] := by
  refine run_handQ scans_builder_add_chk rfl ?_
  have q1 : encN tNd nodes ++ [[tK x.k, .sl (ints x.inn.l) x.inn.cap x.inn.nl, tI x.mem, tI x.bit]] = encN tNd (nodes ++ [x]) := encN_snoc (f := tNd) (x := x)
  have q2 : enc1 tS names ++ [[.v (sV nm)]] = enc1 tS (names ++ [nm]) := enc1_snoc
  have w1 : wid 4 [[tK x.k, .sl (ints x.inn.l) x.inn.cap x.inn.nl, tI x.mem, tI x.bit]] := by intro e he; simp at he; subst he; rfl
  have w2 : wid 1 [[T.v (sV nm)]] := by intro e he; simp at he; subst he; rfl
  have t1 : (encN tNd nodes).take nodes.length = encN tNd nodes := encN_take_len
  have t2 : (enc1 tS names).take names.length = enc1 tS names := enc1_take_len
  have f1 := seenM_find nm seen
  rw [if_neg hs] at f1
  have f2 := seenM_set nm seen hs
  have f3 := seenM_fit seen
  have h32 : ¬ 32 < nm.length := by omega
  have h32' : ¬ (32 : Int) < nm.length := by omega
  have hfit : KT.str.fits (sV nm) = true := rfl
  simp only [sV] at q2 w2 f1 f2 hfit
  simp [scans_builder_add_ic, tNd, tSl, tS, sV]
  refine scans_builder_add_l1_run fun K hK => ?_
  simp (maxSteps := 1000000) (disch := omega) [f1, f2, f3, hfit, h32, h32', q1, q2, w1, w2, t1, t2, encN_len, enc1_len, tNd_wid, enc1_wid, wrap_i64]
  simp (disch := omega) [scans_builder_add_rv, wrap_i64, hn, hm]
  omega
end Go.Lg

/- scans.Insert: the loops over the names and along a chain. Conditions: none. -/
set_option linter.unusedSimpArgs false
set_option linter.unusedVariables false
set_option maxRecDepth 100000
namespace Go.Lg
open Go Go.Proofs
variable {Γ : Tables}

/-- A map from int to int. -/
def befM (l : List (Int × Int)) : List (Value × T) := l.map fun p => (.int .i64 p.1, tI p.2)
def befOf (l : List (Int × Int)) (n : Int) : Int := match l.find? (fun p => p.1 == n) with | some p => p.2 | none => 0
theorem befM_fit (l : List (Int × Int)) : keysFit (.int .i64) (befM l) := by
  intro e he; obtain ⟨s, _, rfl⟩ := List.mem_map.1 he; rfl
theorem befM_find (n : Int) : ∀ l : List (Int × Int), (findM (.int .i64 n) (befM l)).getD (tI 0) = tI (befOf l n)
  | [] => rfl
  | (a, p) :: l => by
    have ih := befM_find n l
    simp only [befM, befOf, List.map_cons, findM, keyEq, List.find?_cons] at ih ⊢
    by_cases h : n = a
    · simp [h]
    · have h' : ¬ a = n := fun e => h e.symm
      simp [h, h', ih]
theorem befM_set (n a : Int) : ∀ l : List (Int × Int), n ∉ l.map (·.1) → setM (.int .i64 n) (tI a) (befM l) = befM (l ++ [(n, a)])
  | [], _ => rfl
  | (b, p) :: l, h => by
    have ih := befM_set n a l (fun hm => h (by simp only [List.map_cons, List.mem_cons]; exact .inr hm))
    have hne : n ≠ b := fun e => h (by simp [e])
    simp only [befM, List.map_cons, setM, keyEq, List.cons_append] at ih ⊢
    simp [hne, ih]

def prevs : Int → List Int → List (Int × Int)
  | _, [] => []
  | a, n :: l => (n, a) :: prevs n l
def lastC : Int → List Int → Int
  | a, [] => a
  | _, n :: l => lastC n l
theorem prevs_keys : ∀ (l : List Int) (a : Int), (prevs a l).map (·.1) = l
  | [], _ => rfl
  | n :: l, a => by simp only [prevs, List.map_cons, prevs_keys l n]

def nilT : T := .sl [] (some 0) (some true)
def Z8 : List AV := [.t nilT, .t nilT, .t nilT, .t nilT, .t nilT, .t (tI 0), .t nilT, .t nilT]

theorem gi1 {f : Int → T} {l : List Int} {i : Nat} (hi : i < l.length) : (enc1 f l)[i]?.getD [] = [f (l.getD i 0)] := by
  rw [enc1_get 0 hi]; rfl
theorem ins_l1 {Q : AX → St → Prop} (t1 t7 : T) (c : Cir) (names : Sl (List UInt8)) (hl : names.l.length ≤ 1000000) (hnd : names.l.Nodup) (N M O : T)
    (h0 : Q (.exit 0) ⟨[(1, .t t1), (2, .t (.ip (tC c) 0)), (4, .lp 4 0 0), (7, .t t7), (8, .lp 46 0 0), (48, .t (tNames names)), (49, .t (tI names.l.length)), (50, .t (tI names.l.length)), (51, .t (tB false))], [(4, .bx Z8), (44, .mp (seenM names.l)), (46, .bx [.t N, .t M, .t nilT, .t O, .lm 44, .t (tB false)])]⟩) :
    ∀ (k i : Nat), k + i = names.l.length →
    run Tryd.prog Γ scans_Insert_l1 Q ⟨[(1, .t t1), (2, .t (.ip (tC c) 0)), (4, .lp 4 0 0), (7, .t t7), (8, .lp 46 0 0), (48, .t (tNames names)), (49, .t (tI names.l.length)), (50, .t (tI i))], [(4, .bx Z8), (44, .mp (seenM (names.l.take i))), (46, .bx [.t N, .t M, .t nilT, .t O, .lm 44, .t (tB false)])]⟩
  | 0, i, h => by
    refine scans_Insert_l1_run fun K hK => ?_
    have h3 : i = names.l.length := by omega
    subst h3
    rw [List.take_of_length_le (Nat.le_refl _)]
    simp [Z8]
    simpa [Z8] using h0
  | k + 1, i, h => by
    refine scans_Insert_l1_run fun K hK => ?_
    have h2 : i < names.l.length := by omega
    have ih := ins_l1 t1 t7 c names hl hnd N M O h0 k (i + 1) (by omega)
    have ht : names.l.take (i + 1) = names.l.take i ++ [names.l[i]] := by rw [List.take_add_one]; simp [h2]
    have hm : names.l[i] ∉ names.l.take i := fun hm => by
      obtain ⟨j, hj, e⟩ := List.getElem_of_mem hm
      simp at hj e
      have hji : j < i := by omega
      exact List.pairwise_iff_getElem.1 (List.nodup_iff_pairwise_ne.1 hnd) j i (by omega) h2 hji e
    have e := enc1_get (f := tS) [] h2
    have e2 : names.l[i]?.getD [] = names.l[i] := by simp [h2]
    rw [e2] at e
    rw [ht] at ih
    generalize names.l[i] = x at *
    have e' : ∀ h : i < (enc1 tS names.l).length, (enc1 tS names.l)[i] = [tS x] := fun h => by rw [← e]; simp [h]
    have f2 := seenM_set x _ hm
    have f3 := seenM_fit (names.l.take i)
    have hfit : KT.str.fits (sV x) = true := rfl
    simp only [tS, sV] at e e' f2 hfit
    simp [h2, tNames, enc1_len, enc1_wid, e, e', f2, f3, hfit, Z8]
    rw [wrap_i64 (by omega) (by omega), hK]
    simpa [tNames, Z8] using ih

def i3E (t2 t7 t65 t66 t67 t93 : T) (L : List Int) (lc : Option Nat) (ln : Option Bool) (last : Int) (i : Nat) : List (Nat × AV) :=
  [(2, .t t2), (4, .lp 4 0 0), (7, .t t7), (8, .lp 46 0 0), (11, .lp 11 0 0), (12, .lm 64), (15, .t (tI last)), (65, .t t65), (66, .t t66), (67, .t t67), (92, .t (.sl (ints L) lc ln)), (93, .t t93), (94, .t (tI i))]
def i3H (r11 r44 r46 r78 r90 r157 rN rM : Reg) (bef : List (Int × Int)) : List (Nat × Reg) :=
  [(4, .bx Z8), (11, r11), (44, r44), (46, r46), (64, .mp (befM bef)), (78, r78), (90, r90), (157, r157), (62040, rN), (62052, rM)]

theorem ins_l3 {Q : AX → St → Prop} (t2 t7 t65 t66 t67 : T) (r11 r44 r46 r78 r90 r157 rN rM : Reg) (L : List Int) (hL : L.length ≤ 1000000) (lc : Option Nat) (ln : Option Bool) (hnd : L.Nodup) (R : List (Int × Int)) (z : Int)
    (h0 : Q (.exit 4) ⟨i3E t2 t7 t65 t66 t67 (tI L.length) L lc ln z L.length ++ [(95, .t (tB false))], i3H r11 r44 r46 r78 r90 r157 rN rM R⟩) :
    ∀ (k i : Nat) (last : Int) (bef : List (Int × Int)), k + i = L.length → (∀ n ∈ L.drop i, n ∉ bef.map (·.1)) → bef ++ prevs last (L.drop i) = R → lastC last (L.drop i) = z →
    run Tryd.prog Γ scans_Insert_l3 Q ⟨i3E t2 t7 t65 t66 t67 (tI L.length) L lc ln last i, i3H r11 r44 r46 r78 r90 r157 rN rM bef⟩
  | 0, i, last, bef, h, hk, hR, hz => by
    refine scans_Insert_l3_run fun K hK => ?_
    have h3 : i = L.length := by omega
    subst h3
    rw [List.drop_of_length_le (Nat.le_refl _)] at hR hz
    simp only [prevs, lastC, List.append_nil] at hR hz
    subst hR; subst hz
    simp [i3E, i3H, Z8]
    simpa [i3E, i3H, Z8] using h0
  | k + 1, i, last, bef, h, hk, hR, hz => by
    refine scans_Insert_l3_run fun K hK => ?_
    have h2 : i < L.length := by omega
    have e := gi1 (f := tI) h2
    rw [getD_eq h2] at e
    have hd : L.drop (i + 1) = (L.drop i).tail := by simp
    rw [List.drop_eq_getElem_cons h2] at hR hz hk
    have hxm := List.pairwise_iff_getElem.1 (List.nodup_iff_pairwise_ne.1 hnd)
    have hnx : ∀ n ∈ L.drop (i + 1), n ≠ L[i] := fun n hn e => by
      obtain ⟨j, hj, rfl⟩ := List.getElem_of_mem hn
      simp at hj e
      exact hxm i (i + 1 + j) h2 (by omega) (by omega) e.symm
    generalize L[i] = x at *
    simp only [prevs, lastC] at hR hz
    have hx : x ∉ bef.map (·.1) := hk x List.mem_cons_self
    have ih := ins_l3 t2 t7 t65 t66 t67 r11 r44 r46 r78 r90 r157 rN rM L hL lc ln hnd R z h0 k (i + 1) x (bef ++ [(x, last)]) (by omega) (fun n hn => by
      rw [List.map_append, List.mem_append]
      rintro (h | h)
      · exact hk n (List.mem_cons_of_mem _ hn) h
      · simp at h; exact hnx n hn h) (by rw [List.append_assoc]; exact hR) hz
    have f2 := befM_set x last bef hx
    have f3 := befM_fit bef
    have hfit : (KT.int .i64).fits (.int .i64 x) = true := rfl
    have e' : ∀ h : i < (ints L).length, (ints L)[i] = [tI x] := fun h => by rw [← e]; simp [h]
    simp only [i3E, i3H] at ih ⊢
    simp [h2, enc1_len, enc1_wid, e, e', f2, f3, hfit]
    rw [wrap_i64 (by omega) (by omega), hK]
    simpa using ih
end Go.Lg

/- scans.Insert: the loop along a chain, with outputs of its own. Conditions: none. -/
set_option linter.unusedSimpArgs false
set_option linter.unusedVariables false
set_option maxRecDepth 100000
namespace Go.Lg
open Go Go.Proofs
variable {Γ : Tables}

def i3G (r11 r44 r46 r78 r90 r111 r157 rN rM : Reg) (bef : List (Int × Int)) : List (Nat × Reg) :=
  [(4, .bx Z8), (11, r11), (44, r44), (46, r46), (64, .mp (befM bef)), (78, r78), (90, r90), (111, r111), (157, r157), (62040, rN), (62052, rM)]

theorem ins_m3 {Q : AX → St → Prop} (t2 t7 t65 t66 t67 : T) (r11 r44 r46 r78 r90 r111 r157 rN rM : Reg) (L : List Int) (hL : L.length ≤ 1000000) (lc : Option Nat) (ln : Option Bool) (hnd : L.Nodup) (R : List (Int × Int)) (z : Int)
    (h0 : Q (.exit 4) ⟨i3E t2 t7 t65 t66 t67 (tI L.length) L lc ln z L.length ++ [(95, .t (tB false))], i3G r11 r44 r46 r78 r90 r111 r157 rN rM R⟩) :
    ∀ (k i : Nat) (last : Int) (bef : List (Int × Int)), k + i = L.length → (∀ n ∈ L.drop i, n ∉ bef.map (·.1)) → bef ++ prevs last (L.drop i) = R → lastC last (L.drop i) = z →
    run Tryd.prog Γ scans_Insert_l3 Q ⟨i3E t2 t7 t65 t66 t67 (tI L.length) L lc ln last i, i3G r11 r44 r46 r78 r90 r111 r157 rN rM bef⟩
  | 0, i, last, bef, h, hk, hR, hz => by
    refine scans_Insert_l3_run fun K hK => ?_
    have h3 : i = L.length := by omega
    subst h3
    rw [List.drop_of_length_le (Nat.le_refl _)] at hR hz
    simp only [prevs, lastC, List.append_nil] at hR hz
    subst hR; subst hz
    simp [i3E, i3G, Z8]
    simpa [i3E, i3G, Z8] using h0
  | k + 1, i, last, bef, h, hk, hR, hz => by
    refine scans_Insert_l3_run fun K hK => ?_
    have h2 : i < L.length := by omega
    have e := gi1 (f := tI) h2
    rw [getD_eq h2] at e
    have hd : L.drop (i + 1) = (L.drop i).tail := by simp
    rw [List.drop_eq_getElem_cons h2] at hR hz hk
    have hxm := List.pairwise_iff_getElem.1 (List.nodup_iff_pairwise_ne.1 hnd)
    have hnx : ∀ n ∈ L.drop (i + 1), n ≠ L[i] := fun n hn e => by
      obtain ⟨j, hj, rfl⟩ := List.getElem_of_mem hn
      simp at hj e
      exact hxm i (i + 1 + j) h2 (by omega) (by omega) e.symm
    generalize L[i] = x at *
    simp only [prevs, lastC] at hR hz
    have hx : x ∉ bef.map (·.1) := hk x List.mem_cons_self
    have ih := ins_m3 t2 t7 t65 t66 t67 r11 r44 r46 r78 r90 r111 r157 rN rM L hL lc ln hnd R z h0 k (i + 1) x (bef ++ [(x, last)]) (by omega) (fun n hn => by
      rw [List.map_append, List.mem_append]
      rintro (h | h)
      · exact hk n (List.mem_cons_of_mem _ hn) h
      · simp at h; exact hnx n hn h) (by rw [List.append_assoc]; exact hR) hz
    have f2 := befM_set x last bef hx
    have f3 := befM_fit bef
    have hfit : (KT.int .i64).fits (.int .i64 x) = true := rfl
    have e' : ∀ h : i < (ints L).length, (ints L)[i] = [tI x] := fun h => by rw [← e]; simp [h]
    simp only [i3E, i3G] at ih ⊢
    simp [h2, enc1_len, enc1_wid, e, e', f2, f3, hfit]
    rw [wrap_i64 (by omega) (by omega), hK]
    simpa using ih
end Go.Lg

/- scans.Insert: the loop over the chains. Conditions: none. -/
set_option linter.unusedSimpArgs false
set_option linter.unusedVariables false
set_option maxRecDepth 100000
namespace Go.Lg
open Go Go.Proofs
variable {Γ : Tables}

structure IS where
  nodes : List Nd
  names : List (List UInt8)
  cl : List (Sl Int)
  ins : List Int
  bef : List (Int × Int)
  outs : List Int
def siN (i : Nat) : List UInt8 := [115, 105] ++ itoaL i
def smN (i : Nat) : List UInt8 := [115, 109] ++ itoaL i
def stepCh (i : Nat) (s : Sl Int) (S : IS) : IS :=
  ⟨S.nodes ++ [inpN], S.names ++ [siN i], S.cl ++ [⟨s.l, some s.l.length, none⟩], S.ins ++ [(S.nodes.length : Int)], S.bef ++ prevs S.nodes.length s.l, S.outs ++ [lastC S.nodes.length s.l]⟩
def goCh : Nat → List (Sl Int) → IS → IS
  | _, [], S => S
  | i, s :: l, S => goCh (i + 1) l (stepCh i s S)
structure ISz (S : IS) : Prop where
  nodes : S.nodes.length ≤ 100000
  names : S.names.length ≤ 100000
  cl : S.cl.length ≤ 100000
  ins : S.ins.length ≤ 100000
  outs : S.outs.length ≤ 100000
structure ChOne (i : Nat) (s : Sl Int) (S : IS) : Prop where
  z : ISz S
  nm : siN i ∉ S.names
  i100 : i < 100
  ne : s.l ≠ []
  nl : s.nl ≠ some true
  len : s.l.length ≤ 1000000
  nd : s.l.Nodup
  key : ∀ n ∈ s.l, n ∉ S.bef.map (·.1)
def okCh : Nat → List (Sl Int) → IS → Prop
  | _, [], S => True
  | i, s :: l, S => ChOne i s S ∧ okCh (i + 1) l (stepCh i s S)

theorem wid1s {t : T} : wid 1 [[t]] = True := eq_true (by intro e he; simp at he; subst he; rfl)
theorem ba_cat (a b : List UInt8) : ByteArray.mk a.toArray ++ ByteArray.mk b.toArray = ByteArray.mk (a ++ b).toArray := by
  ext1; simp [ByteArray.data_append]
theorem siN_len {i : Nat} : (siN i).length ≤ 32 := by unfold siN itoaL; split <;> simp
theorem smN_len {i : Nat} : (smN i).length ≤ 32 := by unfold smN itoaL; split <;> simp

def i6E (c : Cir) (t7 : T) (chs : Sl (Sl Int)) (i : Nat) : List (Nat × AV) :=
  [(2, .t (.ip (tC c) 0)), (4, .lp 4 0 0), (7, .t t7), (8, .lp 46 0 0), (11, .lp 11 0 0), (12, .lm 64), (65, .t (.sl (enc1 tSl chs.l) chs.cap chs.nl)), (66, .t (tI chs.l.length)), (67, .t (tI i))]
def r11 (en : Int) (i : Nat) (k : Nat) : Reg := .bx [.t nilT, .t nilT, .t nilT, .t nilT, .ls 78 0 i none, .t (tI en), .ls 90 0 i none, .ls 157 0 k none]
def r46 (n m : Nat) (O : AV) : Reg := .bx [.ls 62040 0 n none, .ls 62052 0 m none, .t nilT, O, .lm 44, .t (tB false)]
def i6R (en : Int) (S : IS) : List (Nat × Reg) :=
  i3G (r11 en S.cl.length 0) (.mp (seenM S.names)) (r46 S.nodes.length S.names.length (.ls 111 0 S.outs.length none)) (.sl 35 1 (enc1 tSl S.cl)) (.sl 3 1 (ints S.ins)) (.sl 3 1 (ints S.outs)) (.sl 3 1 []) (.sl 81 4 (encN tNd S.nodes)) (.sl 9 1 (enc1 tS S.names)) S.bef
def i6T (en : Int) (ol : List Int) (oc : Option Nat) (on : Option Bool) (S : IS) : List (Nat × Reg) :=
  i3H (r11 en S.cl.length 0) (.mp (seenM S.names)) (r46 S.nodes.length S.names.length (.t (.sl (ints ol) oc on))) (.sl 35 1 (enc1 tSl S.cl)) (.sl 3 1 (ints S.ins)) (.sl 3 1 []) (.sl 81 4 (encN tNd S.nodes)) (.sl 9 1 (enc1 tS S.names)) S.bef

set_option maxHeartbeats 2000000 in
theorem ins_l5 {Q : AX → St → Prop} (c : Cir) (t7 : T) (chs : Sl (Sl Int)) (hcl : chs.l.length ≤ 100) (en : Int) (R : IS)
    (h0 : Q (.exit 2) ⟨i6E c t7 chs chs.l.length ++ [(68, .t (tB false))], i6R en R⟩) :
    ∀ (k i : Nat) (S : IS), k + i = chs.l.length → S.ins.length = S.cl.length → okCh i (chs.l.drop i) S → goCh i (chs.l.drop i) S = R →
    run Tryd.prog Γ scans_Insert_l5 Q ⟨i6E c t7 chs i, i6R en S⟩
  | 0, i, S, h, hic, hk, hR => by
    refine scans_Insert_l5_run fun K hK => ?_
    have h3 : i = chs.l.length := by omega
    subst h3
    rw [List.drop_of_length_le (Nat.le_refl _)] at hR
    simp only [goCh] at hR
    subst hR
    simp [i6E, i6R, i3G, Z8]
    simpa [i6E, i6R, i3G, Z8] using h0
  | k + 1, i, S, h, hic, hk, hR => by
    refine scans_Insert_l5_run fun K hK => ?_
    have h2 : i < chs.l.length := by omega
    rw [List.drop_eq_getElem_cons h2] at hR hk
    have e := enc1_get (f := tSl) ⟨[], none, none⟩ h2
    have e2 : chs.l[i]?.getD ⟨[], none, none⟩ = chs.l[i] := by simp [h2]
    rw [e2] at e
    generalize chs.l[i] = s at *
    obtain ⟨h1, h5⟩ := hk
    simp only [goCh] at hR
    have ih := ins_l5 c t7 chs hcl en R h0 k (i + 1) (stepCh i s S) (by omega) (by simp [stepCh, hic]) h5 hR
    have e' : ∀ h : i < (enc1 tSl chs.l).length, (enc1 tSl chs.l)[i] = [tSl s] := fun h => by rw [← e]; simp [h]
    have hz := h1.z
    have hso : SlOk s := ⟨fun h => absurd h h1.nl, fun _ => h1.ne, h1.len⟩
    have c1 := clone_int_a (Γ := Γ) s hso
    rw [if_neg h1.nl] at c1
    have c2 := clip_int (Γ := Γ) (ints s.l) none none enc1_wid
    have c3 := itoa_spec (Γ := Γ) i h1.i100
    have z1 := hz.nodes
    have z2 := hz.names
    have c4 := add_rr (Γ := Γ) S.names S.nodes S.names S.outs inpN (siN i) (by omega) (by omega) h1.nm siN_len
    have tk1 : (enc1 tSl S.cl).take S.cl.length = enc1 tSl S.cl := enc1_take_len
    have q1 : enc1 tSl S.cl ++ [[.sl (ints s.l) (some s.l.length) none]] = enc1 tSl (S.cl ++ [⟨s.l, some s.l.length, none⟩]) := enc1_snoc (f := tSl) (x := ⟨s.l, some s.l.length, none⟩)
    simp only [tSl] at c1 e e' q1
    simp [i6E, i6R, i3G, r11, r46, h2, enc1_len, enc1_wid, e, e']
    refine callK_fresh c1 rfl ?_
    simp
    refine callK_pure c2 rfl ?_
    simp [enc1_len, enc1_wid, tk1, q1, wid1s, Z8]
    have hcl2 : S.cl.length ≤ 2147483647 := by have := hz.cl; omega
    refine ⟨hcl2, ?_⟩
    refine callK_fresh c3 rfl ?_
    simp [tS, sV, ba_cat, List.idxOf_cons]
    have hil : 2 + (itoaL i).length ≤ 9223372036854775807 := by unfold itoaL; split <;> simp
    refine ⟨hil, ?_⟩
    simp [tNd, inpN, tSl, enc1_nil, tS, sV, siN] at c4
    have g3 := fun Q r11 r44 r46 r78 r90 r111 r157 rN rM h0 => ins_m3 (Γ := Γ) (Q := Q) (.ip (tC c) 0) t7 (.sl (enc1 tSl chs.l) chs.cap chs.nl) (tI chs.l.length) (tI i) r11 r44 r46 r78 r90 r111 r157 rN rM s.l h1.len s.cap s.nl h1.nd _ _ h0 s.l.length 0 S.nodes.length S.bef (by omega) h1.key rfl rfl
    simp [i3E, i3G, Z8] at g3
    have q2 : ints S.ins ++ [[tI S.nodes.length]] = ints (S.ins ++ [(S.nodes.length : Int)]) := enc1_snoc
    have tk2 : (ints S.ins).take S.cl.length = ints S.ins := by rw [← hic]; exact enc1_take_len
    have q3 : ints S.outs ++ [[tI (lastC S.nodes.length s.l)]] = ints (S.outs ++ [lastC S.nodes.length s.l]) := enc1_snoc
    have tk3 : (ints S.outs).take S.outs.length = ints S.outs := enc1_take_len
    refine ⟨_, _, c4, ?_⟩
    simp [List.idxOf_cons, renSt, wid1s, hcl2, tk2, q2, enc1_len]
    refine g3 _ _ _ _ _ _ _ _ _ _ ?_
    simp [wid1s, tk3, q3, enc1_len]
    refine ⟨by have := hz.outs; omega, ?_⟩
    rw [wrap_i64 (by omega) (by omega), hK]
    simpa [i6E, i6R, i3G, r11, r46, Z8, stepCh, nilT, inpN, siN, hic, tSl] using ih
end Go.Lg

/- scans.Insert: the loop over the chains, from its start. Conditions: none. -/
set_option linter.unusedSimpArgs false
set_option linter.unusedVariables false
set_option maxRecDepth 100000
namespace Go.Lg
open Go Go.Proofs
variable {Γ : Tables}

set_option maxHeartbeats 2000000 in
theorem ins_l5t {Q : AX → St → Prop} (c : Cir) (t7 : T) (chs : Sl (Sl Int)) (hcl : chs.l.length ≤ 100) (en : Int) (R : IS) (on : Option Bool) (S : IS)
    (h0 : chs.l ≠ [] → Q (.exit 2) ⟨i6E c t7 chs chs.l.length ++ [(68, .t (tB false))], i6R en R⟩)
    (h0t : chs.l = [] → Q (.exit 2) ⟨i6E c t7 chs 0 ++ [(68, .t (tB false))], i6T en S.outs (some S.outs.length) on S⟩)
    (hic : S.ins.length = S.cl.length) (hk : okCh 0 chs.l S) (hR : goCh 0 chs.l S = R) :
    run Tryd.prog Γ scans_Insert_l5 Q ⟨i6E c t7 chs 0, i6T en S.outs (some S.outs.length) on S⟩ := by
  by_cases hne : chs.l = []
  · have hh := h0t hne
    refine scans_Insert_l5_run fun K hK => ?_
    have hl0 : chs.l.length = 0 := by rw [hne]; rfl
    simp [i6E, i6T, i3H, Z8, hl0] at hh ⊢
    simpa [i6E, i6T, i3H, Z8] using hh
  · have h0 := h0 hne
    have hlen : 0 < chs.l.length := List.length_pos_iff.2 hne
    have step := fun S hs h1 h2 => ins_l5 (Γ := Γ) (Q := Q) c t7 chs hcl en R h0 (chs.l.length - 1) 1 S (by omega) hs h1 h2
    refine scans_Insert_l5_run fun K hK => ?_
    have hdr : chs.l = chs.l[0] :: chs.l.drop 1 := by
      have := List.drop_eq_getElem_cons hlen
      simpa using this
    rw [hdr] at hk hR
    have e := enc1_get (f := tSl) ⟨[], none, none⟩ hlen
    have e2 : chs.l[0]?.getD ⟨[], none, none⟩ = chs.l[0] := by simp [hlen]
    rw [e2] at e
    generalize chs.l[0] = s at *
    obtain ⟨h1, h5⟩ := hk
    simp only [goCh] at hR
    have ih := step (stepCh 0 s S) (by simp [stepCh, hic]) h5 hR
    have e' : ∀ h : 0 < (enc1 tSl chs.l).length, (enc1 tSl chs.l)[0] = [tSl s] := fun h => by rw [← e]; simp [h]
    have hz := h1.z
    have hso : SlOk s := ⟨fun h => absurd h h1.nl, fun _ => h1.ne, h1.len⟩
    have c1 := clone_int_a (Γ := Γ) s hso
    rw [if_neg h1.nl] at c1
    have c2 := clip_int (Γ := Γ) (ints s.l) none none enc1_wid
    have c3 := itoa_spec (Γ := Γ) 0 h1.i100
    have z1 := hz.nodes
    have z2 := hz.names
    have c4 := add_rt (Γ := Γ) S.names S.nodes S.names S.outs (some S.outs.length) on inpN (siN 0) (by omega) (by omega) h1.nm siN_len
    have tk1 : (enc1 tSl S.cl).take S.cl.length = enc1 tSl S.cl := enc1_take_len
    have q1 : enc1 tSl S.cl ++ [[.sl (ints s.l) (some s.l.length) none]] = enc1 tSl (S.cl ++ [⟨s.l, some s.l.length, none⟩]) := enc1_snoc (f := tSl) (x := ⟨s.l, some s.l.length, none⟩)
    have hlen' : chs.l.length ≠ 0 := by omega
    simp only [tSl] at c1 e e' q1
    simp [i6E, i6T, i3H, r11, r46, hlen, enc1_len, enc1_wid, e, e']
    refine callK_fresh c1 rfl ?_
    simp
    refine callK_pure c2 rfl ?_
    simp [enc1_len, enc1_wid, tk1, q1, wid1s, Z8]
    have hcl2 : S.cl.length ≤ 2147483647 := by have := hz.cl; omega
    refine ⟨hcl2, ?_⟩
    refine callK_fresh c3 rfl ?_
    simp [tS, sV, ba_cat, List.idxOf_cons]
    have hil : 2 + (itoaL 0).length ≤ 9223372036854775807 := by unfold itoaL; split <;> simp
    refine ⟨hil, ?_⟩
    simp [tNd, inpN, tSl, enc1_nil, tS, sV, siN] at c4
    have g3 := fun Q r11 r44 r46 r78 r90 r157 rN rM h0 => ins_l3 (Γ := Γ) (Q := Q) (.ip (tC c) 0) t7 (.sl (enc1 tSl chs.l) chs.cap chs.nl) (tI chs.l.length) (tI 0) r11 r44 r46 r78 r90 r157 rN rM s.l h1.len s.cap s.nl h1.nd _ _ h0 s.l.length 0 S.nodes.length S.bef (by omega) h1.key rfl rfl
    simp [i3E, i3H, Z8] at g3
    have q2 : ints S.ins ++ [[tI S.nodes.length]] = ints (S.ins ++ [(S.nodes.length : Int)]) := enc1_snoc
    have tk2 : (ints S.ins).take S.cl.length = ints S.ins := by rw [← hic]; exact enc1_take_len
    have q3 : ints S.outs ++ [[tI (lastC S.nodes.length s.l)]] = ints (S.outs ++ [lastC S.nodes.length s.l]) := enc1_snoc
    have tk3 : (ints S.outs).take S.outs.length = ints S.outs := enc1_take_len
    refine ⟨_, _, c4, ?_⟩
    simp [List.idxOf_cons, renSt, wid1s, hcl2, tk2, q2, enc1_len]
    refine g3 _ _ _ _ _ _ _ _ _ ?_
    simp [wid1s, tk3, q3, enc1_len, enc1_wid]
    refine ⟨by have := hz.outs; omega, ?_⟩
    rw [wrap_i64 (by omega) (by omega), hK]
    simpa [i6E, i6R, i3G, r11, r46, Z8, stepCh, nilT, inpN, siN, hic, tSl] using ih
end Go.Lg

/- scans.Insert: the loop over the states. Conditions: none. -/
set_option linter.unusedSimpArgs false
set_option linter.unusedVariables false
set_option maxRecDepth 100000
namespace Go.Lg
open Go Go.Proofs
variable {Γ : Tables}

structure JS where
  nodes : List Nd
  names : List (List UInt8)
  muxes : List Int
def muxN (e d b : Int) : Nd := ⟨11, ⟨[e, d, b], some 3, some false⟩, 0, 0⟩
def in0 (c : Cir) (n : Int) : Int := (innAt c n.toNat).getD 0 0
def stepSt (c : Cir) (en : Int) (bef : List (Int × Int)) (i : Nat) (n : Int) (J : JS) : JS :=
  ⟨setIn (J.nodes ++ [muxN en (in0 c n) (befOf bef n)]) n.toNat J.nodes.length, J.names ++ [smN i], J.muxes ++ [(J.nodes.length : Int)]⟩
def goSt (c : Cir) (en : Int) (bef : List (Int × Int)) : Nat → List Int → JS → JS
  | _, [], J => J
  | i, n :: l, J => goSt c en bef (i + 1) l (stepSt c en bef i n J)
structure StOne (c : Cir) (i : Nat) (n : Int) (J : JS) : Prop where
  nodes : J.nodes.length ≤ 100000
  names : J.names.length ≤ 100000
  muxes : J.muxes.length ≤ 100000
  nm : smN i ∉ J.names
  i100 : i < 100
  n0 : 0 ≤ n
  n1 : n < c.nodes.l.length
  n2 : n < J.nodes.length
  inn : innAt c n.toNat ≠ []
def okSt (c : Cir) (en : Int) (bef : List (Int × Int)) : Nat → List Int → JS → Prop
  | _, [], _ => True
  | i, n :: l, J => StOne c i n J ∧ okSt c en bef (i + 1) l (stepSt c en bef i n J)

def i8E (c : Cir) (st : List Int) (sc : Option Nat) (sn : Option Bool) (i : Nat) : List (Nat × AV) :=
  [(2, .t (.ip (tC c) 0)), (4, .lp 4 0 0), (8, .lp 46 0 0), (11, .lp 11 0 0), (12, .lm 64), (116, .t (.sl (ints st) sc sn)), (117, .t (tI st.length)), (118, .t (tI i))]
def i8R (en : Int) (S : IS) (J : JS) : List (Nat × Reg) :=
  i3G (r11 en S.cl.length J.muxes.length) (.mp (seenM J.names)) (r46 J.nodes.length J.names.length (.ls 111 0 S.outs.length none)) (.sl 35 1 (enc1 tSl S.cl)) (.sl 3 1 (ints S.ins)) (.sl 3 1 (ints S.outs)) (.sl 3 1 (ints J.muxes)) (.sl 81 4 (encN tNd J.nodes)) (.sl 9 1 (enc1 tS J.names)) S.bef

theorem nd_at {c : Cir} {n : Int} (h0 : 0 ≤ n) (h : n < c.nodes.l.length) : (encN tNd c.nodes.l)[n.toNat]?.getD [] = tNd (c.nodes.l.getD n.toNat Nd.d) := gN (by omega)

set_option maxHeartbeats 2000000 in
theorem ins_l7 {Q : AX → St → Prop} (c : Cir) (hcn : c.nodes.l.length ≤ 100000) (st : List Int) (hst : st.length ≤ 100) (sc : Option Nat) (sn : Option Bool) (en : Int) (S : IS) (R : JS)
    (h0 : Q (.exit 6) ⟨i8E c st sc sn st.length ++ [(119, .t (tB false))], i8R en S R⟩) :
    ∀ (k i : Nat) (J : JS), k + i = st.length → okSt c en S.bef i (st.drop i) J → goSt c en S.bef i (st.drop i) J = R →
    run Tryd.prog Γ scans_Insert_l7 Q ⟨i8E c st sc sn i, i8R en S J⟩
  | 0, i, J, h, hk, hR => by
    refine scans_Insert_l7_run fun K hK => ?_
    have h3 : i = st.length := by omega
    subst h3
    rw [List.drop_of_length_le (Nat.le_refl _)] at hR
    simp only [goSt] at hR
    subst hR
    simp [i8E, i8R, i3G, Z8]
    simpa [i8E, i8R, i3G, Z8] using h0
  | k + 1, i, J, h, hk, hR => by
    refine scans_Insert_l7_run fun K hK => ?_
    have h2 : i < st.length := by omega
    rw [List.drop_eq_getElem_cons h2] at hR hk
    have e := gi1 (f := tI) h2
    rw [getD_eq h2] at e
    generalize st[i] = n at *
    obtain ⟨h1, h5⟩ := hk
    simp only [goSt] at hR
    have ih := ins_l7 c hcn st hst sc sn en S R h0 k (i + 1) (stepSt c en S.bef i n J) (by omega) h5 hR
    have e' : ∀ h : i < (ints st).length, (ints st)[i] = [tI n] := fun h => by rw [← e]; simp [h]
    have n0 := h1.n0
    have n1 := h1.n1
    have n2 := h1.n2
    have n3 : n.toNat < c.nodes.l.length := by omega
    have n4 : n.toNat < J.nodes.length := by omega
    have en1 := nd_at (c := c) n0 n1
    have en1' : ∀ h : n.toNat < (encN tNd c.nodes.l).length, (encN tNd c.nodes.l)[n.toNat] = tNd (c.nodes.l.getD n.toNat Nd.d) := fun h => by rw [← en1]; simp [h]
    have hin : innAt c n.toNat = (c.nodes.l.getD n.toNat Nd.d).inn.l := rfl
    have hne := h1.inn
    have hd : (ints (c.nodes.l.getD n.toNat Nd.d).inn.l)[0]?.getD [] = [tI (in0 c n)] := by
      rw [← hin]
      cases hl : innAt c n.toNat with
      | nil => exact absurd hl hne
      | cons a l => simp [in0, hl, enc1]
    rw [hin] at hne
    have hlp : 0 < (c.nodes.l.getD n.toNat Nd.d).inn.l.length := List.length_pos_iff.2 hne
    generalize c.nodes.l.getD n.toNat Nd.d = x at *
    have hd' : ∀ h : 0 < (ints x.inn.l).length, (ints x.inn.l)[0] = [tI (in0 c n)] := fun h => by rw [← hd]; simp [h]
    have hb := befM_find n S.bef
    have hbf := befM_fit S.bef
    have c3 := itoa_spec (Γ := Γ) i h1.i100
    have z1 := h1.nodes
    have z2 := h1.names
    have c4 := add_rr (Γ := Γ) J.names J.nodes J.names S.outs (muxN en (in0 c n) (befOf S.bef n)) (smN i) (by omega) (by omega) h1.nm smN_len
    have hil : 2 + (itoaL i).length ≤ 9223372036854775807 := by unfold itoaL; split <;> simp
    have q1 : ints J.muxes ++ [[tI J.nodes.length]] = ints (J.muxes ++ [(J.nodes.length : Int)]) := enc1_snoc
    have tk1 : (ints J.muxes).take J.muxes.length = ints J.muxes := enc1_take_len
    simp [i8E, i8R, i3G, r11, r46, h2, enc1_len, enc1_wid, e, e', tC, tNodes, encN_len, tNd_wid, n0, n1, en1, en1', tNd, tSl, hd, hd', hlp, hb, hbf, KT.fits]
    refine callK_fresh c3 rfl ?_
    simp [tS, sV, ba_cat, List.idxOf_cons, Z8]
    refine ⟨hil, ?_⟩
    simp [tNd, muxN, tSl, enc1_nil, tS, sV, smN] at c4
    have hm : (⟨11, ⟨[en, in0 c n, befOf S.bef n], some 3, some false⟩, 0, 0⟩ : Nd) = muxN en (in0 c n) (befOf S.bef n) := rfl
    rw [hm] at c4
    have hLl : (J.nodes ++ [muxN en (in0 c n) (befOf S.bef n)]).length = J.nodes.length + 1 := by simp
    have y1 := gN (l := J.nodes ++ [muxN en (in0 c n) (befOf S.bef n)]) (i := n.toNat) (by omega)
    have y2 : ∀ y : Nd, (J.nodes ++ [muxN en (in0 c n) (befOf S.bef n)]).getD n.toNat Nd.d = y → (encN tNd (J.nodes ++ [muxN en (in0 c n) (befOf S.bef n)])).set n.toNat [tK y.k, .sl [[tI J.nodes.length]] (some 1) (some false), tI y.mem, tI y.bit] = encN tNd (setIn (J.nodes ++ [muxN en (in0 c n) (befOf S.bef n)]) n.toNat J.nodes.length) := fun y hy => by
      unfold setIn
      rw [hy]
      exact encN_set (f := tNd) (x := ⟨y.k, ⟨[(J.nodes.length : Int)], some 1, some false⟩, y.mem, y.bit⟩)
    have ihn : (stepSt c en S.bef i n J).nodes = setIn (J.nodes ++ [muxN en (in0 c n) (befOf S.bef n)]) n.toNat J.nodes.length := rfl
    have ihl : (setIn (J.nodes ++ [muxN en (in0 c n) (befOf S.bef n)]) n.toNat J.nodes.length).length = J.nodes.length + 1 := by unfold setIn; simp
    simp [i8E, i8R, i3G, r11, r46, Z8, ihn, ihl, tC, tNodes] at ih
    generalize J.nodes ++ [muxN en (in0 c n) (befOf S.bef n)] = L at *
    generalize setIn L n.toNat J.nodes.length = L2 at *
    have y3 := y2 _ rfl
    generalize L.getD n.toNat Nd.d = y at *
    have y1' : ∀ h : n.toNat < (encN tNd L).length, (encN tNd L)[n.toNat] = tNd y := fun h => by rw [← y1]; simp [h]
    have n5 : n < (J.nodes.length : Int) + 1 := by omega
    have n6 : n.toNat < J.nodes.length + 1 := by omega
    refine ⟨_, _, c4, ?_⟩
    simp [List.idxOf_cons, renSt, wid1s, tk1, q1, enc1_len, encN_len, hLl, n0, n5, n6, y1, y1', y3, tNd_wid, tNd, tSl]
    refine ⟨by have := h1.muxes; omega, ?_⟩
    rw [wrap_i64 (by omega) (by omega), hK]
    simpa [stepSt, nilT, smN, tSl] using ih
end Go.Lg

/- scans.Insert. Conditions: none. -/
set_option linter.unusedSimpArgs false
set_option linter.unusedVariables false
set_option maxRecDepth 100000
namespace Go.Lg
open Go Go.Proofs
variable {Γ : Tables}

def seN : List UInt8 := [115, 101]
def scS0 (c : Cir) : IS := ⟨c.nodes.l.map cpNd ++ [inpN], c.names.l ++ [seN], [], [], [], c.outs.l⟩
def scS (c : Cir) (chs : List (Sl Int)) : IS := goCh 0 chs (scS0 c)
def scJ (c : Cir) (chs : List (Sl Int)) : JS := goSt c c.nodes.l.length (scS c chs).bef 0 (states c) ⟨(scS c chs).nodes, (scS c chs).names, []⟩
def scC (c : Cir) (chs : List (Sl Int)) : Cir :=
  ⟨⟨(scJ c chs).nodes, some (scJ c chs).nodes.length, none⟩, ⟨(scJ c chs).names, some (scJ c chs).names.length, none⟩, ⟨[], some 0, some true⟩, ⟨(scS c chs).outs, some (scS c chs).outs.length, if chs = [] then (if c.outs.nl = some true then some true else none) else none⟩⟩

/-- A circuit and complete chains that Insert takes. -/
structure InsOk (c : Cir) (chs : Sl (Sl Int)) : Prop where
  ok : COk c
  cp : CpOk c
  names : c.names.l.Nodup
  se : seN ∉ c.names.l
  len : chs.l.length ≤ 100
  lens : ∀ s ∈ chs.l, s.l.length ≤ 1000000000
  n16 : c.nodes.l.length ≤ 1000
  n1 : c.names.l.length ≤ 1000
  s100 : (states c).length ≤ 100
  ch : okCh 0 chs.l (scS0 c)
  st : okSt c c.nodes.l.length (scS c chs.l).bef 0 (states c) ⟨(scS c chs.l).nodes, (scS c chs.l).names, []⟩
  both : chs.l = [] → states c = []
  err : checkErr c chs.l = 0

def tScan (c : Cir) (chs : List (Sl Int)) : T :=
  .agg (tC (scC c chs) ++ [.sl (enc1 tSl (scS c chs).cl) (some (scS c chs).cl.length) none, tI c.nodes.l.length, .sl (ints (scS c chs).ins) (some (scS c chs).ins.length) none, .sl (ints (scJ c chs).muxes) (some (scJ c chs).muxes.length) none])

theorem clip_node (es : List (List T)) (cap : Option Nat) (nl : Option Bool) (hw : wid 4 es) : PureCalls Tryd.prog Γ 38 [.sl es cap nl] (.sl es (some es.length) nl) := by
  refine run_pureQ slices_Clip_api_Node_chk rfl ?_
  simp [slices_Clip_api_Node_ic, slices_Clip_api_Node_rv, hw]
theorem clip_string (es : List (List T)) (cap : Option Nat) (nl : Option Bool) (hw : wid 1 es) : PureCalls Tryd.prog Γ 39 [.sl es cap nl] (.sl es (some es.length) nl) := by
  refine run_pureQ slices_Clip_string_chk rfl ?_
  simp [slices_Clip_string_ic, slices_Clip_string_rv, hw]
theorem goCh_len : ∀ {l : List (Sl Int)} {i : Nat} {S : IS}, S.ins.length = S.cl.length → (goCh i l S).ins.length = (goCh i l S).cl.length
  | [], _, _, h => h
  | s :: l, i, S, h => goCh_len (l := l) (by simp [stepCh, h])

set_option maxHeartbeats 4000000 in
theorem Insert_spec (hΓ : GOk Γ) (c : Cir) (chs : Sl (Sl Int)) (h : InsOk c chs) : PureCalls Tryd.prog Γ 17 [.agg (tC c), tChs chs] (.tup [tScan c chs.l, tI 0]) := by
  refine run_pureQ scans_Insert_chk rfl ?_
  have e1 := scheck_spec hΓ c h.ok chs (by have := h.len; omega) h.lens
  rw [h.err] at e1
  have e2 := states_spec (Γ := Γ) c h.ok
  have e3 := copy_spec (Γ := Γ) c h.cp
  have hn := h.n16
  have hn1 := h.n1
  have hm := h.len
  have hs := h.s100
  simp [scans_Insert_ic]
  simp [tC, tNodes, tNames, tMems, tSl, tChs] at e1 e2 e3
  simp [tC, tNodes, tNames, tMems, tSl, tChs]
  refine callK_fresh e1 rfl ?_
  simp
  refine callK_pure e2 rfl ?_
  have hlim : ¬ (16384 : Int) < (c.nodes.l.length : Int) + 1 + (chs.l.length : Int) + ((states c).length : Int) := by omega
  simp (disch := omega) [encN_len, enc1_len, wrap_i64, hlim]
  refine callK_pure e3 rfl ?_
  have g1 := fun Q N M O h0 => ins_l1 (Γ := Γ) (Q := Q) (.sl (enc1 tSl chs.l) chs.cap chs.nl) (.sl (ints (states c)) (some (states c).length) none) c c.names (by omega) h.names N M O h0 c.names.l.length 0 (by omega)
  simp [tC, tNodes, tNames, tMems, tSl, Z8, nilT, show seenM [] = [] from rfl] at g1
  simp [copyC, enc1_len, cpS, show encN tMm [] = [] from rfl, enc1_nil]
  refine g1 _ _ _ _ ?_
  simp [List.idxOf_cons, sV]
  have c4 := add_tt (Γ := Γ) c.names.l (c.nodes.l.map cpNd) c.names.l c.outs.l (some c.outs.l.length) (if c.outs.nl = some true then some true else none) inpN seN (by simp; omega) (by omega) h.se (by simp [seN])
  simp [tNd, inpN, tSl, enc1_nil, tS, sV, seN] at c4
  refine ⟨_, _, c4, ?_⟩
  simp [List.idxOf_cons, renSt]
  have g5 := fun Q h0 h0t => ins_l5t (Γ := Γ) (Q := Q) c (.sl (ints (states c)) (some (states c).length) none) chs h.len c.nodes.l.length (scS c chs.l) (if c.outs.nl = some true then some true else none) (scS0 c) h0 h0t rfl h.ch rfl
  have hst := h.st
  have hJ : scJ c chs.l = goSt c c.nodes.l.length (scS c chs.l).bef 0 (states c) ⟨(scS c chs.l).nodes, (scS c chs.l).names, []⟩ := rfl
  have hC : scC c chs.l = ⟨⟨(scJ c chs.l).nodes, some (scJ c chs.l).nodes.length, none⟩, ⟨(scJ c chs.l).names, some (scJ c chs.l).names.length, none⟩, ⟨[], some 0, some true⟩, ⟨(scS c chs.l).outs, some (scS c chs.l).outs.length, if chs.l = [] then (if c.outs.nl = some true then some true else none) else none⟩⟩ := rfl
  unfold tScan
  rw [hC]
  have hS0 : scS0 c = scS c [] := rfl
  have hSe : chs.l = [] → scS c chs.l = scS0 c := fun e => by rw [e]; rfl
  have hil : (scS c chs.l).ins.length = (scS c chs.l).cl.length := goCh_len rfl
  generalize scS c chs.l = S at *
  generalize scJ c chs.l = J at *
  have g7 := fun Q h0 => ins_l7 (Γ := Γ) (Q := Q) c (by omega) (states c) hs (some (states c).length) none c.nodes.l.length S J h0 (states c).length 0 ⟨S.nodes, S.names, []⟩ (by omega) hst hJ.symm
  simp [i6E, i6T, i6R, i3H, i3G, r11, r46, scS0, Z8, nilT, tC, tNodes, tNames, tMems, tSl, enc1_nil, inpN, seN, show befM [] = [] from rfl] at g5
  simp [i8E, i8R, i3G, r11, r46, Z8, nilT, tC, tNodes, tNames, tMems, tSl, enc1_nil] at g7
  simp [enc1_len]
  refine g5 _ (fun hne => ?_) (fun he => ?_)
  · simp [enc1_len]
    refine g7 _ ?_
    have k1 : (enc1 tSl S.cl).take S.cl.length = enc1 tSl S.cl := enc1_take_len
    have k2 : (ints S.ins).take S.cl.length = ints S.ins := by rw [← hil]; exact enc1_take_len
    have k3 : (ints S.outs).take S.outs.length = ints S.outs := enc1_take_len
    have k4 : (ints J.muxes).take J.muxes.length = ints J.muxes := enc1_take_len
    have k5 : (encN tNd J.nodes).take J.nodes.length = encN tNd J.nodes := encN_take_len
    have k6 : (enc1 tS J.names).take J.names.length = enc1 tS J.names := enc1_take_len
    simp [St.freeze, Reg.closed, frzRef, frz1, frz0, frzReg, del, reify, k1, k2, k3, k4, k5, k6]
    refine callK_pure (clip_node (encN tNd J.nodes) none none tNd_wid) rfl ?_
    simp
    refine callK_pure (clip_string (enc1 tS J.names) none none enc1_wid) rfl ?_
    simp
    refine callK_pure (clip_int (ints S.outs) none none enc1_wid) rfl ?_
    simp
    refine callK_pure (clip_ints (enc1 tSl S.cl) none none enc1_wid) rfl ?_
    simp
    refine callK_pure (clip_int (ints S.ins) none none enc1_wid) rfl ?_
    simp
    refine callK_pure (clip_int (ints J.muxes) none none enc1_wid) rfl ?_
    simp [scans_Insert_rv, tC, tNodes, tNames, tMems, tSl, encN_len, enc1_len, hne, show encN tMm [] = [] from rfl]
  · have hse : states c = [] := h.both he
    have hS := hSe he
    have hJe : J = ⟨S.nodes, S.names, []⟩ := by rw [hJ, hse]; rfl
    have hl0 : chs.l.length = 0 := by rw [he]; rfl
    subst hJe
    subst hS
    have k5 : (encN tNd (scS0 c).nodes).take (c.nodes.l.length + 1) = encN tNd (scS0 c).nodes := List.take_of_length_le (by simp [scS0, encN])
    have k6 : (enc1 tS (scS0 c).names).take (c.names.l.length + 1) = enc1 tS (scS0 c).names := List.take_of_length_le (by simp [scS0, enc1])
    simp [scS0, inpN, seN] at k5 k6
    simp [enc1_len, hse]
    refine scans_Insert_l7_run fun K hK => ?_
    simp [enc1_len, hse, St.freeze, Reg.closed, frzRef, frz1, frz0, frzReg, del, reify, k5, k6]
    refine callK_pure (clip_node _ none none tNd_wid) rfl ?_
    simp
    refine callK_pure (clip_string _ none none enc1_wid) rfl ?_
    simp
    refine callK_pure (clip_int (ints c.outs.l) (some c.outs.l.length) (if c.outs.nl = some true then some true else none) enc1_wid) rfl ?_
    simp
    refine callK_pure (clip_ints [] none none wid_nil) rfl ?_
    simp
    refine callK_pure (clip_int [] none none wid_nil) rfl ?_
    simp
    refine callK_pure (clip_int [] none none wid_nil) rfl ?_
    simp [scans_Insert_rv, tC, tNodes, tNames, tMems, tSl, encN_len, enc1_len, he, enc1_nil, show encN tMm [] = [] from rfl]
    simp [scS0, inpN, seN, enc1_nil]

end Go.Lg

/- What Insert lays, plainly: it may be called. Conditions: none. -/
set_option linter.unusedSimpArgs false
set_option linter.unusedVariables false
set_option maxRecDepth 100000
namespace Go.Lg
open Go Go.Proofs

theorem itoaL_inj : ∀ i, i < 100 → ∀ j, j < 100 → itoaL i = itoaL j → i = j := by decide +kernel
theorem siN_inj {i j : Nat} (hi : i < 100) (hj : j < 100) (h : siN i = siN j) : i = j := itoaL_inj i hi j hj (by simpa [siN] using h)
theorem smN_inj {i j : Nat} (hi : i < 100) (hj : j < 100) (h : smN i = smN j) : i = j := itoaL_inj i hi j hj (by simpa [smN] using h)


def befL : Int → List (Sl Int) → List (Int × Int)
  | _, [] => []
  | n, s :: l => prevs n s.l ++ befL (n + 1) l
def lastL : Int → List (Sl Int) → List Int
  | _, [] => []
  | n, s :: l => lastC n s.l :: lastL (n + 1) l
def insOf (n : Nat) (k : Nat) : List Int := (List.range' n k).map fun q : Nat => (q : Int)
theorem insOf_succ (n k : Nat) : insOf n (k + 1) = (n : Int) :: insOf (n + 1) k := by simp [insOf, List.range'_succ]

theorem goCh_eq : ∀ (l : List (Sl Int)) (i : Nat) (S : IS), goCh i l S = ⟨S.nodes ++ List.replicate l.length inpN, S.names ++ (List.range' i l.length).map siN, S.cl ++ l.map (fun s => ⟨s.l, some s.l.length, none⟩), S.ins ++ insOf S.nodes.length l.length, S.bef ++ befL S.nodes.length l, S.outs ++ lastL S.nodes.length l⟩
  | [], i, S => by simp [goCh, insOf, befL, lastL]
  | s :: l, i, S => by
    simp only [goCh]
    rw [goCh_eq l (i + 1)]
    simp [stepCh, List.replicate_succ, List.range'_succ, insOf_succ, befL, lastL]

theorem okCh_ind : ∀ (l : List (Sl Int)) (i : Nat) (S : IS) (base : List (List UInt8)), S.names = base ++ (List.range' 0 i).map siN → (∀ j, j < 100 → siN j ∉ base) → i + l.length ≤ 100 → S.nodes.length ≤ 2000 + i → S.names.length ≤ 2000 + i → S.cl.length = i → S.ins.length = i → S.outs.length ≤ 2000 + i →
    (S.bef.map (·.1) ++ elems l).Nodup → (∀ s ∈ l, s.l ≠ [] ∧ s.nl ≠ some true ∧ s.l.length ≤ 1000000) → okCh i l S
  | [], _, _, _, _, _, _, _, _, _, _, _, _, _ => trivial
  | s :: l, i, S, base, hn, hb, hi, h1, h2, h3, h4, h5, hnd, hs => by
    simp only [List.length_cons] at hi
    rw [elems_cons, ← List.append_assoc] at hnd
    have hnd2 := hnd
    rw [List.append_assoc] at hnd2
    obtain ⟨d1, d2, d3⟩ := List.nodup_append.1 hnd2
    obtain ⟨e1, e2, e3⟩ := List.nodup_append.1 d2
    obtain ⟨s1, s2, s3⟩ := hs s List.mem_cons_self
    refine ⟨⟨⟨by omega, by omega, by omega, by omega, by omega⟩, ?_, by omega, s1, s2, s3, e1, fun n hnl hm => d3 n hm n (List.mem_append_left _ hnl) rfl⟩, ?_⟩
    · rw [hn, List.mem_append]
      rintro (h | h)
      · exact hb i (by omega) h
      · obtain ⟨j, hj, e⟩ := List.mem_map.1 h
        simp at hj
        have := siN_inj (by omega) (by omega) e
        omega
    · refine okCh_ind l (i + 1) (stepCh i s S) base ?_ hb (by omega) (by simp [stepCh]; omega) (by simp [stepCh]; omega) (by simp [stepCh]; omega) (by simp [stepCh]; omega) (by simp [stepCh]; omega) ?_ fun x hx => hs x (List.mem_cons_of_mem _ hx)
      · simp only [stepCh, hn, List.append_assoc]
        rw [List.range'_concat]
        simp
      · simp only [stepCh, List.map_append, prevs_keys]
        exact hnd

theorem okSt_ind (c : Cir) (en : Int) (bef : List (Int × Int)) : ∀ (l : List Int) (i : Nat) (J : JS) (base : List (List UInt8)), J.names = base ++ (List.range' 0 i).map smN → (∀ j, j < 100 → smN j ∉ base) → i + l.length ≤ 100 → J.nodes.length ≤ 3000 + i → J.names.length ≤ 3000 + i → J.muxes.length = i →
    (∀ n ∈ l, 0 ≤ n ∧ n < c.nodes.l.length ∧ n < J.nodes.length ∧ innAt c n.toNat ≠ []) → okSt c en bef i l J
  | [], _, _, _, _, _, _, _, _, _, _ => trivial
  | n :: l, i, J, base, hn, hb, hi, h1, h2, h3, hs => by
    simp only [List.length_cons] at hi
    obtain ⟨s1, s2, s3, s4⟩ := hs n List.mem_cons_self
    have hlen : (stepSt c en bef i n J).nodes.length = J.nodes.length + 1 := by simp [stepSt, setIn]
    refine ⟨⟨by omega, by omega, by omega, ?_, by omega, s1, s2, s3, s4⟩, ?_⟩
    · rw [hn, List.mem_append]
      rintro (h | h)
      · exact hb i (by omega) h
      · obtain ⟨j, hj, e⟩ := List.mem_map.1 h
        simp at hj
        have := smN_inj (by omega) (by omega) e
        omega
    · refine okSt_ind c en bef l (i + 1) (stepSt c en bef i n J) base ?_ hb (by omega) (by omega) (by simp [stepSt]; omega) (by simp [stepSt]; omega) fun x hx => ?_
      · simp only [stepSt, hn, List.append_assoc]
        rw [List.range'_concat]
        simp
      · obtain ⟨a1, a2, a3, a4⟩ := hs x (List.mem_cons_of_mem _ hx)
        exact ⟨a1, a2, by omega, a4⟩
end Go.Lg

/- A circuit of C has at most 16 nodes. Conditions: none. -/
set_option linter.unusedSimpArgs false
set_option linter.unusedVariables false
set_option maxRecDepth 100000
namespace Go.Lg
open Go Go.Proofs

theorem nodes5_16 {x : CD} (hx : CDOk x) : (nodes5 x).length ≤ 16 := by
  have m4 : 0 ≤ x.i.tmod 4 ∧ x.i.tmod 4 < 4 := tmod_lt (n := 4) hx.i.1 (by omega)
  have m3 : 0 ≤ x.f.tmod 3 ∧ x.f.tmod 3 < 3 := tmod_lt (n := 3) hx.f.1 (by omega)
  have l2 : (nodes2 x).length = (x.i.tmod 4 + 1).toNat + (x.f.tmod 3).toNat := by simp [nodes2, nodes1]
  have l3 : (nodes2 x).length ≤ (nodes3 x).length ∧ (nodes3 x).length ≤ 8 := by unfold nodes3; split <;> simp <;> omega
  have l4 : (nodes4 x).length = (nodes3 x).length + min 8 x.gates.l.length := by unfold nodes4; rw [gatesN_len]; simp
  have l5 : (nodes5 x).length = (nodes4 x).length := dataN_len
  omega
end Go.Lg

/- What Insert lays, plainly: the circuit. Conditions: none. -/
set_option linter.unusedSimpArgs false
set_option linter.unusedVariables false
set_option maxRecDepth 100000
namespace Go.Lg
open Go Go.Proofs

theorem getN_app {a b : List Nd} {q : Nat} (h : q < a.length) : (a ++ b).getD q Nd.d = a.getD q Nd.d := by
  rw [List.getD_eq_getElem?_getD, List.getElem?_append_left h, ← List.getD_eq_getElem?_getD]
theorem getN_app2 {a b : List Nd} {q : Nat} (h : a.length ≤ q) : (a ++ b).getD q Nd.d = b.getD (q - a.length) Nd.d := by
  rw [List.getD_eq_getElem?_getD, List.getElem?_append_right h, ← List.getD_eq_getElem?_getD]
theorem getN_set {a : List Nd} {j q : Nat} {v : Int} (h : j < a.length) : (setIn a j v).getD q Nd.d = if q = j then ⟨(a.getD j Nd.d).k, ⟨[v], some 1, some false⟩, (a.getD j Nd.d).mem, (a.getD j Nd.d).bit⟩ else a.getD q Nd.d := by
  unfold setIn
  rw [List.getD_eq_getElem?_getD, List.getElem?_set]
  by_cases e : j = q
  · subst e; simp [h]
  · rw [if_neg e, if_neg (fun h => e h.symm), ← List.getD_eq_getElem?_getD]

/-- Nodes, names and the list of the Mux nodes. -/
theorem goSt_eq (c : Cir) (en : Int) (bef : List (Int × Int)) : ∀ (l : List Int) (i : Nat) (J : JS), l.Nodup → (∀ n ∈ l, 0 ≤ n ∧ n < J.nodes.length) →
    (goSt c en bef i l J).nodes.length = J.nodes.length + l.length ∧ (goSt c en bef i l J).names = J.names ++ (List.range' i l.length).map smN ∧ (goSt c en bef i l J).muxes = J.muxes ++ insOf J.nodes.length l.length ∧
    (∀ q, q < J.nodes.length → (q : Int) ∉ l → (goSt c en bef i l J).nodes.getD q Nd.d = J.nodes.getD q Nd.d) ∧
    (∀ k, k < l.length → (goSt c en bef i l J).nodes.getD (l.getD k 0).toNat Nd.d = ⟨(J.nodes.getD (l.getD k 0).toNat Nd.d).k, ⟨[((J.nodes.length + k : Nat) : Int)], some 1, some false⟩, (J.nodes.getD (l.getD k 0).toNat Nd.d).mem, (J.nodes.getD (l.getD k 0).toNat Nd.d).bit⟩) ∧
    (∀ k, k < l.length → (goSt c en bef i l J).nodes.getD (J.nodes.length + k) Nd.d = muxN en (in0 c (l.getD k 0)) (befOf bef (l.getD k 0)))
  | [], i, J, _, _ => ⟨rfl, by simp [goSt], by simp [goSt, insOf], fun q _ _ => rfl, fun k h => by simp at h, fun k h => by simp at h⟩
  | n :: l, i, J, hnd, hs => by
    obtain ⟨hn1, hn2⟩ := List.nodup_cons.1 hnd
    obtain ⟨n0, n1⟩ := hs n List.mem_cons_self
    have hlen : (stepSt c en bef i n J).nodes.length = J.nodes.length + 1 := by simp [stepSt, setIn]
    obtain ⟨a1, a2, a3, a4, a5, a6⟩ := goSt_eq c en bef l (i + 1) (stepSt c en bef i n J) hn2 fun x hx => by
      have := hs x (List.mem_cons_of_mem _ hx)
      exact ⟨this.1, by omega⟩
    have hlt : n.toNat < (J.nodes ++ [muxN en (in0 c n) (befOf bef n)]).length := by simp; omega
    have hst : ∀ q, (stepSt c en bef i n J).nodes.getD q Nd.d = if q = n.toNat then ⟨(J.nodes.getD n.toNat Nd.d).k, ⟨[(J.nodes.length : Int)], some 1, some false⟩, (J.nodes.getD n.toNat Nd.d).mem, (J.nodes.getD n.toNat Nd.d).bit⟩ else (J.nodes ++ [muxN en (in0 c n) (befOf bef n)]).getD q Nd.d := fun q => by
      simp only [stepSt]
      rw [getN_set hlt, getN_app (by omega)]
    simp only [goSt]
    refine ⟨by rw [a1, hlen]; simp; omega, ?_, ?_, ?_, ?_, ?_⟩
    · rw [a2]; simp [stepSt, List.range'_succ]
    · rw [a3, hlen]; simp only [stepSt, List.append_assoc, List.length_cons, insOf_succ]; rfl
    · intro q hq hm
      rw [a4 q (by omega) fun h => hm (List.mem_cons_of_mem _ h), hst, if_neg (fun e => hm (by have : (q : Int) = n := by omega
                                                                                               rw [this]; exact List.mem_cons_self)), getN_app hq]
    · intro k hk
      cases k with
      | zero =>
        simp only [List.getD_cons_zero]
        rw [a4 n.toNat (by omega) fun h => hn1 (by have : ((n.toNat : Nat) : Int) = n := by omega
                                                   rw [this] at h; exact h), hst, if_pos rfl]
        rfl
      | succ k =>
        simp only [List.getD_cons_succ]
        have hk' : k < l.length := by simpa using hk
        have hin : l.getD k 0 ∈ l := by rw [getD_eq hk']; exact List.getElem_mem _
        have hb := hs _ (List.mem_cons_of_mem _ hin)
        have hne : ¬ (l.getD k 0).toNat = n.toNat := fun e => hn1 (by have : l.getD k 0 = n := by omega
                                                                      rw [← this]; exact hin)
        rw [a5 k hk', hst, if_neg hne, getN_app (by omega), hlen]
        congr 4
        omega
    · intro k hk
      cases k with
      | zero =>
        simp only [List.getD_cons_zero, Nat.add_zero]
        rw [a4 J.nodes.length (by omega) fun h => by have := (hs _ (List.mem_cons_of_mem _ h)).2; omega, hst, if_neg (by omega), getN_app2 (Nat.le_refl _)]
        simp
      | succ k =>
        simp only [List.getD_cons_succ]
        have hk' : k < l.length := by simpa using hk
        rw [← a6 k hk', hlen]
        congr 1
        omega
end Go.Lg

/- What Insert lays, plainly: a valid circuit. Conditions: none. -/
set_option linter.unusedSimpArgs false
set_option linter.unusedVariables false
set_option maxRecDepth 100000
namespace Go.Lg
open Go Go.Proofs

/-- A circuit without memory, and complete chains. -/
structure ScOk (c : Cir) (ch : List (Sl Int)) : Prop where
  ok : COk c
  cp : CpOk c
  good : GNs false c.nodes.l
  n1 : 1 ≤ c.nodes.l.length
  n2 : c.nodes.l.length ≤ 16
  nms : c.names.l = (List.range' 0 c.nodes.l.length).map nameL
  outs : c.outs.l.length ≤ 4 ∧ ∀ p ∈ c.outs.l, 0 ≤ p ∧ p < c.nodes.l.length
  perm : (elems ch).Perm (states c)
  ne : ∀ s ∈ ch, s.l ≠ [] ∧ s.nl ≠ some true

theorem nd_cases {B : Bool} {ns : List Nd} (h : GNs B ns) {i : Nat} (hi : i < ns.length) : NG B ns i (ns.getD i Nd.d) := by
  have := h i hi
  rwa [show ns.getD i Nd.d = ns[i] by simp [List.getD_eq_getElem?_getD, hi]]

/-! The nodes are lists that tell whether they are nil. -/
def SNs (ns : List Nd) : Prop := ∀ x ∈ ns, SlOk x.inn
theorem slok_none {l : List Int} (h : l ≠ []) (h2 : l.length ≤ 1000000) : SlOk (⟨l, none, none⟩ : Sl Int) := ⟨(fun h => nomatch h), (fun _ => h), h2⟩
theorem slok_some {l : List Int} {c : Option Nat} (h2 : l.length ≤ 1000000) : SlOk (⟨l, c, some false⟩ : Sl Int) := ⟨(fun h => nomatch h), (fun h => nomatch h), h2⟩
theorem slok_nil {c : Option Nat} : SlOk (⟨[], c, some true⟩ : Sl Int) := ⟨(fun _ => rfl), (fun h => nomatch h), by simp⟩
theorem sns_gate {bus : Bool} {g : Gd} {ns : List Nd} : SlOk (gateN bus g ns).inn := by
  unfold gateN gateT
  generalize (if bus = true then g.k.tmod 13 else g.k.tmod 9) = kk
  by_cases h1 : kk < 6
  · simp only [h1, if_true]
    split
    · exact slok_none (by simp) (by simp)
    · exact slok_none (by simp) (by simp)
  · simp only [h1, if_false]
    split
    · exact slok_none (by simp) (by simp)
    split
    · exact slok_none (by simp) (by simp)
    split
    · exact slok_none (by simp) (by simp)
    split
    · by_cases h2 : 1 < (triL ns).length
      · simp only [h2, if_true]
        exact slok_none (by simp) (by simp)
      · simp only [h2, if_false]
        exact slok_none (by simp) (by simp)
    split
    · exact slok_nil
    · exact slok_none (by simp) (by simp)
theorem sns_gates {bus : Bool} : ∀ {l : List Gd} {ns : List Nd}, SNs ns → SNs (gatesN bus l ns)
  | [], ns, h => h
  | g :: l, ns, h => by
    simp only [gatesN]
    refine sns_gates fun x hx => ?_
    rcases List.mem_append.1 hx with hx | hx
    · exact h x hx
    · simp at hx; subst hx; exact sns_gate
theorem sns_data {x : CD} {first : Nat} : ∀ {k i : Nat} {ns : List Nd}, SNs ns → SNs (dataN x first k i ns)
  | 0, _, _, h => h
  | k + 1, i, ns, h => by
    simp only [dataN]
    refine sns_data fun y hy => ?_
    rcases List.mem_or_eq_of_mem_set hy with hy | rfl
    · exact h y hy
    · exact slok_some (by simp)
theorem sns_nodes {x : CD} (hm : x.mem = false) : SNs (nodes5 x) := by
  unfold nodes5 nodes4 nodes3
  rw [hm]
  refine sns_data (sns_gates fun y hy => ?_)
  simp only [Bool.false_eq_true, if_false, nodes2, nodes1, List.mem_append, List.mem_replicate] at hy
  rcases hy with ⟨_, rfl⟩ | ⟨_, rfl⟩
  · exact slok_nil
  · exact slok_some (by simp)

theorem case_scok {y : CaseD} (hy : CaseOk y) : ScOk (caseC y) (caseCh y) := by
  have hx := noMemX_ok hy.x
  have hN : (caseC y).nodes.l = nodes5 (noMemX y.x) := rfl
  have hl4 := nodes4_len hx
  have h54 : (nodes5 (noMemX y.x)).length = (nodes4 (noMemX y.x)).length := dataN_len
  have h16 : (nodes5 (noMemX y.x)).length ≤ 16 := nodes5_16 hx
  have hpe := permS_perm (min (states (caseC y)).length y.keys.l.length) 0 y.keys.l (states (caseC y)) (by omega)
  have hmods : ∀ b, Byt b → 0 ≤ b.tmod (nodes4 (noMemX y.x)).length ∧ b.tmod (nodes4 (noMemX y.x)).length < ((nodes5 (noMemX y.x)).length : Int) := fun b hb => by
    have := tmod_lt (n := (nodes4 (noMemX y.x)).length) hb.1 (by omega); omega
  have hout : ∀ p ∈ (caseC y).outs.l, 0 ≤ p ∧ p < ((caseC y).nodes.l.length : Int) := fun p hp => by
    rw [hN]
    simp only [caseC, ofC, List.mem_append, List.mem_map, List.mem_singleton] at hp
    rcases hp with ⟨b, hb, rfl⟩ | rfl
    · exact hmods b (hx.outs b (List.mem_of_mem_take hb))
    · omega
  have hol : (caseC y).outs.l.length ≤ 4 := by simp [caseC, ofC]; omega
  have hne : (nodes5 (noMemX y.x)) ≠ [] := List.length_pos_iff.1 (by omega)
  have hnl : (caseC y).names.l.length = (nodes4 (noMemX y.x)).length := by simp [caseC, ofC]
  refine ⟨ofC_ok hx, ⟨hne, by rw [hN]; omega, (fun h => nomatch h), List.length_pos_iff.1 (by omega), by omega, (fun h => nomatch h), rfl, ?_, slok_none (by simp) (by simp; omega)⟩, nodes5_good hx, by rw [hN]; omega, by rw [hN]; omega, ?_, ⟨hol, hout⟩, ?_, cutS_ne _ _⟩
  · exact sns_nodes (x := noMemX y.x) rfl
  · show (List.range' 0 (nodes4 (noMemX y.x)).length).map nameL = (List.range' 0 (nodes5 (noMemX y.x)).length).map nameL
    rw [h54]
  · unfold caseCh; rw [cutS_elems]; exact hpe
end Go.Lg

/- What Insert lays, plainly: the parts of the circuit, and that it is valid. Conditions: none. -/
set_option linter.unusedSimpArgs false
set_option linter.unusedVariables false
set_option maxRecDepth 100000
namespace Go.Lg
open Go Go.Proofs

def m0 (c : Cir) (ch : List (Sl Int)) : Nat := c.nodes.l.length + 1 + ch.length

theorem getN_map {l : List Nd} {q : Nat} (h : q < l.length) : (l.map cpNd).getD q Nd.d = cpNd (l.getD q Nd.d) := by
  simp [List.getD_eq_getElem?_getD, h]

/-- What is known of the circuit with scan chains. -/
structure ScF (c : Cir) (ch : List (Sl Int)) : Prop where
  chl : ch.length ≤ 16
  stl : (states c).length ≤ 16
  sn : (scS c ch).nodes = c.nodes.l.map cpNd ++ [inpN] ++ List.replicate ch.length inpN
  snl : (scS c ch).nodes.length = m0 c ch
  snm : (scS c ch).names = c.names.l ++ [seN] ++ (List.range' 0 ch.length).map siN
  cl : (scS c ch).cl = ch.map (fun s => ⟨s.l, some s.l.length, none⟩)
  ins : (scS c ch).ins = insOf (c.nodes.l.length + 1) ch.length
  bef : (scS c ch).bef = befL (c.nodes.l.length + 1 : Nat) ch
  outs : (scS c ch).outs = c.outs.l ++ lastL (c.nodes.l.length + 1 : Nat) ch
  len : (scJ c ch).nodes.length = m0 c ch + (states c).length
  nm : (scJ c ch).names = c.names.l ++ [seN] ++ (List.range' 0 ch.length).map siN ++ (List.range' 0 (states c).length).map smN
  mux : (scJ c ch).muxes = insOf (m0 c ch) (states c).length
  old : ∀ q, q < c.nodes.l.length → kindAt c q ≠ 14 → (scJ c ch).nodes.getD q Nd.d = cpNd (c.nodes.l.getD q Nd.d)
  dff : ∀ q, q < c.nodes.l.length → kindAt c q = 14 → (scJ c ch).nodes.getD q Nd.d = ⟨14, ⟨[((m0 c ch + rankK 14 c q : Nat) : Int)], some 1, some false⟩, (c.nodes.l.getD q Nd.d).mem, (c.nodes.l.getD q Nd.d).bit⟩
  inp : ∀ q, c.nodes.l.length ≤ q → q < m0 c ch → (scJ c ch).nodes.getD q Nd.d = inpN
  mx : ∀ k, k < (states c).length → (scJ c ch).nodes.getD (m0 c ch + k) Nd.d = muxN c.nodes.l.length (in0 c ((states c).getD k 0)) (befOf (befL (c.nodes.l.length + 1 : Nat) ch) ((states c).getD k 0))

theorem scF {c : Cir} {ch : List (Sl Int)} (h : ScOk c ch) : ScF c ch := by
  have hsl : (states c).length ≤ c.nodes.l.length := ofL_len _ _ _
  have hn2 := h.n2
  have hle := elems_le ch fun s hs => (h.ne s hs).1
  have hpl := h.perm.length_eq
  have hS : scS c ch = _ := goCh_eq ch 0 (scS0 c)
  have s1 : (scS c ch).nodes = c.nodes.l.map cpNd ++ [inpN] ++ List.replicate ch.length inpN := by rw [hS]; rfl
  have s2 : (scS c ch).nodes.length = m0 c ch := by rw [s1]; simp [m0]; omega
  have s3 : (scS c ch).names = c.names.l ++ [seN] ++ (List.range' 0 ch.length).map siN := by rw [hS]; rfl
  have l0 : (scS0 c).nodes.length = c.nodes.l.length + 1 := by simp [scS0]
  have s4 : (scS c ch).bef = befL (c.nodes.l.length + 1 : Nat) ch := by
    rw [hS]; show ([] : List (Int × Int)) ++ befL ((scS0 c).nodes.length) ch = _
    rw [l0]; rfl
  have hnd : (states c).Nodup := (ofL_nodup [14] c.nodes.l 0).2
  have hin : ∀ n ∈ states c, 0 ≤ n ∧ n < (scS c ch).nodes.length := fun n hn => by
    have := ofL_in (k := 14) (c := c) n hn
    rw [s2]; unfold m0; omega
  obtain ⟨a1, a2, a3, a4, a5, a6⟩ := goSt_eq c c.nodes.l.length (scS c ch).bef (states c) 0 ⟨(scS c ch).nodes, (scS c ch).names, []⟩ hnd hin
  have hJ : scJ c ch = goSt c c.nodes.l.length (scS c ch).bef 0 (states c) ⟨(scS c ch).nodes, (scS c ch).names, []⟩ := rfl
  rw [← hJ] at a1 a2 a3 a4 a5 a6
  simp only [s2] at a1 a3 a4 a5 a6
  have hg : ∀ q, q < c.nodes.l.length → (scS c ch).nodes.getD q Nd.d = cpNd (c.nodes.l.getD q Nd.d) := fun q hq => by
    rw [s1, List.append_assoc, getN_app (by simpa using hq), getN_map hq]
  refine ⟨by omega, by omega, s1, s2, s3, by rw [hS]; rfl, ?_, s4, ?_, a1, by rw [a2, s3], by rw [a3]; rfl, ?_, ?_, ?_, ?_⟩
  · rw [hS]; show ([] : List Int) ++ insOf (scS0 c).nodes.length ch.length = _
    rw [l0]; rfl
  · rw [hS]; show c.outs.l ++ lastL ((scS0 c).nodes.length) ch = _
    rw [l0]
  · intro q hq hk
    rw [a4 q (by unfold m0; omega) fun hm => hk ((mem_ofL hq).1 hm), hg q hq]
  · intro q hq hk
    obtain ⟨r1, r2⟩ := rank_at hq hk
    have := a5 (rankK 14 c q) r1
    have e : (states c).getD (rankK 14 c q) 0 = (q : Int) := r2
    rw [e] at this
    simp only [Int.toNat_natCast] at this
    rw [this, hg q hq]
    have hk' : (c.nodes.l.getD q Nd.d).k = 14 := hk
    simp only [cpNd, hk']
  · intro q h1 h2
    rw [a4 q h2 fun hm => by have := (ofL_in (k := 14) (c := c) _ hm).2.1; omega]
    rw [s1, List.append_assoc, getN_app2 (by simpa using h1)]
    simp only [List.length_map]
    have h3 : q - c.nodes.l.length < ([inpN] ++ List.replicate ch.length inpN).length := by simp; unfold m0 at h2; omega
    have : ∀ x ∈ [inpN] ++ List.replicate ch.length inpN, x = inpN := fun x hx => by
      rcases List.mem_append.1 hx with hx | hx
      · simpa using hx
      · exact (List.mem_replicate.1 hx).2
    rw [List.getD_eq_getElem?_getD, List.getElem?_eq_getElem h3]
    exact this _ (List.getElem_mem h3)
  · intro k hk
    rw [← s4]
    exact a6 k hk
end Go.Lg

/- What Insert lays, plainly: the circuit is valid, Insert may be called. Conditions: none. -/
set_option linter.unusedSimpArgs false
set_option linter.unusedVariables false
set_option maxRecDepth 100000
namespace Go.Lg
open Go Go.Proofs

variable {c : Cir} {ch : List (Sl Int)}

theorem st_inn (h : ScOk c ch) {n : Int} (hn : n ∈ states c) : ∃ v, innAt c n.toNat = [v] ∧ 0 ≤ v ∧ v < c.nodes.l.length ∧ in0 c n = v := by
  obtain ⟨n0, n1, nk⟩ := ofL_in (k := 14) (c := c) n hn
  have hg := nd_cases h.good (i := n.toNat) (by omega)
  have hk : (c.nodes.l.getD n.toNat Nd.d).k = 14 := nk
  have hf := hg.f
  rw [hk, show fan 14 = (1, 1) by rfl] at hf
  have hi : innAt c n.toNat = (c.nodes.l.getD n.toNat Nd.d).inn.l := rfl
  rw [← hi] at hf
  have hr := hg.inn
  rw [← hi] at hr
  match hl : innAt c n.toNat with
  | [] => rw [hl] at hf; simp at hf
  | [v] =>
    rw [hl] at hr
    have := hr v (by simp)
    exact ⟨v, rfl, this.1, this.2, by simp [in0, hl]⟩
  | _ :: _ :: _ => rw [hl] at hf; simp at hf; omega

theorem nameL_inj : ∀ i, i < 100 → ∀ j, j < 100 → nameL i = nameL j → i = j := by decide +kernel

theorem map_nodup {α : Type} {f : Nat → α} {n : Nat} (hf : ∀ i, i < n → ∀ j, j < n → f i = f j → i = j) : ((List.range' 0 n).map f).Nodup := by
  rw [List.nodup_iff_pairwise_ne, List.pairwise_map]
  refine (List.Pairwise.imp_of_mem ?_ (List.nodup_iff_pairwise_ne.1 (List.nodup_range' (s := 0) (n := n) (step := 1))))
  intro a b ha hb hab e
  simp at ha hb
  exact hab (hf a (by omega) b (by omega) e)

end Go.Lg

/- Insert may be called for complete chains; what it lays is valid. Conditions: none. -/
set_option linter.unusedSimpArgs false
set_option linter.unusedVariables false
set_option maxRecDepth 100000
namespace Go.Lg
open Go Go.Proofs

variable {c : Cir} {ch : List (Sl Int)}

theorem lastC_mem : ∀ (l : List Int) (a : Int), l ≠ [] → lastC a l = l.getLastD 0 ∧ lastC a l ∈ l
  | [], _, h => absurd rfl h
  | [n], a, _ => ⟨rfl, by simp [lastC]⟩
  | n :: m :: l, a, _ => by
    have := lastC_mem (m :: l) n (by simp)
    simp only [lastC] at this ⊢
    refine ⟨?_, List.mem_cons_of_mem _ this.2⟩
    rw [this.1]; simp [List.getLastD]
theorem lastL_eq : ∀ (l : List (Sl Int)) (b : Int), (∀ s ∈ l, s.l ≠ []) → lastL b l = l.map fun s => s.l.getLastD 0
  | [], _, _ => rfl
  | s :: l, b, h => by
    simp only [lastL, List.map_cons]
    rw [(lastC_mem s.l b (h s List.mem_cons_self)).1, lastL_eq l (b + 1) fun x hx => h x (List.mem_cons_of_mem _ hx)]

theorem sc_outs (h : ScOk c ch) : (scC c ch).outs.l = c.outs.l ++ ch.map fun s => s.l.getLastD 0 := by
  show (scS c ch).outs = _
  rw [(scF h).outs, lastL_eq _ _ fun s hs => (h.ne s hs).1]

theorem scOk_ins (h : ScOk c ch) (hp : plainErr c = 0) (cap : Option Nat) (nl : Option Bool) : InsOk c ⟨ch, cap, nl⟩ := by
  have hf := scF h
  have hn2 := h.n2
  have hc := hf.chl
  have hs := hf.stl
  have ho := h.outs
  have hle := elems_le ch fun s hs => (h.ne s hs).1
  have hpl := h.perm.length_eq
  have hnd : (elems ch).Nodup := h.perm.nodup_iff.2 (ofL_nodup [14] c.nodes.l 0).2
  have n1 : ((List.range' 0 c.nodes.l.length).map nameL).Nodup := map_nodup fun i hi j hj e => nameL_inj i (by omega) j (by omega) e
  have hnn : c.names.l.length = c.nodes.l.length := by rw [h.nms]; simp
  refine ⟨h.ok, h.cp, by rw [h.nms]; exact n1, ?_, by show ch.length ≤ _; omega, fun s hs => by have := hle.2 s hs; omega, by omega, by omega, by omega, ?_, ?_, ?_, ?_⟩
  · rw [h.nms]
    intro hm
    obtain ⟨i, _, e⟩ := List.mem_map.1 hm
    simp [nameL, seN] at e
  · refine okCh_ind ch 0 (scS0 c) (c.names.l ++ [seN]) (by simp [scS0]) ?_ (by omega) (by simp [scS0]; omega) (by simp [scS0]; omega) rfl rfl (by simp [scS0]; omega) (by simpa [scS0] using hnd) fun s hs => ⟨(h.ne s hs).1, (h.ne s hs).2, by have := hle.2 s hs; omega⟩
    intro j hj hm
    rw [h.nms] at hm
    rcases List.mem_append.1 hm with hm | hm
    · obtain ⟨i, _, e⟩ := List.mem_map.1 hm
      simp [nameL, siN] at e
    · simp [siN, seN] at hm
  · refine okSt_ind c c.nodes.l.length (scS c ch).bef (states c) 0 ⟨(scS c ch).nodes, (scS c ch).names, []⟩ (scS c ch).names (by simp) ?_ (by omega) ?_ ?_ rfl ?_
    · intro j hj hm
      rw [hf.snm, h.nms] at hm
      rcases List.mem_append.1 hm with hm | hm
      · rcases List.mem_append.1 hm with hm | hm
        · obtain ⟨i, _, e⟩ := List.mem_map.1 hm
          simp [nameL, smN] at e
        · simp [smN, seN] at hm
      · obtain ⟨i, _, e⟩ := List.mem_map.1 hm
        simp [siN, smN] at e
    · show (scS c ch).nodes.length ≤ _
      rw [hf.snl]; unfold m0; omega
    · show (scS c ch).names.length ≤ _
      rw [hf.snm]; simp; omega
    · intro n hn
      have := ofL_in (k := 14) (c := c) n hn
      obtain ⟨v, hv, _⟩ := st_inn h hn
      refine ⟨this.1, this.2.1, ?_, by rw [hv]; simp⟩
      show n < (scS c ch).nodes.length
      rw [hf.snl]; unfold m0; omega
  · intro he
    have he : ch = [] := he
    have : (elems ch).length = 0 := by rw [he]; rfl
    exact List.eq_nil_of_length_eq_zero (by omega)
  · exact check_perm hp (by show ch.length ≤ 64; omega) (fun s hs => (h.ne s hs).1) h.perm
end Go.Lg

/- The next states of the circuit with scan chains, and its outputs. Conditions: none. -/
set_option linter.unusedSimpArgs false
set_option linter.unusedVariables false
set_option maxRecDepth 100000
namespace Go.Lg
open Go Go.Proofs
variable {c : Cir} {ch : List (Sl Int)}

def slD : Sl Int := ⟨[], none, none⟩
end Go.Lg

/- scans.Pattern. Conditions: none. -/
set_option linter.unusedSimpArgs false
set_option linter.unusedVariables false
set_option maxRecDepth 100000
namespace Go.Lg
open Go Go.Proofs
variable {Γ : Tables}

theorem clone_val (s : Sl Int) (hs : SlOk s) : PureCalls Tryd.prog Γ 28 [tV s] (if s.nl = some true then .sl [] (some 0) (some true) else .sl (vals s.l) none none) := by
  refine run_pureQ slices_Clone_api_Value_chk rfl ?_
  obtain ⟨l, cap, nl⟩ := s
  obtain ⟨h1, h2, h3⟩ := hs
  simp only at h1 h2 h3
  rcases nl with _ | _ | _
  · have h4 : vals l ≠ [] := by simpa [enc1] using h2 rfl
    simp (disch := omega) [slices_Clone_api_Value_ic, slices_Clone_api_Value_rv, enc1_wid, enc1_len, h4, Later, tV]
    omega
  · simp (disch := omega) [slices_Clone_api_Value_ic, slices_Clone_api_Value_rv, enc1_wid, enc1_len, Later, tV]
    omega
  · have := h1 rfl
    subst this
    simp [slices_Clone_api_Value_ic, slices_Clone_api_Value_rv, tV]

end Go.Lg

/- Patterns that tell truly whether they are nil; read, index. Conditions: none. -/
set_option linter.unusedSimpArgs false
set_option linter.unusedVariables false
set_option maxRecDepth 100000
namespace Go.Lg
open Go Go.Proofs
variable {Γ : Tables}

theorem gE' {α : Type} {f : α → T} {l : List α} {i : Nat} (d : α) (h0 : i < l.length) : ∀ h : i < (enc1 f l).length, (enc1 f l)[i] = [f (l.getD i d)] := fun h => by
  have := enc1_get (f := f) d h0
  rw [List.getElem?_eq_getElem h] at this
  simpa [List.getD_eq_getElem?_getD] using this
theorem gE {α : Type} {f : α → T} {l : List α} {i : Nat} (d : α) (h0 : i < l.length) : (enc1 f l)[i]?.getD [] = [f (l.getD i d)] := by
  rw [List.getElem?_eq_getElem (by rw [enc1_len]; exact h0)]
  exact gE' d h0 _

end Go.Lg

/- Maps from numbers; shifts: Depth, values, loads. Conditions: none. -/
set_option linter.unusedSimpArgs false
set_option linter.unusedVariables false
set_option maxRecDepth 100000
namespace Go.Lg
open Go Go.Proofs
variable {Γ : Tables}

/-- A map from numbers. -/
def mpE {α : Type} (f : α → T) (l : List (Int × α)) : List (Value × T) := l.map fun p => (.int .i64 p.1, f p.2)
def mpOf {α : Type} (d : α) (n : Int) : List (Int × α) → α
  | [] => d
  | p :: l => if n = p.1 then p.2 else mpOf d n l
theorem mpE_fit {α : Type} {f : α → T} (l : List (Int × α)) : keysFit (.int .i64) (mpE f l) := by
  intro e he; obtain ⟨s, _, rfl⟩ := List.mem_map.1 he; rfl
theorem mpE_find {α : Type} {f : α → T} (d : α) (n : Int) : ∀ l : List (Int × α), (findM (.int .i64 n) (mpE f l)).getD (f d) = f (mpOf d n l)
  | [] => rfl
  | p :: l => by
    have ih := mpE_find (f := f) d n l
    simp only [mpE, List.map_cons, findM, keyEq, mpOf] at ih ⊢
    by_cases h : n = p.1
    · simp [h]
    · simp [h, ih]
theorem mpE_set {α : Type} {f : α → T} (n : Int) (a : α) : ∀ l : List (Int × α), n ∉ l.map (·.1) → setM (.int .i64 n) (f a) (mpE f l) = mpE f (l ++ [(n, a)])
  | [], _ => rfl
  | p :: l, h => by
    simp only [List.map_cons, List.mem_cons, not_or] at h
    have ih := mpE_set (f := f) n a l h.2
    simp only [mpE, List.map_cons, setM, keyEq, List.cons_append] at ih ⊢
    simp [h.1, ih]

def depL (l : List (Sl Int)) : Nat := l.foldl (fun n s => max n s.l.length) 0
theorem dep_loop {Q : AX → St → Prop} (chs : Sl (Sl Int)) (hl : chs.l.length ≤ 1000000) (hs : ∀ s ∈ chs.l, s.l.length ≤ 1000000) (R : Nat)
    (h0 : Q (.exit 0) ⟨[(3, .t (tI R)), (6, .t (.sl (enc1 tSl chs.l) chs.cap chs.nl)), (7, .t (tI chs.l.length)), (8, .t (tI chs.l.length)), (9, .t (tB false))], []⟩) :
    ∀ (k i n : Nat), k + i = chs.l.length → (chs.l.drop i).foldl (fun n s => max n s.l.length) n = R →
    run Tryd.prog Γ shifts_Depth_l1 Q ⟨[(3, .t (tI n)), (6, .t (.sl (enc1 tSl chs.l) chs.cap chs.nl)), (7, .t (tI chs.l.length)), (8, .t (tI i))], []⟩
  | 0, i, n, h, hR => by
    refine shifts_Depth_l1_run fun K hK => ?_
    rw [List.drop_of_length_le (by omega)] at hR
    have h2 : i = chs.l.length := by omega
    subst h2
    have hR : n = R := hR
    subst hR
    simp
    simpa using h0
  | k + 1, i, n, h, hR => by
    refine shifts_Depth_l1_run fun K hK => ?_
    have h2 : i < chs.l.length := by omega
    rw [List.drop_eq_getElem_cons h2, List.foldl_cons] at hR
    have e := gE (f := tSl) ⟨[], none, none⟩ h2
    have e' := gE' (f := tSl) ⟨[], none, none⟩ h2
    rw [show chs.l.getD i ⟨[], none, none⟩ = chs.l[i] by simp [List.getD_eq_getElem?_getD, h2]] at e e'
    have ih := dep_loop chs hl hs R h0 k (i + 1) _ (by omega) hR
    generalize chs.l[i] = s at *
    simp only [tSl] at e e'
    have w1 : IntKind.i64.wrap ((i : Int) + 1) = (i : Int) + 1 := by rw [wrap_i64] <;> omega
    have hm3 : (if n < s.l.length then (s.l.length : Int) else n) = ((max n s.l.length : Nat) : Int) := by split <;> omega
    have hm : (if (s.l.length : Int) > n then (s.l.length : Int) else n) = ((max n s.l.length : Nat) : Int) := by split <;> omega
    have hm2 : (if (n : Int) < s.l.length then (s.l.length : Int) else n) = ((max n s.l.length : Nat) : Int) := by split <;> omega
    simp [h2, enc1_len, enc1_wid, e, e', w1, hm, hm2, hm3]
    rw [hK]
    simpa using ih
theorem Depth_spec (chs : Sl (Sl Int)) (hl : chs.l.length ≤ 1000000) (hs : ∀ s ∈ chs.l, s.l.length ≤ 1000000) : FreshCalls Tryd.prog Γ 9 [tChs chs] (tI (depL chs.l)) := by
  refine run_freshQ shifts_Depth_chk rfl ?_
  have g := fun Q h0 => dep_loop (Γ := Γ) (Q := Q) chs hl hs (depL chs.l) h0 chs.l.length 0 0 (by omega) (by simp [depL])
  simp [shifts_Depth_ic, tChs, enc1_len]
  refine g _ ?_
  simp [shifts_Depth_rv]

def valsErr (l : List Int) (n : Nat) : Int := if l.length ≠ n then 8 else if l.any aboveV = true then 1 else 0
theorem sval1_spec (v : Int) : FreshCalls Tryd.prog Γ 42 [tK v] (tB (aboveV v)) := by
  refine run_freshQ shifts_values_1_chk rfl ?_
  simp [shifts_values_1_ic, shifts_values_1_rv, aboveV]
theorem values_spec (s : Sl Int) (hs : s.l.length ≤ 1000000000) (n : Nat) : FreshCalls Tryd.prog Γ 19 [tV s, tI n] (tI (valsErr s.l n)) := by
  refine run_freshQ shifts_values_chk rfl ?_
  have e := containsfunc_val (Γ := Γ) s.l s.cap s.nl 42 [] aboveV (fun x _ => sval1_spec x) hs
  unfold valsErr
  by_cases h : s.l.length = n
  · subst h
    simp [shifts_values_ic, tV, enc1_len]
    refine callK_fresh e rfl ?_
    cases h3 : s.l.any aboveV
    · simp [h3, shifts_values_rv]
    · simp [h3, shifts_values_rv]
  · have h' : ¬ (s.l.length : Int) = n := by omega
    simp [shifts_values_ic, tV, enc1_len, h, h', shifts_values_rv]
end Go.Lg

/- shifts.loads. Conditions: none. -/
set_option linter.unusedSimpArgs false
set_option linter.unusedVariables false
set_option maxRecDepth 100000
namespace Go.Lg
open Go Go.Proofs
variable {Γ : Tables}

/-- The values of the Dff nodes, as they are read. -/
def ofZ (st pst : List Int) : List (Int × Int) := st.zip (pst.map readV)
theorem ofZ_len {st pst : List Int} (h : pst.length = st.length) : (ofZ st pst).length = st.length := by simp [ofZ, h]
theorem ofZ_get {st pst : List Int} (h : pst.length = st.length) {i : Nat} (hi : i < st.length) : (ofZ st pst)[i]'(by rw [ofZ_len h]; exact hi) = (st.getD i 0, readV (pst.getD i 0)) := by
  simp [ofZ, List.getD_eq_getElem?_getD, hi, h]
theorem ofZ_take {st pst : List Int} (h : pst.length = st.length) {i : Nat} (hi : i < st.length) : (ofZ st pst).take (i + 1) = (ofZ st pst).take i ++ [(st.getD i 0, readV (pst.getD i 0))] := by
  rw [← ofZ_get h hi, List.take_append_getElem]
theorem ofZ_not {st pst : List Int} (hd : st.Nodup) {i : Nat} (hi : i < st.length) : st.getD i 0 ∉ ((ofZ st pst).take i).map (·.1) := by
  intro hm
  obtain ⟨p, hp, e⟩ := List.mem_map.1 hm
  obtain ⟨j, hj, rfl⟩ := List.getElem_of_mem hp
  simp only [List.length_take, List.getElem_take, ofZ, List.getElem_zip] at hj e
  rw [getD_eq hi] at e
  have := (List.getElem_inj hd).1 e
  omega
theorem ld_l1 {Q : AX → St → Prop} (chT : T) (st : List Int) (sc : Option Nat) (sn : Option Bool) (hd : st.Nodup) (hst : st.length ≤ 1000000) (ps : Sl Int) (hps : ps.l.length = st.length)
    (h0 : Q (.exit 0) ⟨[(1, .t chT), (2, .t (tV ps)), (7, .lm 17), (19, .t (.sl (ints st) sc sn)), (20, .t (tI st.length)), (21, .t (tI st.length)), (22, .t (tB false))], [(17, .mp (mpE tK (ofZ st ps.l)))]⟩) :
    ∀ (k i : Nat), k + i = st.length →
    run Tryd.prog Γ shifts_loads_l1 Q ⟨[(1, .t chT), (2, .t (tV ps)), (7, .lm 17), (19, .t (.sl (ints st) sc sn)), (20, .t (tI st.length)), (21, .t (tI i))], [(17, .mp (mpE tK ((ofZ st ps.l).take i)))]⟩
  | 0, i, h => by
    refine shifts_loads_l1_run fun K hK => ?_
    have h2 : i = st.length := by omega
    subst h2
    rw [List.take_of_length_le (by rw [ofZ_len hps]; exact Nat.le_refl _)]
    simp
    simpa using h0
  | k + 1, i, h => by
    refine shifts_loads_l1_run fun K hK => ?_
    have h2 : i < st.length := by omega
    have h3 : i < ps.l.length := by omega
    have ih := ld_l1 chT st sc sn hd hst ps hps h0 k (i + 1) (by omega)
    rw [ofZ_take hps h2] at ih
    have hn := ofZ_not (pst := ps.l) hd h2
    have e1 := gE (f := tI) 0 h2
    have e1' := gE' (f := tI) 0 h2
    have e2 := gE (f := tK) 0 h3
    have e2' := gE' (f := tK) 0 h3
    have w1 : IntKind.i64.wrap ((i : Int) + 1) = (i : Int) + 1 := by rw [wrap_i64] <;> omega
    generalize (ofZ st ps.l).take i = Z at *
    generalize st.getD i 0 = x at *
    generalize ps.l.getD i 0 = y at *
    have em := mpE_set (f := tK) x (readV y) Z hn
    have ef := mpE_fit (f := tK) Z
    generalize mpE tK Z = M at *
    simp [tV] at ih
    simp [tV, enc1_len, enc1_wid, h2, h3, e1, e1', e2, e2', w1]
    refine callK_fresh (read_spec y) rfl ?_
    simp [em, ef, KT.fits, w1]
    rw [hK]
    simpa using ih

/-- What a chain's input gets in a load cycle. -/
def loadV (Z : List (Int × Int)) (p : Int) (s : Sl Int) : Int := if p < s.l.length then mpOf 0 (s.l.getD p.toNat 0) Z else 0
def rwAt (f : Sl Int → Int) (l : List (Sl Int)) (k : Nat) : List Int := (l.take k).map f ++ List.replicate (l.length - k) 0
theorem rwAt_len {f : Sl Int → Int} {l : List (Sl Int)} {k : Nat} (hk : k ≤ l.length) : (rwAt f l k).length = l.length := by simp [rwAt]; omega
theorem rwAt_set {f : Sl Int → Int} {l : List (Sl Int)} {k : Nat} (hk : k < l.length) : (rwAt f l k).set k (f l[k]) = rwAt f l (k + 1) := by
  unfold rwAt
  rw [List.set_append_right _ _ (by simp; omega)]
  rw [show k - ((l.take k).map f).length = 0 by simp; omega, show l.length - k = (l.length - (k + 1)) + 1 by omega, List.replicate_succ, List.set_cons_zero, ← List.take_append_getElem hk, List.map_append]
  simp
theorem rwAt_zero {f : Sl Int → Int} {l : List (Sl Int)} {k : Nat} (hk : k < l.length) (h : f l[k] = 0) : rwAt f l (k + 1) = rwAt f l k := by
  unfold rwAt
  rw [show l.length - k = (l.length - (k + 1)) + 1 by omega, List.replicate_succ, ← List.take_append_getElem hk, List.map_append]
  simp [h]
theorem rwAt_all {f : Sl Int → Int} {l : List (Sl Int)} : rwAt f l l.length = l.map f := by simp [rwAt]
theorem rwAt_none {f : Sl Int → Int} {l : List (Sl Int)} : rwAt f l 0 = List.replicate l.length 0 := by simp [rwAt]

theorem ld_l3 {Q : AX → St → Prop} (ch : List (Sl Int)) (cc : Option Nat) (cn : Option Bool) (hch : ch.length ≤ 1000000) (hs : ∀ s ∈ ch, s.l.length ≤ 1000000) (Z : List (Int × Int)) (d t : Nat) (htd : t < d) (hd : d ≤ 1000000) (es : List (List T)) (p : Int) (hp : p = d - 1 - t)
    (h0 : Q (.exit 4) ⟨[(1, .t (.sl (enc1 tSl ch) cc cn)), (7, .lm 17), (10, .t (tI d)), (11, .ls 71 0 t none), (12, .t (tI t)), (13, .ls 42 0 ch.length none), (36, .t (tI d)), (37, .t (tI t)), (43, .t (.sl (enc1 tSl ch) cc cn)), (44, .t (tI ch.length)), (45, .t (tI ch.length)), (46, .t (tB false))],
      [(17, .mp (mpE tK Z)), (42, .sl 51 1 (vals (ch.map (loadV Z p)))), (71, .sl 41 1 es)]⟩) :
    ∀ (n k : Nat), n + k = ch.length →
    run Tryd.prog Γ shifts_loads_l3 Q ⟨[(1, .t (.sl (enc1 tSl ch) cc cn)), (7, .lm 17), (10, .t (tI d)), (11, .ls 71 0 t none), (12, .t (tI t)), (13, .ls 42 0 ch.length none), (36, .t (tI d)), (37, .t (tI t)), (43, .t (.sl (enc1 tSl ch) cc cn)), (44, .t (tI ch.length)), (45, .t (tI k))],
      [(17, .mp (mpE tK Z)), (42, .sl 51 1 (vals (rwAt (loadV Z p) ch k))), (71, .sl 41 1 es)]⟩
  | 0, k, h => by
    refine shifts_loads_l3_run fun K hK => ?_
    have h2 : k = ch.length := by omega
    subst h2
    rw [rwAt_all]
    simp
    simpa using h0
  | n + 1, k, h => by
    refine shifts_loads_l3_run fun K hK => ?_
    have h2 : k < ch.length := by omega
    have ih := ld_l3 ch cc cn hch hs Z d t htd hd es p hp h0 n (k + 1) (by omega)
    have e1 := gE (f := tSl) slD h2
    have e1' := gE' (f := tSl) slD h2
    have hx : ch.getD k slD = ch[k] := by simp [List.getD_eq_getElem?_getD, h2]
    rw [hx] at e1 e1'
    have hsl := hs _ (List.getElem_mem h2)
    have q1 := rwAt_set (f := loadV Z p) h2
    have q2 := rwAt_zero (f := loadV Z p) h2
    have hrl := rwAt_len (f := loadV Z p) (Nat.le_of_lt h2)
    have w1 : IntKind.i64.wrap ((k : Int) + 1) = (k : Int) + 1 := by rw [wrap_i64] <;> omega
    have w2 : IntKind.i64.wrap ((d : Int) - 1) = (d : Int) - 1 := by rw [wrap_i64] <;> omega
    have w3 : IntKind.i64.wrap ((d : Int) - 1 - t) = p := by rw [hp, wrap_i64] <;> omega
    have hp0 : 0 ≤ p := by omega
    generalize rwAt (loadV Z p) ch k = row at *
    generalize rwAt (loadV Z p) ch (k + 1) = row2 at *
    generalize ch[k] = s at *
    have hv : loadV Z p s = if p < s.l.length then mpOf 0 (s.l.getD p.toNat 0) Z else 0 := rfl
    simp only [tSl] at e1 e1'
    by_cases hlt : p < s.l.length
    · have h3 : p.toNat < s.l.length := by omega
      have e2 := gE (f := tI) 0 h3
      have e2' := gE' (f := tI) 0 h3
      rw [if_pos hlt] at hv
      rw [hv] at q1
      have es1 : (vals row).set k [tK (mpOf 0 (s.l.getD p.toNat 0) Z)] = vals row2 := by rw [← q1]; exact enc1_set
      generalize s.l.getD p.toNat 0 = x at *
      have ef := mpE_fit (f := tK) Z
      have em := mpE_find (f := tK) 0 x Z
      generalize mpE tK Z = M at *
      generalize mpOf 0 x Z = y at *
      simp [h2, enc1_len, enc1_wid, e1, e1', e2, e2', w1, w2, w3, hlt, hp0, h3, em, ef, KT.fits, hrl, es1]
      rw [hK]
      simpa using ih
    · rw [if_neg hlt] at hv
      have := q2 hv
      subst this
      simp [h2, enc1_len, enc1_wid, e1, e1', w1, w2, w3, hlt]
      rw [hK]
      simpa using ih

def tRow (l : List Int) : T := .sl (vals l) none none
theorem ld_l5 {Q : AX → St → Prop} (ch : List (Sl Int)) (cc : Option Nat) (cn : Option Bool) (hch : ch.length ≤ 1000000) (hs : ∀ s ∈ ch, s.l.length ≤ 1000000) (Z : List (Int × Int)) (d : Nat) (hd : d ≤ 1000000)
    (h0 : Q (.exit 2) ⟨[(1, .t (.sl (enc1 tSl ch) cc cn)), (7, .lm 17), (10, .t (tI d)), (11, .ls 71 0 d none), (36, .t (tI d)), (37, .t (tI d)), (38, .t (tB false))],
      [(17, .mp (mpE tK Z)), (71, .sl 41 1 (enc1 tRow ((List.range d).map fun t : Nat => ch.map (loadV Z ((d : Int) - 1 - t)))))]⟩) :
    ∀ (k t : Nat), k + t = d →
    run Tryd.prog Γ shifts_loads_l5 Q ⟨[(1, .t (.sl (enc1 tSl ch) cc cn)), (7, .lm 17), (10, .t (tI d)), (11, .ls 71 0 t none), (36, .t (tI d)), (37, .t (tI t))],
      [(17, .mp (mpE tK Z)), (71, .sl 41 1 (enc1 tRow ((List.range t).map fun t : Nat => ch.map (loadV Z ((d : Int) - 1 - t)))))]⟩
  | 0, t, h => by
    refine shifts_loads_l5_run fun K hK => ?_
    have h2 : t = d := by omega
    subst h2
    simp
    simpa using h0
  | k + 1, t, h => by
    refine shifts_loads_l5_run fun K hK => ?_
    have h2 : t < d := by omega
    have ih := ld_l5 ch cc cn hch hs Z d hd h0 k (t + 1) (by omega)
    rw [List.range_succ, List.map_append] at ih
    simp only [List.map_cons, List.map_nil] at ih
    have hel : (enc1 tRow ((List.range t).map fun t : Nat => ch.map (loadV Z ((d : Int) - 1 - t)))).length = t := by rw [enc1_len]; simp
    have g := fun es Q h0 => ld_l3 (Γ := Γ) (Q := Q) ch cc cn hch hs Z d t h2 hd es _ rfl h0 ch.length 0 (by omega)
    rw [rwAt_none] at g
    have hre : vals (List.replicate ch.length 0) = List.replicate ch.length [tK 0] := by simp [enc1]
    rw [hre] at g
    have hel2 := enc1_snoc (f := tRow) (l := (List.range t).map fun t : Nat => ch.map (loadV Z ((d : Int) - 1 - t))) (x := ch.map (loadV Z ((d : Int) - 1 - t)))
    generalize (List.range t).map (fun t : Nat => ch.map (loadV Z ((d : Int) - 1 - t))) = L at *
    have hrl : (ch.map (loadV Z ((d : Int) - 1 - t))).length = ch.length := by simp
    generalize ch.map (loadV Z ((d : Int) - 1 - t)) = row at *
    have w1 : IntKind.i64.wrap ((t : Int) + 1) = (t : Int) + 1 := by rw [wrap_i64] <;> omega
    have htk : (vals row).take ch.length = vals row := by rw [← hrl]; exact vals_take
    have htk2 : (enc1 tRow L).take t = enc1 tRow L := List.take_of_length_le (by omega)
    simp only [tRow] at hel2
    simp [h2, enc1_len]
    refine ⟨by omega, ?_⟩
    refine g _ _ ?_
    simp [St.freeze, Reg.closed, frzRef, frz1, frz0, frzReg, del, reify, htk, htk2, hel, w1, hel2]
    refine ⟨by omega, ?_⟩
    rw [hK]
    simpa [tRow] using ih

def loadsL (ch : List (Sl Int)) (st pst : List Int) : List (List Int) := (List.range (depL ch)).map fun t : Nat => ch.map (loadV (ofZ st pst) ((depL ch : Int) - 1 - t))
theorem clip_vals (es : List (List T)) (cap : Option Nat) (nl : Option Bool) (hw : wid 1 es) : PureCalls Tryd.prog Γ 24 [.sl es cap nl] (.sl es (some es.length) nl) := by
  refine run_pureQ slices_Clip_api_Values_chk rfl ?_
  simp [slices_Clip_api_Values_ic, slices_Clip_api_Values_rv, hw]
theorem depL_le {l : List (Sl Int)} {m : Nat} (h : ∀ s ∈ l, s.l.length ≤ m) : depL l ≤ m := by
  have key : ∀ (l : List (Sl Int)) (n : Nat), n ≤ m → (∀ s ∈ l, s.l.length ≤ m) → l.foldl (fun n s => max n s.l.length) n ≤ m := by
    intro l
    induction l with
    | nil => intro n hn _; exact hn
    | cons s l ih => intro n hn h; exact ih _ (Nat.max_le.2 ⟨hn, h s List.mem_cons_self⟩) fun s hs => h s (List.mem_cons_of_mem _ hs)
  exact key l 0 (by omega) h
theorem loads_spec (c : Cir) (hc : COk c) (hsl : (states c).length ≤ 1000000) (chs : Sl (Sl Int)) (hl : chs.l.length ≤ 1000000) (hs : ∀ s ∈ chs.l, s.l.length ≤ 1000000) (ps : Sl Int) (hps : ps.l.length = (states c).length) :
    PureCalls Tryd.prog Γ 23 [.agg (tC c), tChs chs, tV ps] (.sl (enc1 tRow (loadsL chs.l (states c) ps.l)) (some (loadsL chs.l (states c) ps.l).length) none) := by
  refine run_pureQ shifts_loads_chk rfl ?_
  have e1 := states_spec (Γ := Γ) c hc
  have e2 := Depth_spec (Γ := Γ) chs hl hs
  have hd : (states c).Nodup := (ofL_nodup [14] c.nodes.l 0).2
  have g1 := fun Q sc sn h0 => ld_l1 (Γ := Γ) (Q := Q) (.sl (enc1 tSl chs.l) chs.cap chs.nl) (states c) sc sn hd hsl ps hps h0 (states c).length 0 (by omega)
  have g5 := fun Q h0 => ld_l5 (Γ := Γ) (Q := Q) chs.l chs.cap chs.nl hl hs (ofZ (states c) ps.l) (depL chs.l) (depL_le hs) h0 (depL chs.l) 0 (by omega)
  have hll : (loadsL chs.l (states c) ps.l).length = depL chs.l := by simp [loadsL]
  have hL : (List.range (depL chs.l)).map (fun t : Nat => chs.l.map (loadV (ofZ (states c) ps.l) ((depL chs.l : Int) - 1 - t))) = loadsL chs.l (states c) ps.l := rfl
  rw [hL] at g5
  generalize loadsL chs.l (states c) ps.l = L at *
  generalize states c = st at *
  have e3 := clip_vals (Γ := Γ) (enc1 tRow L) none none enc1_wid
  have htk : (enc1 tRow L).take (depL chs.l) = enc1 tRow L := List.take_of_length_le (by rw [enc1_len]; omega)
  simp [tV, mpE, enc1_nil] at g1 g5
  simp [shifts_loads_ic, tC, tNodes, tNames, tMems, tSl, tChs, tV]
  simp [tC, tNodes, tNames, tMems, tSl, tChs] at e1 e2
  refine callK_pure e1 rfl ?_
  simp [enc1_len]
  refine g1 _ _ _ ?_
  simp
  refine callK_fresh e2 rfl ?_
  simp
  refine g5 _ ?_
  simp [St.freeze, Reg.closed, frzRef, frz1, frz0, frzReg, del, reify, htk]
  refine callK_pure e3 rfl ?_
  simp [shifts_loads_rv, enc1_len]
end Go.Lg

/- shifts: Loads, Test. Conditions: none. -/
set_option linter.unusedSimpArgs false
set_option linter.unusedVariables false
set_option maxRecDepth 100000
namespace Go.Lg
open Go Go.Proofs
variable {Γ : Tables}

theorem cycle_spec (a b : Sl Int) (e : Int) (ha : a.l.length ≤ 1000000) (hb : b.l.length ≤ 1000000) : PureCalls Tryd.prog Γ 20 [tV a, tK e, tV b] (tVs (a.l ++ ([e] ++ b.l))) := by
  refine run_pureQ shifts_Test_1_chk rfl ?_
  have e1 := concat_spec (Γ := Γ) [a, ⟨[e], some 1, some false⟩, b] (some 3) (some false) (by simp) (by simp; omega) (by simp; omega)
  have hfl : ([a, ⟨[e], some 1, some false⟩, b] : List (Sl Int)).flatMap (·.l) = a.l ++ ([e] ++ b.l) := by simp
  rw [hfl] at e1
  generalize a.l ++ ([e] ++ b.l) = A at *
  have e6 := clip_val (Γ := Γ) (vals A) none none enc1_wid
  have e1' : FreshCalls Tryd.prog Γ 22 [.sl [[.sl (vals a.l) a.cap a.nl], [.sl [[tK e]] (some 1) (some false)], [.sl (vals b.l) b.cap b.nl]] (some 3) (some false)] (.sl (vals A) none none) := e1
  simp [shifts_Test_1_ic, tV]
  refine callK_fresh e1' (by simp) ?_
  simp
  refine callK_pure e6 rfl ?_
  simp [shifts_Test_1_rv, tVs, enc1_len]

/-- What is asked of a circuit, chains and the call of Insert. -/
structure InsH (Γ : Tables) (c : Cir) (chs : Sl (Sl Int)) (s : Nat → List (List T)) (k : Nat → Option Nat) (n : Nat → Option Bool) (en ce : Int) : Prop where
  ok : COk c
  st : (states c).length ≤ 1000000
  inp : (inputs c).length ≤ 1000000
  chl : chs.l.length ≤ 1000000
  cs : ∀ s ∈ chs.l, s.l.length ≤ 1000000
  call : PureCalls Tryd.prog Γ 17 [.agg (tC c), tChs chs] (.tup [.agg [.sl (s 0) (k 0) (n 0), .sl (s 1) (k 1) (n 1), .sl (s 2) (k 2) (n 2), .sl (s 3) (k 3) (n 3), .sl (s 4) (k 4) (n 4), tI en, .sl (s 6) (k 6) (n 6), .sl (s 7) (k 7) (n 7)], tI ce])

theorem Loads_spec {c : Cir} {chs : Sl (Sl Int)} {s : Nat → List (List T)} {k : Nat → Option Nat} {n : Nat → Option Bool} {en ce : Int} (h : InsH Γ c chs s k n en ce) (ps : Sl Int) (hp : ps.l.length ≤ 1000000) :
    PureCalls Tryd.prog Γ 8 [.agg (tC c), tChs chs, tV ps] (if ce ≠ 0 then .tup [.sl [] (some 0) (some true), tI ce] else if valsErr ps.l (states c).length ≠ 0 then .tup [.sl [] (some 0) (some true), tI (valsErr ps.l (states c).length)] else .tup [.sl (enc1 tRow (loadsL chs.l (states c) ps.l)) (some (loadsL chs.l (states c) ps.l).length) none, tI 0]) := by
  refine run_pureQ shifts_Loads_chk rfl ?_
  have e1 := h.call
  have e2 := states_spec (Γ := Γ) c h.ok
  have e3 := values_spec (Γ := Γ) ps (by omega) (states c).length
  have e4 := fun hq => loads_spec (Γ := Γ) c h.ok h.st chs h.chl h.cs ps hq
  have hv : valsErr ps.l (states c).length = 0 → ps.l.length = (states c).length := fun h => by
    unfold valsErr at h
    split at h
    · cases h
    · rename_i h2; exact Decidable.not_not.1 h2
  generalize loadsL chs.l (states c) ps.l = L at *
  generalize valsErr ps.l (states c).length = ve at *
  generalize states c = st at *
  simp [tC, tNodes, tNames, tMems, tSl, tChs, tV] at e1 e2 e3 e4
  simp [shifts_Loads_ic, tC, tNodes, tNames, tMems, tSl, tChs, tV]
  refine callK_pure e1 rfl ?_
  by_cases hc : ce = 0
  · subst hc
    simp
    refine callK_pure e2 rfl ?_
    simp [enc1_len]
    refine callK_fresh e3 rfl ?_
    by_cases hv0 : ve = 0
    · subst hv0
      simp
      refine callK_pure (e4 (hv rfl)) rfl ?_
      simp [shifts_Loads_rv]
    · simp [hv0, shifts_Loads_rv]
  · simp [hc, shifts_Loads_rv]

/-- The cycles of a test. -/
def zerosL (n : Nat) : List Int := List.replicate n 0
def testL (ch : List (Sl Int)) (st pin pst : List Int) : List (List Int) :=
  (loadsL ch st pst).map (fun s => zerosL pin.length ++ ([1] ++ s)) ++ ([pin ++ ([0] ++ zerosL ch.length)] ++ List.replicate (depL ch) (zerosL pin.length ++ ([1] ++ zerosL ch.length)))

def stE (chT : T) (p : Sl Int) (s : Sl Int) (i m : Nat) : List (Nat × AV) := [(1, .t chT), (5, .t (.ip [tV p, tV s] 0)), (12, .t (tRow (zerosL i))), (13, .t (tRow (zerosL m))), (14, .t (.fn 20 []))]
theorem st_l1 {Q : AX → St → Prop} (chT : T) (p s : Sl Int) (i m : Nat) (hi : i ≤ 1000000) (L : List (List Int)) (hL : L.length ≤ 1000000) (hLs : ∀ r ∈ L, r.length ≤ 1000000) (R : List (List Int))
    (h0 : Q (.exit 0) ⟨stE chT p s i m ++ [(15, .ls 76 0 L.length none), (64, .t (.sl (enc1 tRow L) (some L.length) none)), (65, .t (tI L.length)), (66, .t (tI L.length)), (67, .t (tB false))], [(76, .sl 41 1 (enc1 tVs R))]⟩) :
    ∀ (k j : Nat) (out : List (List Int)), k + j = L.length → out.length = j → out ++ (L.drop j).map (fun s => zerosL i ++ ([1] ++ s)) = R →
    run Tryd.prog Γ shifts_Test_l1 Q ⟨stE chT p s i m ++ [(15, .ls 76 0 j none), (64, .t (.sl (enc1 tRow L) (some L.length) none)), (65, .t (tI L.length)), (66, .t (tI j))], [(76, .sl 41 1 (enc1 tVs out))]⟩
  | 0, j, out, h, ho, hR => by
    refine shifts_Test_l1_run fun K hK => ?_
    have h2 : j = L.length := by omega
    subst h2
    simp only [List.drop_length, List.map_nil, List.append_nil] at hR
    subst hR
    simp [stE]
    simpa [stE] using h0
  | k + 1, j, out, h, ho, hR => by
    refine shifts_Test_l1_run fun K hK => ?_
    have h2 : j < L.length := by omega
    rw [List.drop_eq_getElem_cons h2, List.map_cons] at hR
    have hr := hLs _ (List.getElem_mem h2)
    have e := gE (f := tRow) [] h2
    have e' := gE' (f := tRow) [] h2
    rw [show L.getD j [] = L[j] by simp [List.getD_eq_getElem?_getD, h2]] at e e'
    generalize L[j] = r at *
    have ih := st_l1 chT p s i m hi L hL hLs R h0 k (j + 1) (out ++ [zerosL i ++ ([1] ++ r)]) (by omega) (by simp [ho]) (by rw [← hR]; simp)
    have e2 := cycle_spec (Γ := Γ) ⟨zerosL i, none, none⟩ ⟨r, none, none⟩ 1 (by simp [zerosL]; exact hi) hr
    have hs := enc1_snoc (f := tVs) (l := out) (x := zerosL i ++ ([1] ++ r))
    generalize zerosL i ++ ([1] ++ r) = row at *
    have htk : (enc1 tVs out).take j = enc1 tVs out := List.take_of_length_le (by rw [enc1_len]; omega)
    have w1 : IntKind.i64.wrap ((j : Int) + 1) = (j : Int) + 1 := by rw [wrap_i64] <;> omega
    simp [stE] at ih
    simp only [tRow] at e e'
    simp only [tV] at e2
    simp [stE, h2, enc1_len, enc1_wid, e, e', tRow]
    refine callK_pure e2 rfl ?_
    simp only [tVs] at hs
    simp [tVs, htk, hs, w1, ho, enc1_len]
    refine ⟨by omega, ?_⟩
    rw [hK]
    simpa [tRow, tVs] using ih
theorem st_l3 {Q : AX → St → Prop} (i m d : Nat) (hi : i ≤ 1000000) (hm : m ≤ 1000000) (hd : d ≤ 1000000) (n0 : Nat) (hn0 : n0 ≤ 1000001) (R : List (List Int)) (row : List Int) (hrow : row = zerosL i ++ ([1] ++ zerosL m))
    (h0 : Q (.exit 2) ⟨[(12, .t (tRow (zerosL i))), (13, .t (tRow (zerosL m))), (14, .t (.fn 20 [])), (15, .ls 76 0 (n0 + d) none), (87, .t (tI d)), (88, .t (tI d)), (89, .t (tB false))], [(76, .sl 41 1 (enc1 tVs R))]⟩) :
    ∀ (k j : Nat) (out : List (List Int)), k + j = d → out.length = n0 + j → out ++ List.replicate k row = R →
    run Tryd.prog Γ shifts_Test_l3 Q ⟨[(12, .t (tRow (zerosL i))), (13, .t (tRow (zerosL m))), (14, .t (.fn 20 [])), (15, .ls 76 0 (n0 + j) none), (87, .t (tI d)), (88, .t (tI j))], [(76, .sl 41 1 (enc1 tVs out))]⟩
  | 0, j, out, h, ho, hR => by
    refine shifts_Test_l3_run fun K hK => ?_
    have h2 : j = d := by omega
    subst h2
    simp only [List.replicate_zero, List.append_nil] at hR
    subst hR
    simp
    simpa using h0
  | k + 1, j, out, h, ho, hR => by
    refine shifts_Test_l3_run fun K hK => ?_
    have h2 : j < d := by omega
    have ih := st_l3 i m d hi hm hd n0 hn0 R row hrow h0 k (j + 1) (out ++ [row]) (by omega) (by simp [ho]; omega) (by rw [← hR, List.replicate_succ]; simp)
    have e2 := cycle_spec (Γ := Γ) ⟨zerosL i, none, none⟩ ⟨zerosL m, none, none⟩ 1 (by simp [zerosL]; exact hi) (by simp [zerosL]; exact hm)
    rw [show (⟨zerosL i, none, none⟩ : Sl Int).l ++ ([1] ++ (⟨zerosL m, none, none⟩ : Sl Int).l) = row from hrow.symm] at e2
    have hs := enc1_snoc (f := tVs) (l := out) (x := row)
    have htk : (enc1 tVs out).take (n0 + j) = enc1 tVs out := List.take_of_length_le (by rw [enc1_len]; omega)
    have w1 : IntKind.i64.wrap ((j : Int) + 1) = (j : Int) + 1 := by rw [wrap_i64] <;> omega
    simp only [tV] at e2
    rw [← Nat.add_assoc] at ih
    simp [h2, tRow]
    refine callK_pure e2 rfl ?_
    simp only [tVs] at hs
    simp [tVs, htk, hs, w1, ho, enc1_len]
    refine ⟨by omega, ?_⟩
    rw [hK]
    simpa [tRow, tVs] using ih
end Go.Lg

/- shifts.Test. Conditions: none. -/
set_option linter.unusedSimpArgs false
set_option linter.unusedVariables false
set_option maxRecDepth 100000
namespace Go.Lg
open Go Go.Proofs
variable {Γ : Tables}

def testErr (c : Cir) (p : Pat) : Int := if p.inn.l.length ≠ (inputs c).length ∨ p.st.l.length ≠ (states c).length then 8 else if p.inn.l.any aboveV = true ∨ p.st.l.any aboveV = true then 1 else 0
def testRes (c : Cir) (ch : List (Sl Int)) (p : Pat) (ce : Int) : T :=
  if ce ≠ 0 then .tup [.sl [] (some 0) (some true), tI ce] else if testErr c p ≠ 0 then .tup [.sl [] (some 0) (some true), tI (testErr c p)]
  else .tup [.sl (enc1 tVs (testL ch (states c) p.inn.l p.st.l)) (some (testL ch (states c) p.inn.l p.st.l).length) none, tI 0]
theorem loadsL_row {ch : List (Sl Int)} {st pst : List Int} : ∀ r ∈ loadsL ch st pst, r.length = ch.length := by
  intro r hr
  obtain ⟨t, _, rfl⟩ := List.mem_map.1 hr
  simp
theorem loadsL_len {ch : List (Sl Int)} {st pst : List Int} : (loadsL ch st pst).length = depL ch := by simp [loadsL]

set_option maxHeartbeats 1000000 in
theorem Test_spec {c : Cir} {chs : Sl (Sl Int)} {s : Nat → List (List T)} {k : Nat → Option Nat} {n : Nat → Option Bool} {en ce : Int} (h : InsH Γ c chs s k n en ce) (p : Pat) (hp : p.inn.l.length ≤ 1000000 ∧ p.st.l.length ≤ 1000000) :
    PureCalls Tryd.prog Γ 7 [.agg (tC c), tChs chs, .agg (tP p)] (testRes c chs.l p ce) := by
  refine run_pureQ shifts_Test_chk rfl ?_
  have e1 := h.call
  have e2 := inputs_spec (Γ := Γ) c h.ok
  have e3 := states_spec (Γ := Γ) c h.ok
  have e4 := values_spec (Γ := Γ) p.inn (by omega) p.inn.l.length
  have e5 := values_spec (Γ := Γ) p.st (by omega) p.st.l.length
  have e6 := fun hq => loads_spec (Γ := Γ) c h.ok h.st chs h.chl h.cs p.st hq
  have e7 := Depth_spec (Γ := Γ) chs h.chl h.cs
  have e8 := cycle_spec (Γ := Γ) p.inn ⟨zerosL chs.l.length, none, none⟩ 0 hp.1 (by simp [zerosL]; exact h.chl)
  have hdl : depL chs.l ≤ 1000000 := depL_le h.cs
  have hi := h.inp
  have hs := h.st
  have hc := h.chl
  have v4 : valsErr p.inn.l p.inn.l.length = if p.inn.l.any aboveV = true then 1 else 0 := by unfold valsErr; rw [if_neg (by simp)]
  have v5 : valsErr p.st.l p.st.l.length = if p.st.l.any aboveV = true then 1 else 0 := by unfold valsErr; rw [if_neg (by simp)]
  rw [v4] at e4
  rw [v5] at e5
  unfold testRes testErr testL
  generalize p.inn.l.any aboveV = A at *
  generalize p.st.l.any aboveV = B at *
  have hLs := loadsL_row (ch := chs.l) (st := states c) (pst := p.st.l)
  have hLl := loadsL_len (ch := chs.l) (st := states c) (pst := p.st.l)
  generalize loadsL chs.l (states c) p.st.l = L at *
  have g1 := fun Q h0 => st_l1 (Γ := Γ) (Q := Q) (.sl (enc1 tSl chs.l) chs.cap chs.nl) p.inn p.st p.inn.l.length chs.l.length hp.1 L (by omega) (fun r hr => by rw [hLs r hr]; exact hc) (L.map fun s => zerosL p.inn.l.length ++ ([1] ++ s)) h0 L.length 0 [] (by omega) rfl (by simp)
  have g3 := fun Q R h0 out ho hR => st_l3 (Γ := Γ) (Q := Q) p.inn.l.length chs.l.length (depL chs.l) hp.1 hc hdl (L.length + 1) (by omega) R _ rfl h0 (depL chs.l) 0 out (by omega) ho hR
  have hz1 : vals (zerosL p.inn.l.length) = List.replicate p.inn.l.length [tK 0] := by simp [zerosL, enc1]
  have hz2 : vals (zerosL chs.l.length) = List.replicate chs.l.length [tK 0] := by simp [zerosL, enc1]
  have hcyc : [p.inn.l ++ ([0] ++ zerosL chs.l.length)] = [p.inn.l ++ ([0] ++ (⟨zerosL chs.l.length, none, none⟩ : Sl Int).l)] := rfl
  rw [hcyc]
  have hsn := enc1_snoc (f := tVs) (l := L.map fun s => zerosL p.inn.l.length ++ ([1] ++ s)) (x := p.inn.l ++ ([0] ++ (⟨zerosL chs.l.length, none, none⟩ : Sl Int).l))
  have hml : (L.map fun s => zerosL p.inn.l.length ++ ([1] ++ s)).length = L.length := by simp
  generalize (p.inn.l ++ ([0] ++ (⟨zerosL chs.l.length, none, none⟩ : Sl Int).l)) = row at *
  generalize (L.map fun s => zerosL p.inn.l.length ++ ([1] ++ s)) = M at *
  have htk : (enc1 tVs M).take L.length = enc1 tVs M := List.take_of_length_le (by rw [enc1_len]; omega)
  have g3' := fun Q h0 => g3 Q (M ++ ([row] ++ List.replicate (depL chs.l) (zerosL p.inn.l.length ++ ([1] ++ zerosL chs.l.length)))) h0 (M ++ [row]) (by simp [hml]) (by simp)
  have hRl : (M ++ ([row] ++ List.replicate (depL chs.l) (zerosL p.inn.l.length ++ ([1] ++ zerosL chs.l.length)))).length = L.length + 1 + depL chs.l := by simp [hml]; omega
  generalize (M ++ ([row] ++ List.replicate (depL chs.l) (zerosL p.inn.l.length ++ ([1] ++ zerosL chs.l.length)))) = R at *
  have e9 := clip_vals (Γ := Γ) (enc1 tVs R) none none enc1_wid
  have htR : (enc1 tVs R).take (L.length + 1 + depL chs.l) = enc1 tVs R := List.take_of_length_le (by rw [enc1_len]; omega)
  simp [tC, tNodes, tNames, tMems, tSl, tChs, tV] at e1 e2 e3 e4 e5 e6 e7 e8
  simp [stE, tRow, hz1, hz2, tV, enc1_nil] at g1
  simp [tRow, hz1, hz2] at g3'
  simp [hz2] at e8
  simp only [tVs] at hsn
  simp [shifts_Test_ic, tC, tNodes, tNames, tMems, tSl, tChs, tP, tV]
  refine callK_pure e1 rfl ?_
  by_cases hce : ce = 0
  case neg => simp [hce, shifts_Test_rv]
  subst hce
  simp
  refine callK_pure e2 rfl ?_
  simp
  refine callK_pure e3 rfl ?_
  by_cases hl : p.inn.l.length = (inputs c).length
  case neg =>
    have hl' : ¬ (p.inn.l.length : Int) = (inputs c).length := by omega
    simp [enc1_len, hl, hl', shifts_Test_rv]
  by_cases hm : p.st.l.length = (states c).length
  case neg =>
    have hm' : ¬ (p.st.l.length : Int) = (states c).length := by omega
    simp [enc1_len, hl, hm, hm', shifts_Test_rv]
  simp [enc1_len, ← hl, ← hm]
  refine callK_fresh e4 rfl ?_
  simp
  refine callK_fresh e5 rfl ?_
  cases A
  case true => cases B <;> simp [shifts_Test_rv, hl, hm]
  cases B
  case true => simp [shifts_Test_rv, hl, hm]
  simp [St.freeze, Reg.closed, frzRef, frz1, frz0, frzReg, del, reify, enc1_len]
  refine ⟨by omega, by omega, ?_⟩
  refine callK_pure (e6 hm) rfl ?_
  simp [enc1_len]
  refine g1 _ ?_
  simp
  refine callK_pure e8 rfl ?_
  simp [tVs, htk, hsn, enc1_len, hml]
  refine ⟨by omega, ?_⟩
  refine callK_fresh e7 rfl ?_
  simp
  refine g3' _ ?_
  simp [St.freeze, Reg.closed, frzRef, frz1, frz0, frzReg, del, reify, htR]
  refine callK_pure e9 rfl ?_
  simp [shifts_Test_rv, enc1_len, hl, hm]
end Go.Lg

/- shifts: Insert's calls, the chapter's examples. Conditions: none. -/
set_option linter.unusedSimpArgs false
set_option linter.unusedVariables false
set_option maxRecDepth 100000
namespace Go.Lg
open Go Go.Proofs
variable {Γ : Tables}

theorem insH_ok (hΓ : GOk Γ) {c : Cir} {chs : Sl (Sl Int)} (h : InsOk c chs) (hi : (inputs c).length ≤ 1000000) (hs : ∀ s ∈ chs.l, s.l.length ≤ 1000000) : ∃ s k n en, InsH Γ c chs s k n en 0 ∧ (s 3).length = (scC c chs.l).outs.l.length := by
  have e := Insert_spec (Γ := Γ) hΓ c chs h
  simp only [tScan] at e
  generalize hD : scC c chs.l = D at e
  refine ⟨fun j => match j with | 0 => encN tNd D.nodes.l | 1 => enc1 tS D.names.l | 2 => encN tMm D.mems.l | 3 => ints D.outs.l | 4 => enc1 tSl (scS c chs.l).cl | 6 => ints (scS c chs.l).ins | _ => ints (scJ c chs.l).muxes,
    fun j => match j with | 0 => D.nodes.cap | 1 => D.names.cap | 2 => D.mems.cap | 3 => D.outs.cap | 4 => some (scS c chs.l).cl.length | 6 => some (scS c chs.l).ins.length | _ => some (scJ c chs.l).muxes.length,
    fun j => match j with | 0 => D.nodes.nl | 1 => D.names.nl | 2 => D.mems.nl | 3 => D.outs.nl | _ => none, c.nodes.l.length, ⟨h.ok, by have := h.s100; omega, hi, by have := h.len; omega, hs, ?_⟩, enc1_len⟩
  have e2 := e
  simp only [tC, tNodes, tNames, tMems, tSl, List.cons_append, List.nil_append] at e2
  simpa only [tC, tNodes, tNames, tMems, tSl] using e2

def rw35N (i : Nat) : Nd := if i = 0 then ⟨0, ⟨[], some 0, some true⟩, 0, 0⟩ else ⟨14, ⟨[0], some 1, some false⟩, 0, 0⟩
def rw35 : Cir := ⟨⟨[rw35N 0, rw35N 1, rw35N 2, rw35N 3], some 4, some false⟩, ⟨[[97], [102], [103], [104]], some 4, some false⟩, ⟨[], some 0, some true⟩, ⟨[0], some 1, some false⟩⟩
def rw35C : Sl (Sl Int) := ⟨[⟨[1, 2], some 2, some false⟩, ⟨[3], some 1, some false⟩], some 2, some false⟩
theorem row35_spec : PureCalls Tryd.prog Γ 25 [] (.agg (tC rw35)) := by
  refine run_pureQ law35_row_chk rfl ?_
  simp [law35_row_ic, law35_row_rv, tC, tNodes, tNames, tMems, tSl, rw35, rw35N, encN, enc1, tNd, sV, tS]
theorem rw35_ok : COk rw35 := ⟨⟨by decide, by decide, by decide, by decide, by decide, by decide, by decide⟩, by decide⟩
theorem rw35_ins : InsOk rw35 rw35C := by
  refine ⟨rw35_ok, ⟨by decide, by decide, by decide, by decide, by decide, by decide, rfl, ?_, ?_⟩, by decide, by decide, by decide, by decide, by decide, by decide, by decide, ?_, ?_, by decide, by decide +kernel⟩
  · intro x hx
    simp [rw35] at hx
    rcases hx with rfl | rfl | rfl | rfl <;> exact ⟨by decide, by decide, by decide⟩
  · exact ⟨by decide, by decide, by decide⟩
  · refine ⟨⟨⟨by decide, by decide, by decide, by decide, by decide⟩, by decide, by decide, by decide, by decide, by decide, by decide, by decide⟩, ⟨⟨by decide, by decide, by decide, by decide, by decide⟩, by decide, by decide, by decide, by decide, by decide, by decide, by decide⟩, trivial⟩
  · refine ⟨⟨by decide, by decide, by decide, by decide, by decide, by decide, by decide, by decide, by decide⟩, ⟨by decide, by decide, by decide, by decide, by decide, by decide, by decide, by decide, by decide⟩, ⟨by decide, by decide, by decide, by decide, by decide, by decide, by decide, by decide, by decide⟩, trivial⟩

theorem lives35_spec (hΓ : GOk Γ) : PureCalls Tryd.prog Γ 10 [] (tB true) := by
  refine run_pureQ law35_lives_chk rfl ?_
  obtain ⟨s, k, n, en, hI, _⟩ := insH_ok (Γ := Γ) hΓ rw35_ins (by decide) (by decide)
  have e1 := Loads_spec hI ⟨[0, 1, 1], some 3, some false⟩ (by decide)
  have e2 := Test_spec hI ⟨⟨[1], some 1, some false⟩, ⟨[0, 1, 1], some 3, some false⟩⟩ (by decide)
  have q1 : valsErr [0, 1, 1] (states rw35).length = 0 := by decide
  have q2 : loadsL rw35C.l (states rw35) [0, 1, 1] = [[1, 0], [0, 1]] := by decide
  have q3 : testErr rw35 ⟨⟨[1], some 1, some false⟩, ⟨[0, 1, 1], some 3, some false⟩⟩ = 0 := by decide
  have q4 : (testL rw35C.l (states rw35) [1] [0, 1, 1]).length = 5 := by decide
  unfold testRes at e2
  simp only [q1, q2, q3] at e1 e2
  generalize testL rw35C.l (states rw35) [1] [0, 1, 1] = L at *
  have r := row35_spec (Γ := Γ)
  generalize tC rw35 = R at *
  simp [tChs, rw35C, enc1, tSl, tV, tP, tRow, q4] at e1 e2
  simp [law35_lives_ic]
  refine callK_pure r rfl ?_
  simp
  refine callK_pure e1 rfl ?_
  simp
  refine callK_pure r rfl ?_
  simp
  refine callK_pure e2 rfl ?_
  simp [wid, q4]
  simp [law35_lives_rv, wid]
end Go.Lg

/- shifts.Collect: its parts. Conditions: none. -/
set_option linter.unusedSimpArgs false
set_option linter.unusedVariables false
set_option maxRecDepth 100000
namespace Go.Lg
open Go Go.Proofs
variable {Γ : Tables}

structure Rsp where
  out : Sl Int
  next : Sl Int
def tRsp (r : Rsp) : List T := [tV r.out, tV r.next]
def rspD : Rsp := ⟨⟨[], none, none⟩, ⟨[], none, none⟩⟩
theorem tRsp_wid {l : List Rsp} : wid 2 (encN tRsp l) := encN_wid fun _ => rfl
theorem gR {l : List Rsp} {i : Nat} (h : i < l.length) : (encN tRsp l)[i]?.getD [] = tRsp (l.getD i rspD) := by
  rw [encN_get rspD h]; rfl
theorem gR' {l : List Rsp} {i : Nat} (h0 : i < l.length) : ∀ h : i < (encN tRsp l).length, (encN tRsp l)[i] = tRsp (l.getD i rspD) := fun h => by rw [← gR h0]; simp [h]

theorem indexfunc_rsp_loop {Q : AX → St → Prop} (l : List Rsp) (c : Option Nat) (nl : Option Bool) (f : FuncId) (cs : List T) (p : Rsp → Bool) (hp : ∀ x ∈ l, FreshCalls Tryd.prog Γ f (.agg (tRsp x) :: cs) (tB (p x))) (hl : l.length ≤ 1000000000)
    (h0 : (∀ x ∈ l, p x = false) → Q (.exit 0) ⟨[(0, .t (.sl (encN tRsp l) c nl)), (1, .t (.fn f cs)), (7, .t (tI l.length)), (8, .t (tI l.length)), (9, .t (tB false))], []⟩)
    (h1 : ∀ i : Nat, l.findIdx? p = some i → Q .ret ⟨[(4, .t (tI i))], []⟩) : ∀ (k i : Nat), k + i = l.length → (∀ j, j < i → ∀ y, l[j]? = some y → p y = false) →
    run Tryd.prog Γ slices_IndexFunc_api_Response_l1 Q ⟨[(0, .t (.sl (encN tRsp l) c nl)), (1, .t (.fn f cs)), (7, .t (tI l.length)), (8, .t (tI i))], []⟩
  | 0, i, h, hq => by
    refine slices_IndexFunc_api_Response_l1_run fun K hK => ?_
    have h3 : i = l.length := by omega
    subst h3
    simp
    refine h0 fun y hy => ?_
    obtain ⟨j, hj, rfl⟩ := List.getElem_of_mem hy
    exact hq j (by omega) _ (List.getElem?_eq_getElem hj)
  | k + 1, i, h, hq => by
    refine slices_IndexFunc_api_Response_l1_run fun K hK => ?_
    have h2 : i < l.length := by omega
    have e := gR h2
    have e' := gR' h2
    have hx : l.getD i rspD = l[i] := by simp [List.getD_eq_getElem?_getD, h2]
    rw [hx] at e e'
    have hc := hp l[i] (List.getElem_mem h2)
    have w1 : IntKind.i64.wrap ((i : Int) + 1) = (i : Int) + 1 := by rw [wrap_i64] <;> omega
    cases hpx : p l[i] with
    | true =>
      have hf := findIdx_at hq l[i] (List.getElem?_eq_getElem h2) hpx
      have := h1 i hf
      rw [hpx] at hc
      generalize l[i] = x at *
      simp only [tRsp] at e e' hc
      simp [encN_len, tRsp_wid, h2, e, e']
      refine callK_clos hc ?_
      simpa using this
    | false =>
      have ih := indexfunc_rsp_loop l c nl f cs p hp hl h0 h1 k (i + 1) (by omega) (fun j hj y hy => by
        rcases Nat.lt_succ_iff_lt_or_eq.1 hj with hj | rfl
        · exact hq j hj y hy
        · rw [List.getElem?_eq_getElem h2] at hy; simp at hy; subst hy; exact hpx)
      rw [hpx] at hc
      generalize l[i] = x at *
      simp only [tRsp] at e e' hc
      simp [encN_len, tRsp_wid, h2, e, e']
      refine callK_clos hc ?_
      simp [w1]
      rw [hK]
      simpa using ih
theorem containsfunc_rsp (l : List Rsp) (c : Option Nat) (nl : Option Bool) (f : FuncId) (cs : List T) (p : Rsp → Bool) (hp : ∀ x ∈ l, FreshCalls Tryd.prog Γ f (.agg (tRsp x) :: cs) (tB (p x))) (hl : l.length ≤ 1000000000) : FreshCalls Tryd.prog Γ 26 [.sl (encN tRsp l) c nl, .fn f cs] (tB (l.any p)) := by
  have hi : FreshCalls Tryd.prog Γ 45 [.sl (encN tRsp l) c nl, .fn f cs] (tI (idxP p l)) := by
    refine run_freshQ slices_IndexFunc_api_Response_chk rfl ?_
    simp [slices_IndexFunc_api_Response_ic, encN_len]
    refine indexfunc_rsp_loop l c nl f cs p hp hl (fun h => ?_) (fun i h => ?_) l.length 0 (by omega) (by simp)
    · have : l.findIdx? p = none := List.findIdx?_eq_none_iff.2 h
      simp [slices_IndexFunc_api_Response_rv, idxP, this]
    · simp [slices_IndexFunc_api_Response_rv, idxP, h]
  refine run_freshQ slices_ContainsFunc_api_Response_chk rfl ?_
  simp [slices_ContainsFunc_api_Response_ic]
  refine callK_fresh hi rfl ?_
  simp [slices_ContainsFunc_api_Response_rv]
  unfold idxP
  cases h : l.findIdx? p with
  | none =>
    rw [List.findIdx?_eq_none_iff] at h
    have : l.any p = false := by rw [List.any_eq_false]; intro x hx; simp [h x hx]
    simp [this]
  | some i =>
    rw [List.findIdx?_eq_some_iff_getElem] at h
    obtain ⟨hi, h1, _⟩ := h
    have : l.any p = true := List.any_eq_true.2 ⟨_, List.getElem_mem hi, h1⟩
    simp [this]
theorem col1_spec (r : Rsp) (a0 a1 a2 a4 a5 a6 a7 : T) (s : List (List T)) (k : Option Nat) (n : Option Bool) : FreshCalls Tryd.prog Γ 27 [.agg (tRsp r), .ip [a0, a1, a2, .sl s k n, a4, a5, a6, a7] 0] (tB (decide (r.out.l.length ≠ s.length))) := by
  refine run_freshQ shifts_Collect_1_chk rfl ?_
  by_cases h : r.out.l.length = s.length
  · have h' : (r.out.l.length : Int) = s.length := by omega
    simp [shifts_Collect_1_ic, shifts_Collect_1_rv, tRsp, tV, enc1_len, h, h']
  · have h' : ¬ (r.out.l.length : Int) = s.length := by omega
    simp [shifts_Collect_1_ic, shifts_Collect_1_rv, tRsp, tV, enc1_len, h, h']

/-- What the unload cycles say of a chain's nodes. -/
def colC (R : List Rsp) (d o k : Nat) (s : List Int) : List (Int × Int) := (List.range s.length).map fun t => (s.getD (s.length - 1 - t) 0, (R.getD (d + 1 + t) rspD).out.l.getD (o + k) 0)
def colM (R : List Rsp) (d o : Nat) : Nat → List (Sl Int) → List (Int × Int)
  | _, [] => []
  | k, s :: l => colC R d o k s.l ++ colM R d o (k + 1) l
theorem colC_len {R : List Rsp} {d o k : Nat} {s : List Int} : (colC R d o k s).length = s.length := by simp [colC]
theorem colC_key {R : List Rsp} {d o k : Nat} {s : List Int} : (colC R d o k s).map (·.1) = s.reverse := by
  refine List.ext_getElem (by simp [colC]) fun i h1 h2 => ?_
  simp [colC] at h1 h2 ⊢
  rw [List.getElem?_eq_getElem (by omega)]; rfl
theorem colC_take {R : List Rsp} {d o k t : Nat} {s : List Int} (h : t < s.length) : (colC R d o k s).take (t + 1) = (colC R d o k s).take t ++ [(s.getD (s.length - 1 - t) 0, (R.getD (d + 1 + t) rspD).out.l.getD (o + k) 0)] := by
  rw [← List.take_append_getElem (by rw [colC_len]; exact h)]
  simp [colC]
theorem colC_not {R : List Rsp} {d o k t : Nat} {s : List Int} (hd : s.Nodup) (h : t < s.length) : s.getD (s.length - 1 - t) 0 ∉ ((colC R d o k s).take t).map (·.1) := by
  rw [List.map_take, colC_key]
  intro hm
  obtain ⟨j, hj, e⟩ := List.getElem_of_mem hm
  simp only [List.length_take, List.length_reverse] at hj
  rw [List.getElem_take, List.getElem_reverse, getD_eq (by omega)] at e
  have := (List.getElem_inj hd).1 e
  omega

theorem col_l1 {Q : AX → St → Prop} (R : List Rsp) (rc : Option Nat) (rn : Option Bool) (d o k n i : Nat) (t3 chT : T) (s : Sl Int) (Z : List (Int × Int)) (hd : d ≤ 1000000) (ho : o + k ≤ 1000000) (hR : R.length = 2 * d + 1) (hs : s.l.length ≤ d) (hnd : s.l.Nodup) (hZ : ∀ x ∈ s.l, x ∉ Z.map (·.1))
    (hO : ∀ j, j < R.length → o + k < (R.getD j rspD).out.l.length)
    (h0 : Q (.exit 2) ⟨[(2, .t (.sl (encN tRsp R) rc rn)), (3, .t t3), (6, .lp 6 0 0), (10, .t (tI d)), (11, .t (tI o)), (12, .lm 46), (13, .t (tI k)), (14, .t (tSl s)), (47, .t chT), (48, .t (tI n)), (49, .t (tI i)), (55, .t (tI s.l.length)), (56, .t (tI s.l.length)), (57, .t (tB false))],
      [(6, .bx [.t (.sl [] (some 0) (some true)), .t (.sl [] (some 0) (some true))]), (46, .mp (mpE tK (Z ++ colC R d o k s.l)))]⟩) :
    ∀ (m t : Nat), m + t = s.l.length →
    run Tryd.prog Γ shifts_Collect_l1 Q ⟨[(2, .t (.sl (encN tRsp R) rc rn)), (3, .t t3), (6, .lp 6 0 0), (10, .t (tI d)), (11, .t (tI o)), (12, .lm 46), (13, .t (tI k)), (14, .t (tSl s)), (47, .t chT), (48, .t (tI n)), (49, .t (tI i)), (55, .t (tI s.l.length)), (56, .t (tI t))],
      [(6, .bx [.t (.sl [] (some 0) (some true)), .t (.sl [] (some 0) (some true))]), (46, .mp (mpE tK (Z ++ (colC R d o k s.l).take t)))]⟩
  | 0, t, h => by
    refine shifts_Collect_l1_run fun K hK => ?_
    have h2 : t = s.l.length := by omega
    subst h2
    rw [List.take_of_length_le (by rw [colC_len]; exact Nat.le_refl _)]
    simp
    simpa using h0
  | m + 1, t, h => by
    refine shifts_Collect_l1_run fun K hK => ?_
    have h2 : t < s.l.length := by omega
    have h3 : s.l.length - 1 - t < s.l.length := by omega
    have h4 : d + 1 + t < R.length := by omega
    have h5 := hO _ h4
    have ih := col_l1 R rc rn d o k n i t3 chT s Z hd ho hR hs hnd hZ hO h0 m (t + 1) (by omega)
    rw [colC_take h2, ← List.append_assoc] at ih
    have hk : s.l.getD (s.l.length - 1 - t) 0 ∉ (Z ++ (colC R d o k s.l).take t).map (·.1) := by
      rw [List.map_append, List.mem_append, not_or]
      refine ⟨hZ _ ?_, colC_not hnd h2⟩
      rw [getD_eq h3]; exact List.getElem_mem _
    have e1 := gE (f := tI) 0 h3
    have e1' := gE' (f := tI) 0 h3
    have e2 := gR h4
    have e2' := gR' h4
    have e3 := gE (f := tK) 0 h5
    have e3' := gE' (f := tK) 0 h5
    have w1 : IntKind.i64.wrap ((t : Int) + 1) = (t : Int) + 1 := by rw [wrap_i64] <;> omega
    have w2 : IntKind.i64.wrap ((s.l.length : Int) - 1) = (s.l.length : Int) - 1 := by rw [wrap_i64] <;> omega
    have w3 : IntKind.i64.wrap ((s.l.length : Int) - 1 - t) = ((s.l.length - 1 - t : Nat) : Int) := by rw [wrap_i64] <;> omega
    have w4 : IntKind.i64.wrap ((d : Int) + 1) = (d : Int) + 1 := by rw [wrap_i64] <;> omega
    have w5 : IntKind.i64.wrap ((d : Int) + 1 + t) = ((d + 1 + t : Nat) : Int) := by rw [wrap_i64] <;> omega
    have w6 : IntKind.i64.wrap ((o : Int) + k) = ((o + k : Nat) : Int) := by rw [wrap_i64] <;> omega
    generalize Z ++ (colC R d o k s.l).take t = Y at *
    generalize R.getD (d + 1 + t) rspD = r at *
    generalize s.l.getD (s.l.length - 1 - t) 0 = x at *
    generalize r.out.l.getD (o + k) 0 = v at *
    have em := mpE_set (f := tK) x v Y hk
    have ef := mpE_fit (f := tK) Y
    generalize mpE tK Y = M at *
    simp [tSl] at ih
    simp only [tRsp, tV] at e2 e2'
    simp [tSl, h2, h3, h4, h5, enc1_len, enc1_wid, encN_len, tRsp_wid, e1, e1', e2, e2', e3, e3', w1, w2, w3, w4, w5, w6, em, ef, KT.fits, -Int.natCast_add]
    rw [hK]
    simpa using ih
end Go.Lg

/- shifts.Collect. Conditions: none. -/
set_option linter.unusedSimpArgs false
set_option linter.unusedVariables false
set_option maxRecDepth 100000
namespace Go.Lg
open Go Go.Proofs
variable {Γ : Tables}

abbrev nil2 : Reg := .bx [.t (.sl [] (some 0) (some true)), .t (.sl [] (some 0) (some true))]
theorem col_l3 {Q : AX → St → Prop} (R : List Rsp) (rc : Option Nat) (rn : Option Bool) (d o : Nat) (t3 : T) (ch : List (Sl Int)) (cc : Option Nat) (cn : Option Bool) (hd : d ≤ 1000000) (ho : o + ch.length ≤ 1000000) (hR : R.length = 2 * d + 1) (hs : ∀ s ∈ ch, s.l.length ≤ d)
    (hO : ∀ j, j < R.length → o + ch.length ≤ (R.getD j rspD).out.l.length) (ZF : List (Int × Int))
    (h0 : Q (.exit 0) ⟨[(2, .t (.sl (encN tRsp R) rc rn)), (3, .t t3), (6, .lp 6 0 0), (10, .t (tI d)), (11, .t (tI o)), (12, .lm 46), (47, .t (.sl (enc1 tSl ch) cc cn)), (48, .t (tI ch.length)), (49, .t (tI ch.length)), (50, .t (tB false))], [(6, nil2), (46, .mp (mpE tK ZF))]⟩) :
    ∀ (rest : List (Sl Int)) (k : Nat) (Z : List (Int × Int)), k + rest.length = ch.length → ch.drop k = rest → (elems rest).Nodup → (∀ x ∈ elems rest, x ∉ Z.map (·.1)) → Z ++ colM R d o k rest = ZF →
    run Tryd.prog Γ shifts_Collect_l3 Q ⟨[(2, .t (.sl (encN tRsp R) rc rn)), (3, .t t3), (6, .lp 6 0 0), (10, .t (tI d)), (11, .t (tI o)), (12, .lm 46), (47, .t (.sl (enc1 tSl ch) cc cn)), (48, .t (tI ch.length)), (49, .t (tI k))], [(6, nil2), (46, .mp (mpE tK Z))]⟩
  | [], k, Z, h, hdr, hnd, hZ, hF => by
    refine shifts_Collect_l3_run fun K hK => ?_
    have h2 : k = ch.length := by simpa using h
    subst h2
    have hF : Z = ZF := by simpa [colM] using hF
    subst hF
    simp
    simpa using h0
  | s :: rest, k, Z, h, hdr, hnd, hZ, hF => by
    refine shifts_Collect_l3_run fun K hK => ?_
    simp only [List.length_cons] at h
    have h2 : k < ch.length := by omega
    rw [List.drop_eq_getElem_cons h2, List.cons.injEq] at hdr
    rw [elems_cons, List.nodup_append] at hnd
    have hsm : s ∈ ch := by rw [← hdr.1]; exact List.getElem_mem _
    have e1 := gE (f := tSl) slD h2
    have e1' := gE' (f := tSl) slD h2
    rw [show ch.getD k slD = s by rw [← hdr.1]; simp [List.getD_eq_getElem?_getD, h2]] at e1 e1'
    have g1 := fun Q h0 => col_l1 (Γ := Γ) (Q := Q) R rc rn d o k ch.length k t3 (.sl (enc1 tSl ch) cc cn) s Z hd (by omega) hR (hs s hsm) hnd.1 (fun x hx => hZ x (by rw [elems_cons]; exact List.mem_append_left _ hx)) (fun j hj => by have := hO j hj; omega) h0 s.l.length 0 (by omega)
    have ih := col_l3 R rc rn d o t3 ch cc cn hd ho hR hs hO ZF h0 rest (k + 1) (Z ++ colC R d o k s.l) (by omega) hdr.2 hnd.2.1 (fun x hx hm => by
      rw [List.map_append, List.mem_append, colC_key, List.mem_reverse] at hm
      rcases hm with hm | hm
      · exact hZ x (by rw [elems_cons]; exact List.mem_append_right _ hx) hm
      · exact hnd.2.2 x hm x hx rfl) (by rw [← hF, List.append_assoc]; rfl)
    have w1 : IntKind.i64.wrap ((k : Int) + 1) = (k : Int) + 1 := by rw [wrap_i64] <;> omega
    simp only [tSl] at e1 e1'
    simp [tSl] at g1
    simp [h2, enc1_len, enc1_wid, e1, e1']
    refine g1 _ ?_
    simp [w1]
    rw [hK]
    simpa using ih

theorem col_l5 {Q : AX → St → Prop} (st : List Int) (sc : Option Nat) (sn : Option Bool) (hst : st.length ≤ 1000000) (ZF : List (Int × Int)) (oT : T) (ho : oT.one = true)
    (h0 : Q (.exit 4) ⟨[(6, .lp 6 0 0), (12, .lm 46), (16, .lp 16 0 0), (94, .t (.sl (ints st) sc sn)), (95, .t (tI st.length)), (96, .t (tI st.length)), (97, .t (tB false))], [(6, nil2), (16, .bx [.t oT, .ls 106 0 st.length none]), (46, .mp (mpE tK ZF)), (106, .sl 51 1 (vals (st.map fun n => mpOf 0 n ZF)))]⟩) :
    ∀ (k i : Nat), k + i = st.length →
    run Tryd.prog Γ shifts_Collect_l5 Q ⟨[(6, .lp 6 0 0), (12, .lm 46), (16, .lp 16 0 0), (94, .t (.sl (ints st) sc sn)), (95, .t (tI st.length)), (96, .t (tI i))], [(6, nil2), (16, .bx [.t oT, .ls 106 0 i none]), (46, .mp (mpE tK ZF)), (106, .sl 51 1 (vals ((st.take i).map fun n => mpOf 0 n ZF)))]⟩
  | 0, i, h => by
    refine shifts_Collect_l5_run fun K hK => ?_
    have h2 : i = st.length := by omega
    subst h2
    rw [List.take_length]
    simp
    simpa using h0
  | k + 1, i, h => by
    refine shifts_Collect_l5_run fun K hK => ?_
    have h2 : i < st.length := by omega
    have ih := col_l5 st sc sn hst ZF oT ho h0 k (i + 1) (by omega)
    rw [← List.take_append_getElem h2, List.map_append, List.map_cons, List.map_nil] at ih
    have e1 := gE (f := tI) 0 h2
    have e1' := gE' (f := tI) 0 h2
    rw [getD_eq h2] at e1 e1'
    generalize st[i] = x at *
    have hln : ((st.take i).map fun n => mpOf 0 n ZF).length = i := by simp; omega
    have hsn := vals_snoc (l := (st.take i).map fun n => mpOf 0 n ZF) (v := mpOf 0 x ZF)
    generalize (st.take i).map (fun n => mpOf 0 n ZF) = row at *
    have em := mpE_find (f := tK) 0 x ZF
    have ef := mpE_fit (f := tK) ZF
    generalize mpE tK ZF = M at *
    generalize mpOf 0 x ZF = v at *
    have htk : (vals row).take i = vals row := by rw [← hln]; exact vals_take
    have w1 : IntKind.i64.wrap ((i : Int) + 1) = (i : Int) + 1 := by rw [wrap_i64] <;> omega
    simp [h2, enc1_len, enc1_wid, e1, e1', em, ef, KT.fits, htk, hsn, hln, w1, ho]
    refine ⟨by omega, ?_⟩
    rw [hK]
    simpa using ih
end Go.Lg
