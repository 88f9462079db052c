/- The functions of the gates over 0, 1, X and Z. Conditions: none. -/
import Derived.Test.YtgnomdkcimglbaaGreatDoorPkD
import Derived.Test.YtgnomdkcimglbaaGreatDoorPkC
import Derived.Test.YtgnomdkcimglbaaGreatDoorProg
import Derived.KernelRfl
set_option linter.unusedSimpArgs false
set_option linter.unusedVariables false
set_option maxRecDepth 100000
namespace Go.Lg
open Go Go.Proofs
def B8 (v : Int) : Int := if v < 2 then v else 2
def Uf (v : Int) : Int := if 3 < v then 2 else v
def q79 (v : Int) : Bool := decide (v ≤ 1)
def q0r (v : Int) : Int := if v ≤ 1 then 1 - v else 2
def Oi (low high : Int) : Int → List Int → Int
  | out, [] => out
  | out, v :: l => if v = low then low else if v ≠ high then Oi low high 2 l else Oi low high out l
def qHK (a b : Int) : Int := if a = b then 0 else 1
def q3T : Int → List Int → Int
  | out, [] => out
  | out, v :: l => if v ≤ 1 then q3T (qHK out v) l else 2
def qAL (s a b : Int) : Int := if s = 0 then B8 a else if s = 1 then B8 b else if a = b then B8 a else 2
def qBo (e d : Int) : Int := if e = 0 then 3 else if e = 1 then B8 d else 2
def q7A (l : List Int) : Bool := l.contains 0 && l.contains 1
def qG5 (v : Int) : Bool := decide (Uf v = 2)
def qHL (v : Int) : Bool := decide (v ≠ 3)
def q9P (l : List Int) : Int := match l.findIdx? qHL with
  | none => 3
  | some i => if q7A l = true ∨ l.any qG5 = true then 2 else l.getD i 0
def Fz (k : Int) (l : List Int) : Int :=
  if k = 1 then 0 else if k = 2 then 1 else if k = 3 then B8 (l.getD 0 0) else if k = 4 then q0r (l.getD 0 0) else
  if k = 5 then Oi 0 1 1 l else if k = 6 then q0r (Oi 0 1 1 l) else if k = 7 then Oi 1 0 0 l else if k = 8 then q0r (Oi 1 0 0 l) else
  if k = 9 then q3T 0 l else if k = 10 then q0r (q3T 0 l) else if k = 11 then qAL (l.getD 0 0) (l.getD 1 0) (l.getD 2 0) else
  if k = 12 then qBo (l.getD 0 0) (l.getD 1 0) else if k = 13 then q9P l else 2
def q5Z (k : Int) (n : Nat) : Bool := decide ((n : Int) < (Uz k).1 ∨ (Uz k).2 < (n : Int))
def Tt (k : Int) (l : List Int) : Int := if q5Z k l.length = true then 2 else Fz k l
theorem qG6 (R : Int → Int → Prop) {k : Int} {l m : List Int} (h1 : k = 1 → R (0) (0)) (h2 : k = 2 → R (1) (1)) (h3 : k = 3 → R (B8 (l.getD 0 0)) (B8 (m.getD 0 0))) (h4 : k = 4 → R (q0r (l.getD 0 0)) (q0r (m.getD 0 0))) (h5 : k = 5 → R (Oi 0 1 1 l) (Oi 0 1 1 m)) (h6 : k = 6 → R (q0r (Oi 0 1 1 l)) (q0r (Oi 0 1 1 m))) (h7 : k = 7 → R (Oi 1 0 0 l) (Oi 1 0 0 m)) (h8 : k = 8 → R (q0r (Oi 1 0 0 l)) (q0r (Oi 1 0 0 m))) (h9 : k = 9 → R (q3T 0 l) (q3T 0 m)) (h10 : k = 10 → R (q0r (q3T 0 l)) (q0r (q3T 0 m))) (h11 : k = 11 → R (qAL (l.getD 0 0) (l.getD 1 0) (l.getD 2 0)) (qAL (m.getD 0 0) (m.getD 1 0) (m.getD 2 0))) (h12 : k = 12 → R (qBo (l.getD 0 0) (l.getD 1 0)) (qBo (m.getD 0 0) (m.getD 1 0))) (h13 : k = 13 → R (q9P l) (q9P m)) (h0 : k < 1 ∨ 13 < k → R 2 2) : R (Fz k l) (Fz k m) := by
  by_cases e1 : k = 1
  · subst e1; exact h1 rfl
  by_cases e2 : k = 2
  · subst e2; exact h2 rfl
  by_cases e3 : k = 3
  · subst e3; exact h3 rfl
  by_cases e4 : k = 4
  · subst e4; exact h4 rfl
  by_cases e5 : k = 5
  · subst e5; exact h5 rfl
  by_cases e6 : k = 6
  · subst e6; exact h6 rfl
  by_cases e7 : k = 7
  · subst e7; exact h7 rfl
  by_cases e8 : k = 8
  · subst e8; exact h8 rfl
  by_cases e9 : k = 9
  · subst e9; exact h9 rfl
  by_cases e10 : k = 10
  · subst e10; exact h10 rfl
  by_cases e11 : k = 11
  · subst e11; exact h11 rfl
  by_cases e12 : k = 12
  · subst e12; exact h12 rfl
  by_cases e13 : k = 13
  · subst e13; exact h13 rfl
  unfold Fz
  rw [if_neg e1, if_neg e2, if_neg e3, if_neg e4, if_neg e5, if_neg e6, if_neg e7, if_neg e8, if_neg e9, if_neg e10, if_neg e11, if_neg e12, if_neg e13]
  rw [if_neg e1, if_neg e2, if_neg e3, if_neg e4, if_neg e5, if_neg e6, if_neg e7, if_neg e8, if_neg e9, if_neg e10, if_neg e11, if_neg e12, if_neg e13]
  exact h0 (by omega)
def V4 (v : Int) : Prop := 0 ≤ v ∧ v ≤ 3
theorem q1w {v : Int} (h : V4 v) : V4 (B8 v) := by unfold B8 V4 at *; split <;> omega
theorem qBp {v : Int} (h : V4 v) : V4 (q0r v) := by unfold q0r V4 at *; split <;> omega
theorem q1G {low high : Int} : ∀ {l : List Int} {out : Int}, out = 2 ∨ out = high → Oi low high out l = if low ∈ l then low else if out = high ∧ ∀ v ∈ l, v = high then high else 2
  | [], out, h => by
    simp only [Oi, List.not_mem_nil, if_false]
    by_cases ho : out = high
    · simp [ho]
    · simp [ho]; omega
  | v :: l, out, h => by
    simp only [Oi]
    by_cases h1 : v = low
    · subst h1; simp
    have h1' : ¬ low = v := fun e => h1 e.symm
    by_cases h2 : v = high
    · subst h2
      rw [if_neg h1, if_neg (by simp), q1G h]
      simp [h1']
    · rw [if_neg h1, if_pos h2, q1G (.inl rfl)]
      by_cases hl : low ∈ l
      · simp [hl]
      · have : ¬ (out = high ∧ ∀ u ∈ v :: l, u = high) := fun ⟨_, h⟩ => h2 (h v List.mem_cons_self)
        have hlv : ¬ low ∈ v :: l := by simp [h1', hl]
        rw [if_neg hl, if_neg hlv, if_neg this]
        split
        · rename_i h3; exact h3.1.symm
        · rfl
theorem qEL : ∀ {l : List Int} {out : Int}, V4 out → (∀ v ∈ l, V4 v) → V4 (q3T out l)
  | [], out, h, _ => h
  | v :: l, out, h, hl => by
    simp only [q3T]
    split
    · exact qEL (by unfold qHK; split <;> simp [V4]) fun u hu => hl u (List.mem_cons_of_mem _ hu)
    · simp [V4]
theorem q5a {l : List Int} (h : ∀ v ∈ l, V4 v) (i : Nat) : V4 (l.getD i 0) := by
  rw [List.getD_eq_getElem?_getD]
  by_cases hi : i < l.length
  · rw [List.getElem?_eq_getElem hi]; exact h _ (List.getElem_mem hi)
  · rw [List.getElem?_eq_none (Nat.le_of_not_lt hi)]; simp [V4]
theorem qF1 {k : Int} {l : List Int} (h : ∀ v ∈ l, V4 v) : V4 (Tt k l) := by
  have g := q5a h
  have d1 : V4 (Oi 0 1 1 l) := by rw [q1G (.inr rfl)]; split; simp [V4]; split <;> simp [V4]
  have d2 : V4 (Oi 1 0 0 l) := by rw [q1G (.inr rfl)]; split; simp [V4]; split <;> simp [V4]
  have x := qEL (out := 0) (by simp [V4]) h
  unfold Tt
  by_cases hw : q5Z k l.length = true
  · rw [if_pos hw]; simp [V4]
  rw [if_neg hw]
  refine qG6 (fun a _ => V4 a) (l := l) (m := l) (fun _ => by simp [V4]) (fun _ => by simp [V4]) (fun _ => q1w (g 0)) (fun _ => qBp (g 0)) (fun _ => d1) (fun _ => qBp d1) (fun _ => d2) (fun _ => qBp d2) (fun _ => x) (fun _ => qBp x) (fun _ => ?_) (fun _ => ?_) (fun _ => ?_) (fun _ => by simp [V4])
  · unfold qAL; split
    · exact q1w (g 1)
    split
    · exact q1w (g 2)
    split
    · exact q1w (g 1)
    · simp [V4]
  · unfold qBo; split
    · simp [V4]
    split
    · exact q1w (g 1)
    · simp [V4]
  · unfold q9P; split
    · simp [V4]
    split
    · simp [V4]
    · exact g _
def Blw (a b : Int) : Prop := a = b ∨ a = 2
def qG7 (l m : List Int) : Prop := l.length = m.length ∧ ∀ i, Blw (l.getD i 0) (m.getD i 0)
theorem Blw.refl (a : Int) : Blw a a := .inl rfl
theorem qG7.cons {a b : Int} {l m : List Int} (h : qG7 (a :: l) (b :: m)) : Blw a b ∧ qG7 l m :=
  ⟨by simpa using h.2 0, by simpa using h.1, fun i => by simpa using h.2 (i + 1)⟩
theorem qG7.eq : ∀ {l m : List Int}, qG7 l m → (2 : Int) ∉ l → l = m
  | [], [], _, _ => rfl
  | [], _ :: _, h, _ => by have := h.1; simp at this
  | _ :: _, [], h, _ => by have := h.1; simp at this
  | a :: l, b :: m, h, h2 => by
    obtain ⟨hab, hlm⟩ := h.cons
    rcases hab with rfl | rfl
    · rw [qG7.eq hlm fun hm => h2 (List.mem_cons_of_mem _ hm)]
    · exact absurd List.mem_cons_self h2
def Ug (i : Nat) (r : O8) : Nat := r.countP fun p => decide (p.1 = (i : Int))
theorem qHM {i : Nat} {r q : O8} : Ug i (r ++ q) = Ug i r + Ug i q := by simp [Ug]
theorem qEM {rows : List O8} {n m i : Nat} {p : Int × Int} (hn : n < rows.length) : Ug i ((I6 rows n p).getD m []) = Ug i (rows.getD m []) + if m = n ∧ p.1 = (i : Int) then 1 else 0 := by
  unfold I6
  simp only [List.getD_eq_getElem?_getD, List.getElem?_set]
  by_cases h : n = m
  · subst h
    simp only [hn, if_true, Option.getD_some, qHM, true_and]
    congr 1
    by_cases h2 : p.1 = (i : Int) <;> simp [Ug, h2]
  · have h' : ¬ m = n := fun e => h e.symm
    simp [h, h']
theorem q7p (c : B9) (j i m : Nat) : ∀ (l : List Int) (k : Nat) (rows : List O8), rows.length = c.nodes.l.length → (∀ p ∈ l, 0 ≤ p ∧ p < c.nodes.l.length) → (Kr c j l k rows).length = c.nodes.l.length ∧ Ug i ((Kr c j l k rows).getD m []) = Ug i (rows.getD m []) + if j = i then l.count (m : Int) else 0
  | [], k, rows, hl, _ => ⟨hl, by simp [Kr]⟩
  | n :: l, k, rows, hl, hp => by
    have hn := hp n List.mem_cons_self
    have ho : Oh c n = false := by simp [Oh]; omega
    simp only [Kr, ho, Bool.false_eq_true, if_false]
    obtain ⟨h1, h2⟩ := q7p c j i m l (k + 1) (I6 rows n.toNat (j, k)) (by rw [q5P]; exact hl) (fun p h => hp p (List.mem_cons_of_mem _ h))
    refine ⟨h1, ?_⟩
    rw [h2, qEM (by omega)]
    by_cases hji : j = i
    · subst hji
      simp only [and_true, if_true, List.count_cons]
      by_cases hm : (m : Int) = n
      · have h5 : m = n.toNat := by omega
        have h6 : (n == (m : Int)) = true := by rw [hm]; simp
        rw [if_pos h5, h6]
        simp only [if_true]; omega
      · have h5 : ¬ m = n.toNat := by omega
        have h6 : (n == (m : Int)) = false := by simp; omega
        rw [if_neg h5, h6]
        simp only [Bool.false_eq_true, if_false]; omega
    · have : ¬ ((j : Int) = i) := by omega
      simp [hji, this]
theorem q6I (c : B9) (i m : Nat) : ∀ (l : List Nd) (s : Nat) (rows : List O8), rows.length = c.nodes.l.length → (∀ x ∈ l, ∀ p ∈ x.inn.l, 0 ≤ p ∧ p < c.nodes.l.length) →
    Ug i ((H4 c l s rows).getD m []) = Ug i (rows.getD m []) + if s ≤ i then ((l.map fun x => x.inn.l.count (m : Int)).getD (i - s) 0) else 0
  | [], s, rows, hl, _ => by simp [H4]
  | x :: l, s, rows, hl, hp => by
    obtain ⟨h1, h2⟩ := q7p c s i m x.inn.l 0 rows hl (hp x List.mem_cons_self)
    simp only [H4]
    rw [q6I c i m l (s + 1) _ h1 (fun y hy => hp y (List.mem_cons_of_mem _ hy)), h2]
    by_cases hsi : s = i
    · subst hsi
      have : ¬ s + 1 ≤ s := by omega
      simp [this]
    · by_cases hlt : s ≤ i
      · have e : i - s = (i - (s + 1)) + 1 := by omega
        have h3 : s + 1 ≤ i := by omega
        simp [hsi, hlt, h3, e]
      · have h3 : ¬ s + 1 ≤ i := by omega
        simp [hsi, hlt, h3]
def E0 (c : B9) (i : Nat) : List Int := (c.nodes.l.getD i Nd.d).inn.l
theorem q7B (c : B9) (hp : ∀ x ∈ c.nodes.l, ∀ p ∈ x.inn.l, 0 ≤ p ∧ p < c.nodes.l.length) (i m : Nat) (hi : i < c.nodes.l.length) : Ug i (Gs c m) = (E0 c i).count (m : Int) := by
  unfold Gs F2
  rw [q6I c i m c.nodes.l 0 _ (by simp) hp]
  have h0 : Ug i ((List.replicate c.nodes.l.length ([] : O8)).getD m []) = 0 := by
    simp only [List.getD_eq_getElem?_getD, List.getElem?_replicate]
    split <;> rfl
  rw [h0]
  simp [E0, hi]
theorem qF2 (c : B9) {i : Nat} (hi : i < c.nodes.l.length) : (c.nodes.l.map Dt).getD i 0 = if E3 (Aq c i) then ((E0 c i).length : Int) else 0 := by
  simp [Aq, E0, Dt, hi]
theorem q7C {N M : Nat} {c : B9} {n : Nat} : ∀ {r : O8} {s : LS}, s.left.length = N → (∀ p ∈ r, ∃ i : Nat, i < N ∧ p.1 = i) → (∀ i : Nat, i < N → s.left.getD i 0 ≤ 0 → (i : Int) ∈ s.rdy) →
    (∃ e, (r.foldl (E4 c n) s).rdy = s.rdy ++ e) ∧ (r.foldl (E4 c n) s).left.length = N ∧ (∀ i : Nat, i < N → (r.foldl (E4 c n) s).left.getD i 0 = s.left.getD i 0 - if E3 (Aq c i) then (Ug i r : Int) else 0) ∧ (∀ i : Nat, i < N → (r.foldl (E4 c n) s).left.getD i 0 ≤ 0 → (i : Int) ∈ (r.foldl (E4 c n) s).rdy)
  | [], s, hl, _, hb => ⟨⟨[], by simp⟩, hl, fun i hi => by simp [Ug], hb⟩
  | (p1, p2) :: r, s, hl, hr, hb => by
    obtain ⟨j, hj, he⟩ := hr (p1, p2) List.mem_cons_self
    simp only at he; subst he
    have key : (∃ e, (E4 c n s (j, p2)).rdy = s.rdy ++ e) ∧ (E4 c n s (j, p2)).left.length = N ∧ (∀ i : Nat, i < N → (E4 c n s (j, p2)).left.getD i 0 = s.left.getD i 0 - if E3 (Aq c i) then (if j = i then 1 else 0 : Int) else 0) ∧ (∀ i : Nat, i < N → (E4 c n s (j, p2)).left.getD i 0 ≤ 0 → (i : Int) ∈ (E4 c n s (j, p2)).rdy) := by
      unfold E4
      simp only [Int.toNat_natCast]
      by_cases hc : E3 (Aq c j) = true
      · simp only [hc, if_true]
        refine ⟨?_, by simp [hl], fun i hi => ?_, fun i hi h0 => ?_⟩
        · split
          · exact ⟨_, rfl⟩
          · exact ⟨[], by simp⟩
        · rw [I8 (by omega)]
          by_cases hij : i = j
          · subst hij; simp [hc]
          · have : ¬ j = i := fun e => hij e.symm
            simp [hij, this]
        · rw [I8 (by omega)] at h0
          by_cases hij : i = j
          · subst hij
            simp only [if_true] at h0
            by_cases h1 : s.left.getD i 0 - 1 = 0
            · rw [if_pos h1]; simp
            · rw [if_neg h1]
              exact hb i hi (by omega)
          · simp only [hij, if_false] at h0
            have := hb i hi h0
            split
            · exact List.mem_append_left _ this
            · exact this
      · simp only [hc]
        refine ⟨⟨[], by simp⟩, hl, fun i hi => ?_, hb⟩
        by_cases hij : j = i
        · subst hij; simp [hc]
        · simp [hij]
    obtain ⟨⟨e1, h1⟩, h2, h3, h4⟩ := key
    obtain ⟨⟨e2, g1⟩, g2, g3, g4⟩ := q7C (M := M) (n := n) (r := r) h2 (fun q hq => hr q (List.mem_cons_of_mem _ hq)) h4
    simp only [List.foldl_cons]
    refine ⟨⟨e1 ++ e2, by rw [g1, h1, List.append_assoc]⟩, g2, fun i hi => ?_, g4⟩
    rw [g3 i hi, h3 i hi]
    by_cases hc : E3 (Aq c i) = true
    · simp only [hc, if_true]
      have : Ug i ((↑j, p2) :: r) = Ug i r + if j = i then 1 else 0 := by
        by_cases hij : j = i
        · subst hij; simp [Ug]
        · have : ¬ ((j : Int) = i) := by omega
          simp [Ug, hij, this]
      rw [this]
      split <;> omega
    · simp [hc]
structure JI (c : B9) (d : Nat) (s : LS) : Prop where
  li : ∃ M, LI c.nodes.l.length M s
  le : d ≤ s.rdy.length
  a : ∀ i : Nat, i < c.nodes.l.length → s.left.getD i 0 = (c.nodes.l.map Dt).getD i 0 - if E3 (Aq c i) then (((s.rdy.take d).map fun x => (E0 c i).count x).sum : Int) else 0
  b : ∀ i : Nat, i < c.nodes.l.length → s.left.getD i 0 ≤ 0 → (i : Int) ∈ s.rdy
theorem JI.next {c : B9} (hp : ∀ x ∈ c.nodes.l, ∀ p ∈ x.inn.l, 0 ≤ p ∧ p < c.nodes.l.length) {d : Nat} {s : LS} (h : JI c d s) (hd : d < s.rdy.length) : JI c (d + 1) ((Gs c (s.rdy.getD d 0).toNat).foldl (E4 c (s.rdy.getD d 0).toNat) s) := by
  obtain ⟨M, hli⟩ := h.li
  have hg : s.rdy.getD d 0 = s.rdy[d] := by simp [hd]
  rw [hg]
  obtain ⟨n, hn, he, _⟩ := hli.rd _ (List.getElem_mem hd)
  rw [he]
  simp only [Int.toNat_natCast]
  have hr : ∀ p ∈ Gs c n, ∃ i : Nat, i < c.nodes.l.length ∧ p.1 = i := by
    intro p hpp
    have hl := q0C c
    have e : Gs c n = (F2 c)[n]'(by omega) := by simp [Gs, List.getD, List.getElem?_eq_getElem (show n < (F2 c).length by omega)]
    rw [e] at hpp
    exact q5R c _ (List.getElem_mem _) p hpp
  obtain ⟨⟨e, h1⟩, h2, h3, h4⟩ := q7C (M := M) (c := c) (n := n) (r := Gs c n) hli.ll hr h.b
  refine ⟨⟨_, hli.fold hr⟩, by rw [h1]; simp; omega, fun i hi => ?_, h4⟩
  rw [h3 i hi, h.a i hi, h1]
  by_cases hc : E3 (Aq c i) = true
  · simp only [hc, if_true]
    have ht : (s.rdy ++ e).take (d + 1) = s.rdy.take d ++ [(n : Int)] := by
      rw [List.take_append_of_le_length (by omega), List.take_add_one, List.getElem?_eq_getElem hd, he]
      rfl
    rw [ht, q7B c hp i n hi]
    simp
    omega
  · simp [hc]
theorem q9Q {c : B9} (hp : ∀ x ∈ c.nodes.l, ∀ p ∈ x.inn.l, 0 ≤ p ∧ p < c.nodes.l.length) : ∀ (f d : Nat) (s : LS), JI c d s → c.nodes.l.length < f + d → JI c (Nk c f d s).1 (Nk c f d s).2 ∧ (Nk c f d s).2.rdy.length ≤ (Nk c f d s).1
  | 0, d, s, h, hf => by
    obtain ⟨M, hli⟩ := h.li
    have := hli.len
    exact ⟨h, by simp only [Nk]; omega⟩
  | f + 1, d, s, h, hf => by
    simp only [Nk]
    split
    · rename_i hd
      exact q9Q hp f (d + 1) _ (h.next hp hd) (by omega)
    · exact ⟨h, by simp only; omega⟩
theorem qAx : ∀ (L R : List Int), (∀ p ∈ L, p ∈ R) → L.length ≤ (R.map fun x => L.count x).sum
  | [], R, _ => by simp
  | p :: L, R, h => by
    have ih := qAx L R fun q hq => h q (List.mem_cons_of_mem _ hq)
    have hpR := h p List.mem_cons_self
    have key : ∀ R : List Int, (R.map fun x => (p :: L).count x).sum = (R.map fun x => L.count x).sum + R.count p := by
      intro R
      induction R with
      | nil => rfl
      | cons a R ihR =>
        simp only [List.map_cons, List.sum_cons]
        rw [ihR, List.count_cons, List.count_cons]
        by_cases hpa : p = a
        · subst hpa; simp only [BEq.rfl, if_true]; omega
        · have h1 : (p == a) = false := by simpa using hpa
          have h2 : (a == p) = false := by simpa using fun e => hpa e.symm
          rw [h1, h2]; simp only [Bool.false_eq_true, if_false]; omega
    rw [key]
    have := List.count_pos_iff.2 hpR
    simp only [List.length_cons]; omega
theorem q3U : ∀ (l : List Nd) (s i : Nat), s ≤ i → i < s + l.length → (l.map Dt).getD (i - s) 0 ≤ 0 → (i : Int) ∈ Du l s
  | [], s, i, h1, h2, _ => by simp at h2; omega
  | x :: l, s, i, h1, h2, h3 => by
    simp only [List.length_cons] at h2
    by_cases hsi : i = s
    · subst hsi
      simp only [Nat.sub_self, List.map_cons, List.getD_cons_zero] at h3
      have h4 : 0 ≤ Dt x := by unfold Dt; split <;> omega
      have h5 : Dt x = 0 := by omega
      simp [Du, h5]
    · have e : i - s = (i - (s + 1)) + 1 := by omega
      rw [e, List.map_cons, List.getD_cons_succ] at h3
      have := q3U l (s + 1) i (by omega) (by omega) h3
      simp only [Du]
      split
      · exact List.mem_cons_of_mem _ this
      · exact this
theorem q7q (c : B9) (h16 : ∀ x ∈ c.nodes.l, x.inn.l.length ≤ 16) (hp : ∀ x ∈ c.nodes.l, ∀ p ∈ x.inn.l, 0 ≤ p ∧ p < c.nodes.l.length) (ht : ∀ i : Nat, i < c.nodes.l.length → E3 (Aq c i) = true → ∀ p ∈ E0 c i, p < i) : ¬ (Ph c).1 < c.nodes.l.length := by
  have h0 : JI c 0 (I7 c) := by
    refine ⟨⟨0, ?_⟩, by simp, fun i hi => ?_, fun i hi h => ?_⟩
    · obtain ⟨r1, r2⟩ := q5S c.nodes.l 0
      refine ⟨by simp [I7], by simp [I7], ?_, r2, fun i => ?_, fun i => ?_⟩
      · intro j hj
        obtain ⟨a, _, h2, h3, h4⟩ := r1 j hj
        exact ⟨a, by omega, h3, by simp only [I7]; simp only [Nat.sub_zero] at h4; omega⟩
      · simp only [I7, List.getD_eq_getElem?_getD, List.getElem?_replicate]
        split <;> simp
      · simp only [I7]
        by_cases hi : i < c.nodes.l.length
        · have := h16 _ (List.getElem_mem hi)
          simp [hi, Dt]
          split <;> omega
        · simp [hi]
    · simp [I7]
    · simp only [I7] at h
      exact q3U c.nodes.l 0 i (by omega) (by omega) (by simpa using h)
  obtain ⟨hJ, hle⟩ := q9Q hp (c.nodes.l.length + 1) 0 (I7 c) h0 (by omega)
  show ¬ (Nk c (c.nodes.l.length + 1) 0 (I7 c)).1 < c.nodes.l.length
  generalize (Nk c (c.nodes.l.length + 1) 0 (I7 c)).1 = d at *
  generalize (Nk c (c.nodes.l.length + 1) 0 (I7 c)).2 = s at *
  have all : ∀ i : Nat, i < c.nodes.l.length → (i : Int) ∈ s.rdy := by
    intro i
    induction i using Nat.strongRecOn with
    | ind i ih =>
      intro hi
      refine hJ.b i hi ?_
      rw [hJ.a i hi, qF2 c hi]
      by_cases hc : E3 (Aq c i) = true
      · simp only [hc, if_true]
        rw [List.take_of_length_le hle]
        have hm : E0 c i ∈ c.nodes.l.map fun x => x.inn.l := by
          simp only [E0, List.getD_eq_getElem?_getD, List.getElem?_eq_getElem hi, Option.getD_some]
          exact List.mem_map_of_mem (List.getElem_mem hi)
        obtain ⟨y, hy, hye⟩ := List.mem_map.1 hm
        have := qAx (E0 c i) s.rdy fun p hpp => by
          have h1 := ht i hi hc p hpp
          have h2 := (hp y hy p (by rw [hye]; exact hpp)).1
          obtain ⟨j, rfl⟩ : ∃ j : Nat, p = j := ⟨p.toNat, by omega⟩
          exact ih j (by omega) (by omega)
        omega
      · simp [hc]
  have hnd : ((List.range c.nodes.l.length).map fun i : Nat => (i : Int)).Nodup := by
    rw [List.nodup_iff_pairwise_ne, List.pairwise_map]
    exact (List.nodup_iff_pairwise_ne.1 List.nodup_range).imp fun h e => h (by omega)
  have hsub : ((List.range c.nodes.l.length).map fun i : Nat => (i : Int)) ⊆ s.rdy := by
    intro x hx
    obtain ⟨i, hi, rfl⟩ := List.mem_map.1 hx
    exact all i (List.mem_range.1 hi)
  have := List.Nodup.length_le_of_subset hnd hsub
  simp at this
  omega
theorem q3V (p : Int) (L : List Int) : ∀ R : List Int, (R.map fun x => (p :: L).count x).sum = (R.map fun x => L.count x).sum + R.count p
  | [] => rfl
  | a :: R => by
    simp only [List.map_cons, List.sum_cons]
    rw [q3V p L R, List.count_cons, List.count_cons]
    by_cases hpa : p = a
    · subst hpa; simp only [BEq.rfl, if_true]; omega
    · have h1 : (p == a) = false := by simpa using hpa
      have h2 : (a == p) = false := by simpa using fun e => hpa e.symm
      rw [h1, h2]; simp only [Bool.false_eq_true, if_false]; omega
theorem q6J : ∀ (L R : List Int), R.Nodup → (R.map fun x => L.count x).sum ≤ L.length
  | [], R, _ => by
    have : ∀ R : List Int, (R.map fun x => ([] : List Int).count x).sum = 0 := by
      intro R
      induction R with
      | nil => rfl
      | cons a R ih => rw [List.map_cons, List.sum_cons, ih, List.count_nil]
    rw [this]; omega
  | p :: L, R, h => by
    have ih := q6J L R h
    have h1 := List.nodup_iff_count.1 h p
    rw [q3V]
    simp only [List.length_cons]; omega
theorem qHN {N n : Nat} {c : B9} : ∀ {r : O8} {s : LS}, s.out.length = N → s.left.length = N → (∀ p ∈ r, ∃ i : Nat, i < N ∧ p.1 = i) → (∀ i : Nat, i < N → E3 (Aq c i) = true → (Ug i r : Int) ≤ s.left.getD i 0) → s.left.getD n 0 ≤ 0 →
    (∀ i : Nat, i < N → s.left.getD i 0 ≤ 0 → (r.foldl (E4 c n) s).out.getD i 0 = s.out.getD i 0) ∧ (∀ i : Nat, i < N → s.out.getD i 0 ≤ (r.foldl (E4 c n) s).out.getD i 0) ∧ (∀ i : Nat, i < N → E3 (Aq c i) = true → 0 < Ug i r → s.out.getD n 0 + 1 ≤ (r.foldl (E4 c n) s).out.getD i 0)
  | [], s, ho, hl, _, _, _ => ⟨fun _ _ _ => rfl, fun _ _ => Int.le_refl _, fun i _ _ h => by simp [Ug] at h⟩
  | (p1, p2) :: r, s, ho, hl, hr, hc, hn => by
    obtain ⟨j, hj, he⟩ := hr (p1, p2) List.mem_cons_self
    simp only at he; subst he
    have cnt : ∀ i : Nat, Ug i ((↑j, p2) :: r) = Ug i r + if j = i then 1 else 0 := fun i => by
      by_cases hij : j = i
      · subst hij; simp [Ug]
      · have : ¬ ((j : Int) = i) := by omega
        simp [Ug, hij, this]
    simp only [List.foldl_cons]
    by_cases hcj : E3 (Aq c j) = true
    case neg =>
      have hs : E4 c n s (↑j, p2) = s := by unfold E4; simp [hcj]
      rw [hs]
      obtain ⟨a1, a2, a3⟩ := qHN (n := n) (c := c) (r := r) ho hl (fun p hp => hr p (List.mem_cons_of_mem _ hp)) (fun i hi hci => by have := hc i hi hci; rw [cnt] at this; omega) hn
      refine ⟨a1, a2, fun i hi hci h => a3 i hi hci ?_⟩
      rw [cnt] at h
      have : ¬ j = i := fun e => hcj (e ▸ hci)
      simpa [this] using h
    have hj1 := hc j hj hcj
    rw [cnt, if_pos rfl] at hj1
    have hnj : ¬ n = j := fun e => by subst e; omega
    have so : ∀ i : Nat, (E4 c n s (↑j, p2)).out.getD i 0 = if i = j then max (s.out.getD j 0) (s.out.getD n 0 + 1) else s.out.getD i 0 := fun i => by
      unfold E4
      simp only [Int.toNat_natCast, hcj, if_true]
      rw [I8 (by omega)]
    have sl : ∀ i : Nat, (E4 c n s (↑j, p2)).left.getD i 0 = if i = j then s.left.getD j 0 - 1 else s.left.getD i 0 := fun i => by
      unfold E4
      simp only [Int.toNat_natCast, hcj, if_true]
      rw [I8 (by omega)]
    have lo : (E4 c n s (↑j, p2)).out.length = N := by unfold E4; simp [hcj, ho]
    have ll : (E4 c n s (↑j, p2)).left.length = N := by unfold E4; simp [hcj, hl]
    obtain ⟨a1, a2, a3⟩ := qHN (n := n) (c := c) (r := r) lo ll (fun p hp => hr p (List.mem_cons_of_mem _ hp)) (fun i hi hci => by
      have := hc i hi hci
      rw [cnt] at this
      rw [sl]
      by_cases hij : i = j
      · subst hij; simp only [if_true] at this ⊢; omega
      · have h' : ¬ j = i := fun e => hij e.symm
        simp only [hij, h', if_false] at this ⊢; omega) (by rw [sl, if_neg hnj]; exact hn)
    refine ⟨fun i hi h0 => ?_, fun i hi => ?_, fun i hi hci h => ?_⟩
    · have hij : ¬ i = j := fun e => by subst e; omega
      rw [a1 i hi (by rw [sl, if_neg hij]; exact h0), so, if_neg hij]
    · have := a2 i hi
      rw [so] at this
      split at this
      · rename_i e; subst e; omega
      · exact this
    · by_cases hij : i = j
      · subst hij
        have := a2 i hi
        rw [so, if_pos rfl] at this
        omega
      · have h' : ¬ j = i := fun e => hij e.symm
        rw [cnt, if_neg h'] at h
        have := a3 i hi hci (by omega)
        rw [so, if_neg hnj] at this
        exact this
def KI (c : B9) (d : Nat) (s : LS) : Prop := ∀ i : Nat, i < c.nodes.l.length → E3 (Aq c i) = true → ∀ q : Nat, (q : Int) ∈ E0 c i → (q : Int) ∈ s.rdy.take d → s.out.getD q 0 + 1 ≤ s.out.getD i 0
theorem KI.next {c : B9} (hp : ∀ x ∈ c.nodes.l, ∀ p ∈ x.inn.l, 0 ≤ p ∧ p < c.nodes.l.length) {d : Nat} {s : LS} (h : JI c d s) (hk : KI c d s) (hd : d < s.rdy.length) : KI c (d + 1) ((Gs c (s.rdy.getD d 0).toNat).foldl (E4 c (s.rdy.getD d 0).toNat) s) := by
  obtain ⟨M, hli⟩ := h.li
  have hg : s.rdy.getD d 0 = s.rdy[d] := by simp [hd]
  rw [hg]
  obtain ⟨n, hn, he, hn0⟩ := hli.rd _ (List.getElem_mem hd)
  rw [he]
  simp only [Int.toNat_natCast]
  have hr : ∀ p ∈ Gs c n, ∃ i : Nat, i < c.nodes.l.length ∧ p.1 = i := by
    intro p hpp
    have hl := q0C c
    have e : Gs c n = (F2 c)[n]'(by omega) := by simp [Gs, List.getD, List.getElem?_eq_getElem (show n < (F2 c).length by omega)]
    rw [e] at hpp
    exact q5R c _ (List.getElem_mem _) p hpp
  have htk : s.rdy.take (d + 1) = s.rdy.take d ++ [(n : Int)] := by
    rw [List.take_add_one, List.getElem?_eq_getElem hd, he]; rfl
  have hnd : (s.rdy.take (d + 1)).Nodup := hli.nd.sublist (List.take_sublist _ _)
  have hcnt : ∀ i : Nat, i < c.nodes.l.length → E3 (Aq c i) = true → (Ug i (Gs c n) : Int) ≤ s.left.getD i 0 := by
    intro i hi hci
    have := q6J (E0 c i) _ hnd
    rw [htk] at this
    simp only [List.map_append, List.sum_append, List.map_cons, List.map_nil, List.sum_cons, List.sum_nil] at this
    rw [h.a i hi, qF2 c hi, q7B c hp i n hi]
    simp only [hci, if_true]
    omega
  obtain ⟨⟨e, h1⟩, _, _, _⟩ := q7C (M := M) (c := c) (n := n) (r := Gs c n) hli.ll hr h.b
  obtain ⟨a1, a2, a3⟩ := qHN (n := n) (c := c) hli.lo hli.ll hr hcnt hn0
  intro i hi hci q hq hqt
  rw [h1, List.take_append_of_le_length (by omega), htk] at hqt
  rcases List.mem_append.1 hqt with hqt | hqt
  · obtain ⟨q', hq1, hq2, hq3⟩ := hli.rd _ (List.mem_of_mem_take hqt)
    have : q = q' := by omega
    subst this
    rw [a1 q hq1 hq3]
    have h4 := hk i hi hci q hq hqt
    have h5 := a2 i hi
    omega
  · have : q = n := by simp at hqt; omega
    subst this
    rw [a1 q hn hn0]
    refine a3 i hi hci ?_
    rw [q7B c hp i q hi]
    exact List.count_pos_iff.2 hq
theorem qF3 {c : B9} (hp : ∀ x ∈ c.nodes.l, ∀ p ∈ x.inn.l, 0 ≤ p ∧ p < c.nodes.l.length) : ∀ (f d : Nat) (s : LS), JI c d s → KI c d s → KI c (Nk c f d s).1 (Nk c f d s).2
  | 0, d, s, _, hk => hk
  | f + 1, d, s, h, hk => by
    simp only [Nk]
    split
    · rename_i hd
      exact qF3 hp f (d + 1) _ (h.next hp hd) (hk.next hp h hd)
    · exact hk
theorem qIv (c : B9) (h16 : ∀ x ∈ c.nodes.l, x.inn.l.length ≤ 16) : JI c 0 (I7 c) := by
  refine ⟨⟨0, qCk c h16⟩, by simp, fun i hi => ?_, fun i hi h => ?_⟩
  · simp [I7]
  · simp only [I7] at h
    exact q3U c.nodes.l 0 i (by omega) (by omega) (by simpa using h)
theorem q9R {c : B9} (h : Dy c = 0) : ∀ x ∈ c.nodes.l, ∀ p ∈ x.inn.l, 0 ≤ p ∧ p < c.nodes.l.length := by
  intro x hx
  have h4 := (Lx h).2.2.1 x hx
  unfold Dm at h4
  split at h4
  · cases h4
  split at h4
  · cases h4
  split at h4
  · cases h4
  rename_i h6
  exact q8b (by simpa using h6)
def Oj (c : B9) (i : Nat) : Int := (Ph c).2.out.getD i 0
theorem q3W {c : B9} (h : Bi c = 0) : Dy c = 0 ∧ ¬ (Ph c).1 < c.nodes.l.length := by
  unfold Bi at h
  split at h
  · rename_i h1; exact absurd h h1
  split at h
  · cases h
  · rename_i h1 h2; exact ⟨by simpa using h1, h2⟩
theorem qEN {c : B9} (h : Bi c = 0) : (Ph c).2.out.length = c.nodes.l.length ∧ (∀ i, 0 ≤ Oj c i) ∧ ∀ i : Nat, i < c.nodes.l.length → E3 (Aq c i) = true → ∀ p ∈ E0 c i, (0 ≤ p ∧ p < c.nodes.l.length) ∧ Oj c p.toNat < Oj c i := by
  obtain ⟨hs, hd⟩ := q3W h
  have hp := q9R hs
  have h16 := (Lx hs).2.1
  have h0 := qIv c h16
  obtain ⟨hJ, hle⟩ := q9Q hp (c.nodes.l.length + 1) 0 (I7 c) h0 (by omega)
  have hK := qF3 hp (c.nodes.l.length + 1) 0 (I7 c) h0 (fun i _ _ q _ hq => by simp at hq)
  obtain ⟨M, hli⟩ := hJ.li
  refine ⟨hli.lo, fun i => (hli.bo i).1, fun i hi hc p hpi => ?_⟩
  have hin : 0 ≤ p ∧ p < c.nodes.l.length := by
    simp only [E0, List.getD_eq_getElem?_getD, List.getElem?_eq_getElem hi, Option.getD_some] at hpi
    exact hp _ (List.getElem_mem hi) p hpi
  refine ⟨hin, ?_⟩
  have hpe : p = (p.toNat : Int) := by omega
  have hall : p ∈ (Ph c).2.rdy.take (Ph c).1 := by
    have hle' : (Ph c).2.rdy.length ≤ (Ph c).1 := hle
    rw [List.take_of_length_le hle']
    by_cases hm : p ∈ (Ph c).2.rdy
    · exact hm
    exfalso
    have := qAr (N := c.nodes.l.length) (List.nodup_cons.2 ⟨hm, hli.nd⟩) fun j hj => by
      rcases List.mem_cons.1 hj with rfl | hj
      · exact ⟨j.toNat, by omega, by omega⟩
      · obtain ⟨i, h1, h2, _⟩ := hli.rd j hj; exact ⟨i, h1, h2⟩
    have h3 := hJ.le
    simp only [List.length_cons] at this
    have : (Ph c).1 ≤ (Ph c).2.rdy.length := h3
    have : (Nk c (c.nodes.l.length + 1) 0 (I7 c)).2 = (Ph c).2 := rfl
    simp only [this] at *
    omega
  have := hK i hi hc p.toNat (by rw [← hpe]; exact hpi) (by rw [← hpe]; exact hall)
  show (Ph c).2.out.getD p.toNat 0 < (Ph c).2.out.getD i 0
  have e : (Nk c (c.nodes.l.length + 1) 0 (I7 c)).2 = (Ph c).2 := rfl
  rw [e] at this
  omega
theorem qF4 {c : B9} (h : Bi c = 0) {Q : Nat → Prop} (hq : ∀ i : Nat, i < c.nodes.l.length → (E3 (Aq c i) = true → ∀ p ∈ E0 c i, (0 ≤ p ∧ p < c.nodes.l.length) ∧ Q p.toNat) → Q i) : ∀ i : Nat, i < c.nodes.l.length → Q i := by
  obtain ⟨_, h0, h1⟩ := qEN h
  have : ∀ (k : Nat) (i : Nat), i < c.nodes.l.length → (Oj c i).toNat = k → Q i := by
    intro k
    induction k using Nat.strongRecOn with
    | ind k ih =>
      intro i hi hk
      refine hq i hi fun hc p hp => ?_
      obtain ⟨h2, h3⟩ := h1 i hi hc p hp
      have := h0 p.toNat
      exact ⟨h2, ih (Oj c p.toNat).toNat (by omega) p.toNat (by omega) rfl⟩
  exact fun i hi => this _ i hi rfl
def q9S (lt : Int → Int → Bool) : Nat → List Int → List Int
  | 0, l => l
  | j + 1, l => if lt (l.getD (j + 1) 0) (l.getD j 0) then q9S lt j (Ws l (j + 1) j) else l
def q3X (lt : Int → Int → Bool) : Nat → Nat → List Int → List Int
  | 0, _, l => l
  | f + 1, i, l => q3X lt f (i + 1) (q9S lt i l)
theorem q4H {lt : Int → Int → Bool} : ∀ {j : Nat} {l : List Int}, j < l.length → (q9S lt j l).Perm l
  | 0, l, _ => List.Perm.refl l
  | j + 1, l, h => by
    simp only [q9S]
    split
    · exact (q4H (by rw [q1F]; omega)).trans (q5V h (by omega))
    · exact List.Perm.refl l
def q3Y (key : Int → Int) (l : List Int) (n : Nat) : Prop := ∀ a b, a < b → b < n → key (l.getD a 0) ≤ key (l.getD b 0)
theorem q7r (key : Int → Int) (i : Nat) : ∀ (j : Nat) (l : List Int), j ≤ i → i < l.length → (∀ a b, a < b → b ≤ i → a ≠ j → b ≠ j → key (l.getD a 0) ≤ key (l.getD b 0)) → (∀ b, j < b → b ≤ i → key (l.getD j 0) ≤ key (l.getD b 0)) →
    q3Y key (q9S (fun a b => decide (key a < key b)) j l) (i + 1)
  | 0, l, hj, hi, h1, h2 => by
    intro a b hab hb
    simp only [q9S]
    by_cases ha : a = 0
    · subst ha; exact h2 b hab (by omega)
    · exact h1 a b hab (by omega) ha (by omega)
  | j + 1, l, hj, hi, h1, h2 => by
    simp only [q9S]
    split
    · rename_i hlt
      have hlt' : key (l.getD (j + 1) 0) < key (l.getD j 0) := by simpa using hlt
      have g : ∀ q, q < l.length → (Ws l (j + 1) j).getD q 0 = if q = j then l.getD (j + 1) 0 else if q = j + 1 then l.getD j 0 else l.getD q 0 := fun q hq => qG1 (by omega) (by omega) hq
      refine q7r key i j _ (by omega) (by rw [q1F]; exact hi) (fun a b hab hb ha hb' => ?_) (fun b hb hbi => ?_)
      · rw [g a (by omega), g b (by omega), if_neg ha, if_neg hb']
        by_cases ha1 : a = j + 1
        · rw [if_pos ha1, if_neg (by omega)]
          exact h1 j b (by omega) hb (by omega) (by omega)
        · rw [if_neg ha1]
          by_cases hb1 : b = j + 1
          · rw [if_pos hb1]
            exact h1 a j (by omega) (by omega) ha1 (by omega)
          · rw [if_neg hb1]
            exact h1 a b hab hb ha1 hb1
      · rw [g j (by omega), g b (by omega), if_pos rfl, if_neg (by omega)]
        by_cases hb1 : b = j + 1
        · rw [if_pos hb1]; omega
        · rw [if_neg hb1]
          exact h2 b (by omega) hbi
    · rename_i hlt
      have hlt' : key (l.getD j 0) ≤ key (l.getD (j + 1) 0) := by simpa using hlt
      intro a b hab hb
      by_cases ha1 : a = j + 1
      · subst ha1; exact h2 b hab (by omega)
      · by_cases hb1 : b = j + 1
        · subst hb1
          by_cases haj : a = j
          · subst haj; exact hlt'
          · have := h1 a j (by omega) (by omega) ha1 (by omega)
            omega
        · exact h1 a b hab (by omega) ha1 hb1
theorem qF5 (key : Int → Int) : ∀ (f i : Nat) (l : List Int), i + f = l.length → q3Y key l i → (q3X (fun a b => decide (key a < key b)) f i l).Perm l ∧ q3Y key (q3X (fun a b => decide (key a < key b)) f i l) l.length
  | 0, i, l, h, hs => ⟨List.Perm.refl l, by have : i = l.length := (by omega); subst this; exact hs⟩
  | f + 1, i, l, h, hs => by
    simp only [q3X]
    have hp := q4H (lt := fun a b => decide (key a < key b)) (show i < l.length by omega)
    have hss := q7r key i i l (Nat.le_refl _) (by omega) (fun a b hab hb ha hb' => hs a b hab (by omega)) (fun b h1 h2 => by omega)
    obtain ⟨a1, a2⟩ := qF5 key f (i + 1) _ (by rw [hp.length_eq]; omega) hss
    rw [hp.length_eq] at a2
    exact ⟨a1.trans hp, a2⟩
def rng (n : Nat) : List Int := (List.range n).map fun i : Nat => (i : Int)
theorem V6 {n : Nat} : (rng n).length = n := by simp [rng]
theorem q8c {n : Nat} {x : Int} : x ∈ rng n ↔ 0 ≤ x ∧ x < n := by
  simp only [rng, List.mem_map, List.mem_range]
  constructor
  · rintro ⟨i, hi, rfl⟩; omega
  · intro h; exact ⟨x.toNat, by omega, by omega⟩
theorem qG8 {n : Nat} : (rng n).Nodup := by
  rw [rng, List.nodup_iff_pairwise_ne, List.pairwise_map]
  exact (List.nodup_iff_pairwise_ne.1 List.nodup_range).imp fun h e => h (by omega)
def qF6 (c : B9) (a b : Int) : Bool := decide (Oj c a.toNat < Oj c b.toNat)
def W3 (c : B9) : List Int := q3X (qF6 c) (c.nodes.l.length - 1) 1 (rng c.nodes.l.length)
theorem q1H (c : B9) : (W3 c).Perm (rng c.nodes.l.length) ∧ q3Y (fun a => Oj c a.toNat) (W3 c) c.nodes.l.length := by
  by_cases h : c.nodes.l.length = 0
  · unfold W3
    rw [h]
    exact ⟨List.Perm.refl _, fun a b hab hb => by omega⟩
  · have := qF5 (fun a => Oj c a.toNat) (c.nodes.l.length - 1) 1 (rng c.nodes.l.length) (by rw [V6]; omega) (fun a b hab hb => by omega)
    rw [V6] at this
    exact this
def S1 (c : B9) (nets : List Int) (i : Nat) : List Int := (E0 c i).map fun k => nets.getD k.toNat 0
def Wv (c : B9) (nets : List Int) (n : Int) : List Int := if E3 (Aq c n.toNat) then nets.set n.toNat (Tt (Aq c n.toNat) (S1 c nets n.toNat)) else nets
def q9T (c : B9) (order init : List Int) : List Int := order.foldl (Wv c) init
theorem q7D {c : B9} {nets : List Int} {n : Int} : (Wv c nets n).length = nets.length := by unfold Wv; split <;> simp
theorem q6K {c : B9} : ∀ {o nets : List Int}, (q9T c o nets).length = nets.length
  | [], nets => rfl
  | n :: o, nets => by
    show (q9T c o (Wv c nets n)).length = _
    rw [q6K, q7D]
def qMK (c : B9) (init f : List Int) : Prop := f.length = c.nodes.l.length ∧ ∀ i : Nat, i < c.nodes.l.length → f.getD i 0 = if E3 (Aq c i) then Tt (Aq c i) (S1 c f i) else init.getD i 0
theorem qF7 {c : B9} : ∀ {o nets : List Int}, nets.length = c.nodes.l.length → o.Nodup → (∀ n ∈ o, 0 ≤ n ∧ n < c.nodes.l.length) → o.Pairwise (fun x y => E3 (Aq c x.toNat) = true → y ∉ E0 c x.toNat) → (∀ x ∈ o, E3 (Aq c x.toNat) = true → x ∉ E0 c x.toNat ∧ ∀ p ∈ E0 c x.toNat, 0 ≤ p) →
    (∀ i : Nat, (i : Int) ∉ o → (q9T c o nets).getD i 0 = nets.getD i 0) ∧ (∀ i : Nat, (i : Int) ∈ o → (q9T c o nets).getD i 0 = if E3 (Aq c i) then Tt (Aq c i) (S1 c (q9T c o nets) i) else nets.getD i 0)
  | [], nets, _, _, _, _, _ => ⟨fun i _ => rfl, fun i h => by cases h⟩
  | n :: o, nets, hl, hnd, hin, hpw, hself => by
    obtain ⟨hn1, hn2⟩ := List.nodup_cons.1 hnd
    obtain ⟨hp1, hp2⟩ := List.pairwise_cons.1 hpw
    have hnr := hin n List.mem_cons_self
    have hne : n = (n.toNat : Int) := by omega
    have key : ∀ i : Nat, i ≠ n.toNat → (Wv c nets n).getD i 0 = nets.getD i 0 := fun i hi => by
      unfold Wv
      split
      · rw [I8 (by omega), if_neg hi]
      · rfl
    obtain ⟨a1, a2⟩ := qF7 (o := o) (nets := Wv c nets n) (by rw [q7D]; exact hl) hn2 (fun m hm => hin m (List.mem_cons_of_mem _ hm)) hp2 (fun x hx => hself x (List.mem_cons_of_mem _ hx))
    have hrun : q9T c (n :: o) nets = q9T c o (Wv c nets n) := rfl
    rw [hrun]
    refine ⟨fun i hi => ?_, fun i hi => ?_⟩
    · have h1 : ¬ i = n.toNat := fun e => hi (by rw [e, ← hne]; exact List.mem_cons_self)
      rw [a1 i fun hm => hi (List.mem_cons_of_mem _ hm), key i h1]
    · by_cases hio : (i : Int) ∈ o
      · have h1 : ¬ i = n.toNat := fun e => hn1 (by rw [hne, ← e]; exact hio)
        rw [a2 i hio, key i h1]
      · have h1 : i = n.toNat := by
          rcases List.mem_cons.1 hi with h | h
          · omega
          · exact absurd h hio
        subst h1
        rw [a1 _ hio]
        by_cases hc : E3 (Aq c n.toNat) = true
        · have h2 : (Wv c nets n).getD n.toNat 0 = Tt (Aq c n.toNat) (S1 c nets n.toNat) := by
            unfold Wv
            rw [if_pos hc, I8 (by omega), if_pos rfl]
          rw [h2, if_pos hc]
          congr 1
          unfold S1
          refine List.map_congr_left fun p hp => ?_
          obtain ⟨hs1, hs2⟩ := hself n List.mem_cons_self hc
          have hp0 := hs2 p hp
          have hpe : p = (p.toNat : Int) := by omega
          have hpo : ((p.toNat : Nat) : Int) ∉ o := fun hm => hp1 _ hm hc (by rw [← hpe]; exact hp)
          have hpn : ¬ p.toNat = n.toNat := fun e => by
            have h9 : p = n := by omega
            rw [h9] at hp
            exact hs1 hp
          rw [a1 _ hpo, key _ hpn]
        · rw [if_neg hc]
          unfold Wv
          rw [if_neg hc]
theorem qIw {c : B9} (h : Bi c = 0) {o init : List Int} (hp : o.Perm (rng c.nodes.l.length)) (hs : q3Y (fun a => Oj c a.toNat) o c.nodes.l.length) (hi : init.length = c.nodes.l.length) : qMK c init (q9T c o init) := by
  obtain ⟨_, h0, h1⟩ := qEN h
  have hlen : o.length = c.nodes.l.length := by rw [hp.length_eq, V6]
  have hmem : ∀ n, n ∈ o ↔ 0 ≤ n ∧ n < c.nodes.l.length := fun n => by rw [hp.mem_iff, q8c]
  have hpw : o.Pairwise (fun x y => E3 (Aq c x.toNat) = true → y ∉ E0 c x.toNat) := by
    rw [List.pairwise_iff_getElem]
    intro i j hi hj hij hc hm
    have hx := (hmem o[i]).1 (List.getElem_mem hi)
    obtain ⟨_, h3⟩ := h1 o[i].toNat (by omega) hc _ hm
    have h4 := hs i j hij (by omega)
    simp only [B2 hi, B2 hj] at h4
    omega
  obtain ⟨_, a2⟩ := qF7 (c := c) (o := o) (nets := init) hi (hp.nodup_iff.2 qG8) (fun n hn => (hmem n).1 hn) hpw (fun x hx hc => by
    have hx' := (hmem x).1 hx
    refine ⟨fun hm => ?_, fun p hpp => (h1 x.toNat (by omega) hc p hpp).1.1⟩
    have := (h1 x.toNat (by omega) hc x hm).2
    omega)
  exact ⟨by rw [q6K]; exact hi, fun i hi => a2 i ((hmem i).2 (by omega))⟩
def Ks : List Int → List Int → List Int → List Int
  | n :: ns, v :: vs, nets => Ks ns vs (nets.set n.toNat v)
  | _, _, nets => nets
theorem q1I : ∀ {ns vs nets : List Int}, (Ks ns vs nets).length = nets.length
  | [], vs, nets => by cases vs <;> rfl
  | _ :: _, [], nets => rfl
  | n :: ns, v :: vs, nets => by simp only [Ks]; rw [q1I]; simp
theorem q4I : ∀ {ns vs nets : List Int} {i : Nat}, (∀ n ∈ ns, 0 ≤ n) → (i : Int) ∉ ns → (Ks ns vs nets).getD i 0 = nets.getD i 0
  | [], vs, nets, i, _, _ => by cases vs <;> rfl
  | _ :: _, [], nets, i, _, _ => rfl
  | n :: ns, v :: vs, nets, i, h0, h => by
    simp only [Ks]
    rw [q4I (fun m hm => h0 m (List.mem_cons_of_mem _ hm)) fun hm => h (List.mem_cons_of_mem _ hm)]
    have h1 : ¬ n.toNat = i := fun e => h (by have := h0 n List.mem_cons_self; rw [← e, Int.toNat_of_nonneg this]; exact List.mem_cons_self)
    simp [List.getD_eq_getElem?_getD, List.getElem?_set, h1]
theorem q9U : ∀ {ns vs nets : List Int} {j : Nat}, ns.Nodup → (∀ n ∈ ns, 0 ≤ n ∧ n < nets.length) → ns.length = vs.length → (h : j < ns.length) → (Ks ns vs nets).getD (ns[j]).toNat 0 = vs.getD j 0
  | n :: ns, v :: vs, nets, j, hnd, hr, hl, h => by
    obtain ⟨h1, h2⟩ := List.nodup_cons.1 hnd
    have hn := hr n List.mem_cons_self
    simp only [Ks]
    cases j with
    | zero =>
      simp only [List.getElem_cons_zero, List.getD_cons_zero]
      rw [q4I (fun m hm => (hr m (List.mem_cons_of_mem _ hm)).1) (by rw [Int.toNat_of_nonneg hn.1]; exact h1), I8 (by omega), if_pos rfl]
    | succ j =>
      simp only [List.getElem_cons_succ, List.getD_cons_succ]
      exact q9U h2 (fun m hm => by have := hr m (List.mem_cons_of_mem _ hm); simpa using this) (by simpa using hl) (by simpa using h)
  | [], vs, nets, j, _, _, _, h => by simp at h
  | _ :: _, [], nets, j, _, _, hl, h => by simp at hl
def Az (c : B9) : List Int := Jv [0] c.nodes.l 0
def q50 (c : B9) (pin pst : List Int) : List Int := Ks (A5 c) pst (Ks (Az c) pin (List.replicate c.nodes.l.length 0))
def An (c : B9) (pin pst : List Int) : List Int := q9T c (W3 c) (q50 c pin pst)
theorem q1J {c : B9} {pin pst : List Int} : (q50 c pin pst).length = c.nodes.l.length := by unfold q50; rw [q1I, q1I]; simp
theorem q1K {c : B9} (h : Bi c = 0) (pin pst : List Int) : qMK c (q50 c pin pst) (An c pin pst) := qIw h (q1H c).1 (q1H c).2 q1J
def M3 (k : Int) (c : B9) (i : Nat) : Nat := (Jv [k] (c.nodes.l.take i) 0).length
theorem qAy {k : Int} {c : B9} {i : Nat} (hi : i < c.nodes.l.length) (hk : Aq c i = k) : Jv [k] c.nodes.l 0 = Jv [k] (c.nodes.l.take i) 0 ++ (i : Int) :: Jv [k] (c.nodes.l.drop (i + 1)) (i + 1) := by
  have e : c.nodes.l = c.nodes.l.take i ++ c.nodes.l[i] :: c.nodes.l.drop (i + 1) := by rw [List.getElem_cons_drop, List.take_append_drop]
  have hk' : c.nodes.l[i].k = k := by simpa [Aq, hi] using hk
  have hm : (c.nodes.l.take i).length = i := by rw [List.length_take]; omega
  conv => lhs; rw [e, Kq, hm]
  simp [Jv, hk']
theorem q4J {k : Int} {c : B9} {i : Nat} (hi : i < c.nodes.l.length) (hk : Aq c i = k) : M3 k c i < (Jv [k] c.nodes.l 0).length ∧ (Jv [k] c.nodes.l 0).getD (M3 k c i) 0 = i := by
  have e := qAy hi hk
  constructor
  · rw [e]; simp [M3]
  · rw [e]; simp [M3, List.getD_eq_getElem?_getD]
theorem Hj {k : Int} {c : B9} : ∀ n ∈ Jv [k] c.nodes.l 0, 0 ≤ n ∧ n < c.nodes.l.length ∧ Aq c n.toNat = k := by
  intro n hn
  obtain ⟨a, b, h⟩ := q3R [k] c.nodes.l 0 n hn
  refine ⟨by omega, by omega, ?_⟩
  simpa [Aq] using h
theorem q4K {k : Int} {c : B9} {i : Nat} (hi : i < c.nodes.l.length) : (i : Int) ∈ Jv [k] c.nodes.l 0 ↔ Aq c i = k := by
  constructor
  · intro h
    have := (Hj _ h).2.2
    simpa using this
  · intro h
    rw [qAy hi h]
    simp
theorem q6L {c : B9} {pin pst : List Int} (h1 : pin.length = (Az c).length) (h2 : pst.length = (A5 c).length) {i : Nat} (hi : i < c.nodes.l.length) :
    (q50 c pin pst).getD i 0 = if Aq c i = 0 then pin.getD (M3 0 c i) 0 else if Aq c i = 14 then pst.getD (M3 14 c i) 0 else 0 := by
  have n0 := (Dz [0] c.nodes.l 0).2
  have n14 := (Dz [14] c.nodes.l 0).2
  have r14 : ∀ n ∈ A5 c, 0 ≤ n := fun n hn => (Hj n hn).1
  have r0 : ∀ n ∈ Az c, 0 ≤ n := fun n hn => (Hj n hn).1
  unfold q50
  by_cases hk : Aq c i = 14
  · obtain ⟨a, b⟩ := q4J hi hk
    have e : (Jv [14] c.nodes.l 0)[M3 14 c i] = (i : Int) := by rw [← b, B2 a]
    have := q9U (ns := A5 c) (vs := pst) (nets := Ks (Az c) pin (List.replicate c.nodes.l.length 0)) (j := M3 14 c i) n14 (fun n hn => by rw [q1I]; have := Hj n hn; simp; omega) h2.symm a
    have e' : (A5 c)[M3 14 c i] = (i : Int) := e
    rw [e'] at this
    simp only [Int.toNat_natCast] at this
    rw [this, if_neg (by omega), if_pos hk]
  · have : (i : Int) ∉ A5 c := fun hm => hk ((q4K hi).1 hm)
    rw [q4I r14 this]
    by_cases hk0 : Aq c i = 0
    · obtain ⟨a, b⟩ := q4J hi hk0
      have e : (Az c)[M3 0 c i]'a = (i : Int) := by show (Jv [0] c.nodes.l 0)[M3 0 c i] = _; rw [← b, B2 a]
      have := q9U (ns := Az c) (vs := pin) (nets := List.replicate c.nodes.l.length 0) (j := M3 0 c i) n0 (fun n hn => by have := Hj n hn; simp; omega) h1.symm a
      rw [e] at this
      simp only [Int.toNat_natCast] at this
      rw [this, if_pos hk0]
    · have : (i : Int) ∉ Az c := fun hm => hk0 ((q4K hi).1 hm)
      rw [q4I r0 this, if_neg hk0, if_neg hk]
      simp [List.getD_eq_getElem?_getD, List.getElem?_replicate]
      split <;> rfl
end Go.Lg
namespace Go.Lg
open Go
section
variable {P : Program} {Γ : Tables} {Q : AX → St → Prop} {s : St}
/- probecard/logic.Clean (function 127) -/
abbrev q3Z : IC := (.seq (.reg [od 2 (.mv (ku 0))] [kp [0] []]) (.seq (.seq (.reg [om 3 0, od 4 (.bin .gtr (tm 3) (ku 3))] [kp [0, 4] []]) (.cond (tm 4) (.seq (.reg [od 2 (.mv (ku 2))] [kp [2] []]) .ret) .skip)) (.seq (.reg [om 5 0, om 2 5] [kp [2]
 []]) .ret)))
def q3a : List RV := [.tmp 2]
/- probecard/logic.Read (function 73) -/
abbrev q51 : IC := (.seq (.reg [od 2 (.mv (ku 0))] [kp [0] []]) (.seq (.reg [om 3 0, od 4 (.mmx false [(tm 3), (ku 2)]), om 2 4] [kp [2] []]) .ret))
def q52 : List RV := [.tmp 2]
/- probecard/logic.Known (function 152) -/
abbrev q3b : IC := (.seq (.reg [od 2 (.mv kF)] [kp [0] []]) (.seq (.reg [om 3 0, od 4 (.bin .leq (tm 3) (ku 1)), om 2 4] [kp [2] []]) .ret))
def q3c : List RV := [.tmp 2]
/- probecard/logic.Not (function 115) -/
abbrev q6M : IC := (.seq (.reg [od 2 (.mv (ku 0))] [kp [0] []]) (.seq (.seq (.reg [om 3 0, od 4 (.call 152 [(tm 3)])] [kp [0, 4] []]) (.cond (tm 4) (.seq (.reg [om 5 0, od 6 (.bin .sub (ku 1) (tm 5)), om 2 6] [kp [2] []]) .ret) .skip)) (.seq (.reg
 [od 2 (.mv (ku 2))] [kp [2] []]) .ret)))
def q1x : List RV := [.tmp 2]
/- probecard/logic.decided (function 153) -/
abbrev q1L : IC := .gh (.seq (.reg [od 14 (.bin .lss (tm 13) (tm 12))] [kp [1, 2, 7, 11, 12, 13, 14] []]) (.seq (.cond (tm 14) .skip (.exit 0)) (.seq (.block 1 (.seq (.reg [od 15 (ia 1 11 13), od 16 (ld 1 15), om 9 16] [kp [1, 2, 7, 9, 11, 12, 13]
 []]) (.block 2 (.seq (.reg [om 18 9, om 19 1, od 20 (.bin .eql (tm 18) (tm 19)), om 17 20] [kp [1, 2, 7, 9, 11, 12, 13, 17] []]) (.cond (tm 17) (.seq (.reg [om 21 1, om 6 21] [kp [6] []]) .ret) (.seq (.reg [om 23 9, om 24 2, od 25
 (.bin .neq (tm 23) (tm 24)), om 22 25] [kp [1, 2, 7, 11, 12, 13, 22] []]) (.cond (tm 22) (.reg [od 7 (.mv (ku 2))] [kp [1, 2, 7, 11, 12, 13] []]) .skip))))))) (.reg [od 26 (.bin .add (tm 13) (ki 1)), om 13 26] [kp [1, 2, 7, 11, 12,
 13] []])))) [kp [1, 2, 7, 11, 12, 13] []]
def N6 : IC := .loop q1L
abbrev q1M : IC := (.seq (.reg [od 6 (.mv (ku 0))] [kp [0, 1, 2] []]) (.seq (.reg [om 10 2, om 7 10] [kp [0, 1, 2, 7] []]) (.seq (.seq (.reg [om 11 0, od 12 (le 0 11), od 13 (.mv (ki 0))] [kp [1, 2, 7, 11, 12, 13] []]) (.block 0 N6))
 (.seq (.reg [om 27 7, om 6 27] [kp [6] []]) .ret))))
theorem Vj (h : ∀ K : St → Prop, K = run P Γ N6 Q → run P Γ q1L (Ax K Q) s) : run P Γ N6 Q s := Aj h
def Uh : List RV := [.tmp 6]
/- probecard/logic.And (function 116) -/
abbrev q6N : IC := (.seq (.reg [od 2 (.mv (ku 0))] [kp [0] []]) (.seq (.reg [om 3 0, od 4 (.call 153 [(tm 3), (ku 0), (ku 1)]), om 2 4] [kp [2] []]) .ret))
def q6O : List RV := [.tmp 2]
/- probecard/logic.Or (function 117) -/
abbrev q7s : IC := (.seq (.reg [od 2 (.mv (ku 0))] [kp [0] []]) (.seq (.reg [om 3 0, od 4 (.call 153 [(tm 3), (ku 1), (ku 0)]), om 2 4] [kp [2] []]) .ret))
def q7t : List RV := [.tmp 2]
/- probecard/logic.Xor (function 118) -/
abbrev q6P : IC := .gh (.seq (.reg [od 9 (.bin .lss (tm 8) (tm 7))] [kp [3, 6, 7, 8, 9] []]) (.seq (.cond (tm 9) .skip (.exit 0)) (.seq (.block 1 (.seq (.reg [od 10 (ia 1 6 8), od 11 (ld 1 10), om 5 11] [kp [3, 5, 6, 7, 8] []]) (.seq (.seq (.reg [om
 12 5, od 13 (.call 152 [(tm 12)]), od 14 (.un .not (tm 13))] [kp [3, 5, 6, 7, 8, 14] []]) (.cond (tm 14) (.seq (.reg [od 2 (.mv (ku 2))] [kp [2] []]) .ret) .skip)) (.reg [om 15 3, om 16 5, od 17 (.bin .xor (tm 15) (tm 16)), om 3
 17] [kp [3, 6, 7, 8] []])))) (.reg [od 18 (.bin .add (tm 8) (ki 1)), om 8 18] [kp [3, 6, 7, 8] []])))) [kp [3, 6, 7, 8] []]
def Xh : IC := .loop q6P
abbrev q6Q : IC := (.seq (.reg [od 2 (.mv (ku 0))] [kp [0] []]) (.seq (.reg [od 3 (.mv (ku 0))] [kp [0, 3] []]) (.seq (.seq (.reg [om 6 0, od 7 (le 0 6), od 8 (.mv (ki 0))] [kp [3, 6, 7, 8] []]) (.block 0 Xh)) (.seq (.reg [om 19 3, om 2 19]
 [kp [2] []]) .ret))))
theorem q1N (h : ∀ K : St → Prop, K = run P Γ Xh Q → run P Γ q6P (Ax K Q) s) : run P Γ Xh Q s := Aj h
def q1y : List RV := [.tmp 2]
/- probecard/logic.Mux (function 119) -/
abbrev S3 : IC := (.seq (.reg [od 6 (.mv (ku 0))] [kp [0, 1, 2] []]) (.seq (.block 0 (.seq (.reg [om 8 0, od 9 (.bin .eql (tm 8) (ku 0)), om 7 9] [kp [0, 1, 2, 7] []]) (.cond (tm 7) (.seq (.reg [om 10 1, od 11 (.call 73 [(tm 10)]), om 6 11] [kp [6]
 []]) .ret) (.seq (.reg [om 13 0, od 14 (.bin .eql (tm 13) (ku 1)), om 12 14] [kp [1, 2, 12] []]) (.cond (tm 12) (.seq (.reg [om 15 2, od 16 (.call 73 [(tm 15)]), om 6 16] [kp [6] []]) .ret) (.seq (.reg [om 18 1, om 19 2, od 20
 (.bin .eql (tm 18) (tm 19)), om 17 20] [kp [1, 17] []]) (.cond (tm 17) (.seq (.reg [om 21 1, od 22 (.call 73 [(tm 21)]), om 6 22] [kp [6] []]) .ret) .skip))))))) (.seq (.reg [od 6 (.mv (ku 2))] [kp [6] []]) .ret)))
def S4 : List RV := [.tmp 6]
/- probecard/logic.Tri (function 120) -/
abbrev Xi : IC := (.seq (.reg [od 4 (.mv (ku 0))] [kp [0, 1] []]) (.seq (.seq (.reg [om 5 0] [kp [1, 5] []]) (.block 0 (.seq (.reg [od 7 (.bin .eql (tm 5) (ku 0)), om 6 7] [kp [1, 5, 6] []]) (.cond (tm 6) (.seq (.reg [od 4 (.mv (ku 3))] [kp [4] []])
 .ret) (.seq (.reg [od 9 (.bin .eql (tm 5) (ku 1)), om 8 9] [kp [1, 8] []]) (.cond (tm 8) (.seq (.reg [om 10 1, od 11 (.call 73 [(tm 10)]), om 4 11] [kp [4] []]) .ret) .skip)))))) (.seq (.reg [od 4 (.mv (ku 2))] [kp [4] []]) .ret)))
def Xj : List RV := [.tmp 4]
/- probecard/logic.Bus (function 121) -/
abbrev q6R : IC := (.seq (.reg [od 2 (.mv (ku 0))] [kp [0] []]) (.seq (.reg [od 3 (.mv (.func 154))] [kp [0, 3] []]) (.seq (.reg [od 4 (.mv (.func 155))] [kp [0, 3, 4] []]) (.seq (.reg [om 6 0, om 7 4, od 8 (.call 130 [(tm 6), (tm 7)]), om 5 8] [kp
 [0, 3, 5] []]) (.seq (.block 0 (.seq (.reg [om 10 5, od 11 (.bin .lss (tm 10) (ki 0)), om 9 11] [kp [0, 3, 5, 9] []]) (.cond (tm 9) (.seq (.reg [od 2 (.mv (ku 3))] [kp [2] []]) .ret) (.seq (.reg [om 13 0, od 14 (.call 128 [(tm
 13)]), om 15 14, oF 16 (.mv (tm 0)) 15, oF 17 (.mv (tm 3)) 15, oF 18 (.call 76 [(tm 16), (tm 17)]) 15, od 19 (.pick (tm 15) kT (tm 18)), om 12 19] [kp [0, 5, 12] []]) (.cond (tm 12) (.seq (.reg [od 2 (.mv (ku 2))] [kp [2] []])
 .ret) .skip))))) (.seq (.reg [om 20 0, om 21 5, od 22 (ia 1 20 21), od 23 (ld 1 22), om 2 23] [kp [2] []]) .ret))))))
def S5 : List RV := [.tmp 2]
/- probecard/logic.Bus$1 (function 154) -/
abbrev q3d : IC := (.seq (.reg [od 2 (.mv kF)] [kp [0] []]) (.seq (.reg [om 3 0, od 4 (.call 127 [(tm 3)]), od 5 (.bin .eql (tm 4) (ku 2)), om 2 5] [kp [2] []]) .ret))
def q3e : List RV := [.tmp 2]
/- probecard/logic.Bus$2 (function 155) -/
abbrev q3f : IC := (.seq (.reg [od 2 (.mv kF)] [kp [0] []]) (.seq (.reg [om 3 0, od 4 (.bin .neq (tm 3) (ku 3)), om 2 4] [kp [2] []]) .ret))
def q3g : List RV := [.tmp 2]
/- probecard/logic.Conflict (function 128) -/
abbrev q0K : IC := (.seq (.reg [od 2 (.mv kF)] [kp [0] []]) (.seq (.reg [om 3 0, od 4 (.call 160 [(tm 3), (ku 0)]), om 5 4, oT 6 (.mv (tm 0)) 5, oT 7 (.call 160 [(tm 6), (ku 1)]) 5, od 8 (.pick (tm 5) (tm 7) kF), om 2 8] [kp [2] []]) .ret))
def S7 : List RV := [.tmp 2]
/- slices.Contains[[]probecard/api.Value,probecard/api.Value] (function 160) -/
abbrev Jp : IC := (.seq (.reg [od 4 (.mv kF)] [kp [0, 1] []]) (.seq (.reg [om 5 0, om 6 1, od 7 (.call 182 [(tm 5), (tm 6)]), od 8 (.bin .geq (tm 7) (ki 0)), om 4 8] [kp [4] []]) .ret))
def Jq : List RV := [.tmp 4]
/- slices.Index[[]probecard/api.Value,probecard/api.Value] (function 182) -/
abbrev Nl : IC := .gh (.seq (.reg [od 9 (.bin .lss (tm 8) (tm 7))] [kp [0, 1, 7, 8, 9] []]) (.seq (.cond (tm 9) .skip (.exit 0)) (.seq (.block 1 (.seq (.reg [om 10 8, om 5 10] [kp [0, 1, 5, 7, 8] []]) (.seq (.reg [om 11 1, om 12 0, om 13 5, od 14
 (ia 1 12 13), od 15 (ld 1 14), od 16 (.bin .eql (tm 11) (tm 15))] [kp [0, 1, 5, 7, 8, 16] []]) (.cond (tm 16) (.seq (.reg [om 17 5, om 4 17] [kp [4] []]) .ret) .skip)))) (.reg [od 18 (.bin .add (tm 8) (ki 1)), om 8 18] [kp [0, 1,
 7, 8] []])))) [kp [0, 1, 7, 8] []]
def Ee : IC := .loop Nl
def Gx : List RO := [od 4 (.mv (.const (.int .i64 (-1))))]
abbrev Nn : IC := (.seq (.reg [od 4 (.mv (ki 0))] [kp [0, 1] []]) (.seq (.seq (.reg [om 6 0, od 7 (le 0 6), od 8 (.mv (ki 0))] [kp [0, 1, 7, 8] []]) (.block 0 Ee)) (.seq (.reg Gx [kp [4] []]) .ret)))
theorem Ir (h : ∀ K : St → Prop, K = run P Γ Ee Q → run P Γ Nl (Ax K Q) s) : run P Γ Ee Q s := Aj h
attribute [simp] Gx
def Dj : List RV := [.tmp 4]
/- slices.ContainsFunc[[]probecard/api.Value,probecard/api.Value] (function 76) -/
abbrev H6 : IC := (.seq (.reg [od 4 (.mv kF)] [kp [0, 1] []]) (.seq (.reg [om 5 0, om 6 1, od 7 (.call 130 [(tm 5), (tm 6)]), od 8 (.bin .geq (tm 7) (ki 0)), om 4 8] [kp [4] []]) .ret))
def H7 : List RV := [.tmp 4]
/- slices.IndexFunc[[]probecard/api.Value,probecard/api.Value] (function 130) -/
abbrev Is : IC := .gh (.seq (.reg [od 9 (.bin .lss (tm 8) (tm 7))] [kp [0, 1, 7, 8, 9] []]) (.seq (.cond (tm 9) .skip (.exit 0)) (.seq (.block 1 (.seq (.reg [om 10 8, om 5 10] [kp [0, 1, 5, 7, 8] []]) (.seq (.reg [om 11 1, om 12 0, om 13 5, od 14
 (ia 1 12 13), od 15 (ld 1 14), od 16 (.callv (tm 11) [(tm 15)])] [kp [0, 1, 5, 7, 8, 16] []]) (.cond (tm 16) (.seq (.reg [om 17 5, om 4 17] [kp [4] []]) .ret) .skip)))) (.reg [od 18 (.bin .add (tm 8) (ki 1)), om 8 18] [kp [0, 1, 7,
 8] []])))) [kp [0, 1, 7, 8] []]
def Dn : IC := .loop Is
abbrev It : IC := (.seq (.reg [od 4 (.mv (ki 0))] [kp [0, 1] []]) (.seq (.seq (.reg [om 6 0, od 7 (le 0 6), od 8 (.mv (ki 0))] [kp [0, 1, 7, 8] []]) (.block 0 Dn)) (.seq (.reg [od 4 (.mv (.const (.int .i64 (-1))))] [kp [4]
 []]) .ret)))
theorem Gt (h : ∀ K : St → Prop, K = run P Γ Dn Q → run P Γ Is (Ax K Q) s) : run P Γ Dn Q s := Aj h
def Ep : List RV := [.tmp 4]
/- probecard/logic.Eval (function 57) -/
abbrev Bw : IC := (.seq (.reg [od 4 (.mv (ku 0))] [kp [0, 1] []]) (.seq (.seq (.reg [om 8 0, od 9 (.call 114 [(tm 8)]), om 7 9, od 10 (ex 7 0), od 11 (ex 7 1), om 5 10, om 6 11] [kp [0, 1, 5, 6] []]) (.seq (.reg [om 12 1, od 13 (le 0 12), om 14 5,
 od 15 (.bin .lss (tm 13) (tm 14)), om 16 15, oF 17 (.mv (tm 1)) 16, oF 18 (le 0 17) 16, oF 19 (.mv (tm 6)) 16, oF 20 (.bin .gtr (tm 18) (tm 19)) 16, od 21 (.pick (tm 16) kT (tm 20))] [kp [0, 1, 21] []]) (.cond (tm 21) (.seq (.reg
 [od 4 (.mv (ku 2))] [kp [4] []]) .ret) .skip))) (.seq (.seq (.reg [om 22 0] [kp [1, 22] []]) (.block 0 (.seq (.reg [od 24 (.bin .eql (tm 22) (ku 1)), om 23 24] [kp [1, 22, 23] []]) (.cond (tm 23) (.seq (.reg [od 4 (.mv (ku 0))] [kp
 [4] []]) .ret) (.seq (.reg [od 26 (.bin .eql (tm 22) (ku 2)), om 25 26] [kp [1, 22, 25] []]) (.cond (tm 25) (.seq (.reg [od 4 (.mv (ku 1))] [kp [4] []]) .ret) (.seq (.reg [od 28 (.bin .eql (tm 22) (ku 3)), om 27 28] [kp [1, 22, 27]
 []]) (.cond (tm 27) (.seq (.reg [om 29 1, od 30 (.iadr 1 (tm 29) (ki 0)), od 31 (ld 1 30), od 32 (.call 73 [(tm 31)]), om 4 32] [kp [4] []]) .ret) (.seq (.reg [od 34 (.bin .eql (tm 22) (ku 4)), om 33 34] [kp [1, 22, 33] []]) (.cond
 (tm 33) (.seq (.reg [om 35 1, od 36 (.iadr 1 (tm 35) (ki 0)), od 37 (ld 1 36), od 38 (.call 115 [(tm 37)]), om 4 38] [kp [4] []]) .ret) (.seq (.reg [od 40 (.bin .eql (tm 22) (ku 5)), om 39 40] [kp [1, 22, 39] []]) (.cond (tm 39)
 (.seq (.reg [om 41 1, od 42 (.call 116 [(tm 41)]), om 4 42] [kp [4] []]) .ret) (.seq (.reg [od 44 (.bin .eql (tm 22) (ku 6)), om 43 44] [kp [1, 22, 43] []]) (.cond (tm 43) (.seq (.reg [om 45 1, od 46 (.call 116 [(tm 45)]), od 47
 (.call 115 [(tm 46)]), om 4 47] [kp [4] []]) .ret) (.seq (.reg [od 49 (.bin .eql (tm 22) (ku 7)), om 48 49] [kp [1, 22, 48] []]) (.cond (tm 48) (.seq (.reg [om 50 1, od 51 (.call 117 [(tm 50)]), om 4 51] [kp [4] []]) .ret) (.seq
 (.reg [od 53 (.bin .eql (tm 22) (ku 8)), om 52 53] [kp [1, 22, 52] []]) (.cond (tm 52) (.seq (.reg [om 54 1, od 55 (.call 117 [(tm 54)]), od 56 (.call 115 [(tm 55)]), om 4 56] [kp [4] []]) .ret) (.seq (.reg [od 58 (.bin .eql (tm
 22) (ku 9)), om 57 58] [kp [1, 22, 57] []]) (.cond (tm 57) (.seq (.reg [om 59 1, od 60 (.call 118 [(tm 59)]), om 4 60] [kp [4] []]) .ret) (.seq (.reg [od 62 (.bin .eql (tm 22) (ku 10)), om 61 62] [kp [1, 22, 61] []]) (.cond (tm 61)
 (.seq (.reg [om 63 1, od 64 (.call 118 [(tm 63)]), od 65 (.call 115 [(tm 64)]), om 4 65] [kp [4] []]) .ret) (.seq (.reg [od 67 (.bin .eql (tm 22) (ku 11)), om 66 67] [kp [1, 22, 66] []]) (.cond (tm 66) (.seq (.reg [om 68 1, od 69
 (.iadr 1 (tm 68) (ki 0)), od 70 (ld 1 69), om 71 1, od 72 (.iadr 1 (tm 71) (ki 1)), od 73 (ld 1 72), om 74 1, od 75 (.iadr 1 (tm 74) (ki 2)), od 76 (ld 1 75), od 77 (.call 119 [(tm 70), (tm 73), (tm 76)]), om 4 77] [kp [4] []])
 .ret) (.seq (.reg [od 79 (.bin .eql (tm 22) (ku 12)), om 78 79] [kp [1, 22, 78] []]) (.cond (tm 78) (.seq (.reg [om 80 1, od 81 (.iadr 1 (tm 80) (ki 0)), od 82 (ld 1 81), om 83 1, od 84 (.iadr 1 (tm 83) (ki 1)), od 85 (ld 1 84), od
 86 (.call 120 [(tm 82), (tm 85)]), om 4 86] [kp [4] []]) .ret) (.seq (.reg [od 88 (.bin .eql (tm 22) (ku 13)), om 87 88] [kp [1, 87] []]) (.cond (tm 87) (.seq (.reg [om 89 1, od 90 (.call 121 [(tm 89)]), om 4 90] [kp [4] []]) .ret)
 .skip)))))))))))))))))))))))))))) (.seq (.reg [od 4 (.mv (ku 2))] [kp [4] []]) .ret))))
def Bq : List RV := [.tmp 4]
end
end Go.Lg
namespace Go.Lg
open Go Go.Proofs
theorem q8H : B1 Tryz.prog 127 q3Z 6 1 q3a = true := by kernel_rfl
theorem q9V : B1 Tryz.prog 73 q51 5 1 q52 = true := by kernel_rfl
theorem q8I : B1 Tryz.prog 152 q3b 5 1 q3c = true := by kernel_rfl
theorem qAM : B1 Tryz.prog 115 q6M 7 1 q1x = true := by kernel_rfl
theorem q6S : B1 Tryz.prog 153 q1M 28 3 Uh = true := by kernel_rfl
theorem qAN : B1 Tryz.prog 116 q6N 5 1 q6O = true := by kernel_rfl
theorem qBq : B1 Tryz.prog 117 q7s 5 1 q7t = true := by kernel_rfl
theorem qAO : B1 Tryz.prog 118 q6Q 20 1 q1y = true := by kernel_rfl
theorem qAP : B1 Tryz.prog 119 S3 23 3 S4 = true := by kernel_rfl
theorem qAQ : B1 Tryz.prog 120 Xi 12 2 Xj = true := by kernel_rfl
theorem qAR : B1 Tryz.prog 121 q6R 24 1 S5 = true := by kernel_rfl
theorem q8J : B1 Tryz.prog 154 q3d 6 1 q3e = true := by kernel_rfl
theorem q8K : B1 Tryz.prog 155 q3f 5 1 q3g = true := by kernel_rfl
theorem q5b : B1 Tryz.prog 128 q0K 9 1 S7 = true := by kernel_rfl
theorem Vk : B1 Tryz.prog 160 Jp 9 2 Jq = true := by kernel_rfl
theorem Z4 : B1 Tryz.prog 182 Nn 19 2 Dj = true := by kernel_rfl
theorem Qi : B1 Tryz.prog 76 H6 9 2 H7 = true := by kernel_rfl
theorem Ui : B1 Tryz.prog 130 It 19 2 Ep = true := by kernel_rfl
theorem q9W : B1 Tryz.prog 57 Bw 91 2 Bq = true := by kernel_rfl
end Go.Lg
namespace Go.Lg
open Go Go.Proofs
variable {Γ : Tables}
theorem q9X (v : Int) : Ab Tryz.prog Γ 127 [tK v] (tK (Uf v)) := by
  refine Ad q8H rfl ?_
  by_cases h : 3 < v <;> simp [q3Z, q3a, B0, Uf, h]
theorem Ib (v : Int) : Ab Tryz.prog Γ 73 [tK v] (tK (B8 v)) := by
  refine Ad q9V rfl ?_
  by_cases h : v < 2 <;> simp [q51, q52, B0, B8, h, q0w, I2] <;> omega
theorem q5c (v : Int) : Ab Tryz.prog Γ 152 [tK v] (tB (q79 v)) := by
  refine Ad q8I rfl ?_
  simp [q3b, q3c, B0, q79]
theorem q6T (v : Int) (h0 : 0 ≤ v) : Ab Tryz.prog Γ 115 [tK v] (tK (q0r v)) := by
  refine Ad qAM rfl ?_
  simp [q6M]
  refine A6 (q5c v) rfl ?_
  by_cases h : v ≤ 1
  · simp (disch := omega) [q1x, B0, q79, q0r, h, Bt]
  · simp (disch := omega) [q1x, B0, q79, q0r, h, Bt]
theorem qHO (s a b : Int) : Ab Tryz.prog Γ 119 [tK s, tK a, tK b] (tK (qAL s a b)) := by
  refine Ad qAP rfl ?_
  by_cases h : s = 0
  · simp [S3, h]
    refine A6 (Ib a) rfl ?_
    simp [S4, B0, qAL, h]
  by_cases h1 : s = 1
  · simp [S3, h1]
    refine A6 (Ib b) rfl ?_
    simp [S4, B0, qAL, h1]
  by_cases h2 : a = b
  · simp [S3, h, h1, h2]
    refine A6 (Ib b) rfl ?_
    simp [S4, B0, qAL, h, h1, h2]
  · simp [S3, h, h1, h2, S4, B0, qAL]
theorem qHP (e d : Int) : Ab Tryz.prog Γ 120 [tK e, tK d] (tK (qBo e d)) := by
  refine Ad qAQ rfl ?_
  by_cases h : e = 0
  · simp [Xi, h, Xj, B0, qBo]
  by_cases h1 : e = 1
  · simp [Xi, h1]
    refine A6 (Ib d) rfl ?_
    simp [Xj, B0, qBo, h1]
  · simp [Xi, h, h1, Xj, B0, qBo]
abbrev Av (l : List Int) : List (List T) := Ae tK l
def tV (s : Sl Int) : T := .sl (Av s.l) s.cap s.nl
theorem q1z {Q : AX → St → Prop} (l : List Int) (c : Option Nat) (nl : Option Bool) (low high : Int) (hl : l.length ≤ 1000000000) (R : Int)
    (h0 : Q (.exit 0) ⟨[(1, .t (tK low)), (2, .t (tK high)), (7, .t (tK R)), (11, .t (.sl (Av l) c nl)), (12, .t (tI l.length)), (13, .t (tI l.length)), (14, .t (tB false))], []⟩)
    (h1 : R = low → Q .ret ⟨[(6, .t (tK low))], []⟩) : ∀ (k i : Nat) (out : Int), k + i = l.length → Oi low high out (l.drop i) = R →
    run Tryz.prog Γ N6 Q ⟨[(1, .t (tK low)), (2, .t (tK high)), (7, .t (tK out)), (11, .t (.sl (Av l) c nl)), (12, .t (tI l.length)), (13, .t (tI i))], []⟩
  | 0, i, out, h, hR => by
    refine Vj fun K hK => ?_
    have h2 : ¬ i < l.length := by omega
    rw [List.drop_of_length_le (by omega)] at hR
    simp only [Oi] at hR
    subst hR
    have h3 : i = l.length := by omega
    simp [h2]
    subst h3
    exact h0
  | k + 1, i, out, h, hR => by
    refine Vj fun K hK => ?_
    have h2 : i < l.length := by omega
    rw [List.drop_eq_getElem_cons h2] at hR
    simp only [Oi] at hR
    have hget := Bc (f := tK) 0 h2
    simp only [List.getElem?_eq_getElem h2, Option.getD_some] at hget
    generalize l[i] = v at *
    by_cases a1 : v = low
    · rw [if_pos a1] at hR
      simp (disch := omega) [h2, A0, hget, Aa, A7, a1]
      exact h1 hR.symm
    · by_cases a2 : v = high
      · rw [if_neg a1, if_neg (by simp [a2])] at hR
        have ih := q1z l c nl low high hl R h0 h1 k (i + 1) out (by omega) hR
        have a1' : ¬ high = low := by rw [← a2]; exact a1
        simp (disch := omega) [h2, A0, hget, Aa, A7, a1', a2]
        rw [hK]
        exact_mod_cast ih
      · rw [if_neg a1, if_pos a2] at hR
        have ih := q1z l c nl low high hl R h0 h1 k (i + 1) 2 (by omega) hR
        simp (disch := omega) [h2, A0, hget, Aa, A7, a1, a2]
        rw [hK]
        exact_mod_cast ih
theorem q6U (l : List Int) (c : Option Nat) (nl : Option Bool) (low high : Int) (hl : l.length ≤ 1000000000) : Ab Tryz.prog Γ 153 [.sl (Av l) c nl, tK low, tK high] (tK (Oi low high high l)) := by
  refine Ad q6S rfl ?_
  simp (disch := omega) [q1M, A0, A7]
  refine q1z l c nl low high hl (Oi low high high l) ?_ (fun h => ?_) l.length 0 high (by omega) (by simp)
  · simp [Uh, B0]
  · simp [Uh, B0, h]
theorem qCp (l : List Int) (c : Option Nat) (nl : Option Bool) (hl : l.length ≤ 1000000000) : Ab Tryz.prog Γ 116 [.sl (Av l) c nl] (tK (Oi 0 1 1 l)) := by
  refine Ad qAN rfl ?_
  simp [q6N]
  refine A6 (q6U l c nl 0 1 hl) rfl ?_
  simp [q6O, B0]
theorem qF8 (l : List Int) (c : Option Nat) (nl : Option Bool) (hl : l.length ≤ 1000000000) : Ab Tryz.prog Γ 117 [.sl (Av l) c nl] (tK (Oi 1 0 0 l)) := by
  refine Ad qBq rfl ?_
  simp [q7s]
  refine A6 (q6U l c nl 1 0 hl) rfl ?_
  simp [q7t, B0]
theorem qIx {a b : Int} (ha : a = 0 ∨ a = 1) (hb : b = 0 ∨ b = 1) : IntKind.u8.wrap ((BitVec.ofInt IntKind.u8.bits a ^^^ BitVec.ofInt IntKind.u8.bits b).toNat : Int) = qHK a b := by
  rcases ha with rfl | rfl <;> rcases hb with rfl | rfl <;> decide
theorem qCq {Q : AX → St → Prop} (l : List Int) (c : Option Nat) (nl : Option Bool) (hl : l.length ≤ 1000000000) (hv : ∀ v ∈ l, 0 ≤ v) (R : Int)
    (h0 : Q (.exit 0) ⟨[(3, .t (tK R)), (6, .t (.sl (Av l) c nl)), (7, .t (tI l.length)), (8, .t (tI l.length)), (9, .t (tB false))], []⟩)
    (h1 : R = 2 → Q .ret ⟨[(2, .t (tK 2))], []⟩) : ∀ (k i : Nat) (out : Int), k + i = l.length → (out = 0 ∨ out = 1) → q3T out (l.drop i) = R →
    run Tryz.prog Γ Xh Q ⟨[(3, .t (tK out)), (6, .t (.sl (Av l) c nl)), (7, .t (tI l.length)), (8, .t (tI i))], []⟩
  | 0, i, out, h, ho, hR => by
    refine q1N fun K hK => ?_
    have h2 : ¬ i < l.length := by omega
    rw [List.drop_of_length_le (by omega)] at hR
    simp only [q3T] at hR
    subst hR
    have h3 : i = l.length := by omega
    simp [h2]
    subst h3
    exact h0
  | k + 1, i, out, h, ho, hR => by
    refine q1N fun K hK => ?_
    have h2 : i < l.length := by omega
    rw [List.drop_eq_getElem_cons h2] at hR
    simp only [q3T] at hR
    have hget := Bc (f := tK) 0 h2
    simp only [List.getElem?_eq_getElem h2, Option.getD_some] at hget
    have hv0 := hv _ (List.getElem_mem h2)
    generalize l[i] = v at *
    by_cases a1 : v ≤ 1
    · rw [if_pos a1] at hR
      have ih := qCq l c nl hl hv R h0 h1 k (i + 1) (qHK out v) (by omega) (by unfold qHK; split <;> simp) hR
      simp (disch := omega) [h2, A0, hget, Aa, A7]
      refine A6 (q5c v) rfl ?_
      have hx := qIx ho (show v = 0 ∨ v = 1 by omega)
      simp (disch := omega) [q79, a1, ↓hx, A7]
      rw [hK]
      exact_mod_cast ih
    · rw [if_neg a1] at hR
      simp (disch := omega) [h2, A0, hget, Aa, A7]
      refine A6 (q5c v) rfl ?_
      simp (disch := omega) [q79, a1]
      exact h1 hR.symm
theorem qCr (l : List Int) (c : Option Nat) (nl : Option Bool) (hl : l.length ≤ 1000000000) (hv : ∀ v ∈ l, 0 ≤ v) : Ab Tryz.prog Γ 118 [.sl (Av l) c nl] (tK (q3T 0 l)) := by
  refine Ad qAO rfl ?_
  simp (disch := omega) [q6Q, A0, A7]
  refine qCq l c nl hl hv (q3T 0 l) ?_ (fun h => ?_) l.length 0 0 (by omega) (.inl rfl) (by simp)
  · simp [q1y, B0]
  · simp [q1y, B0, h]
end Go.Lg
namespace Go.Lg
open Go
section
variable {P : Program} {Γ : Tables} {Q : AX → St → Prop} {s : St}
/- probecard/scans.Pattern (function 30) -/
abbrev M4 : IC := .gh (.seq (.reg [od 12 (.bin .lss (tm 11) (tm 10))] [kp [0, 3, 9, 10, 11, 12] []]) (.seq (.cond (tm 12) .skip (.exit 0)) (.seq (.block 1 (.seq (.reg [od 13 (ia 1 9 11), od 14 (ld 1 13), om 5 14] [kp [0, 3, 5, 9, 10, 11] []]) (.seq
 (.reg [om 15 3, om 16 5, od 17 (le 0 16), od 18 (.bin .add (tm 15) (tm 17)), om 3 18] [kp [0, 3, 9, 10, 11] []]) (.seq (.reg [om 19 3, od 20 (.bin .lss (tm 19) (ki 0))] [kp [0, 3, 9, 10, 11, 20] []]) (.cond (tm 20) .dead .skip)))))
 (.reg [od 22 (.bin .add (tm 11) (ki 1)), om 11 22] [kp [0, 3, 9, 10, 11] []])))) [kp [0, 3, 9, 10, 11] []]
def E6 : IC := .loop M4
abbrev M5 : IC := .gh (.seq (.reg [od 28 (.bin .lss (tm 27) (tm 26))] [kp [6, 25, 26, 27, 28] [24022]]) (.seq (.cond (tm 28) .skip (.exit 2)) (.seq (.block 3 (.seq (.reg [od 29 (ia 1 25 27), od 30 (ld 1 29), om 8 30] [kp [6, 8, 25, 26, 27] [24022]])
 (.reg [om 31 6, om 32 8, oz 33 (.app false 68 1 (tm 31) (tm 32)) 24022, om 6 33] [kp [6, 25, 26, 27] [24022]]))) (.reg [od 34 (.bin .add (tm 27) (ki 1)), om 27 34] [kp [6, 25, 26, 27] [24022]])))) [kp [6, 25, 26, 27] [24022]]
def E7 : IC := .loop M5
abbrev M6 : IC := (.seq (.reg [od 2 (.mv kN)] [kp [0] []]) (.seq (.reg [od 3 (.mv (ki 0))] [kp [0, 3] []]) (.seq (.seq (.reg [om 9 0, od 10 (le 0 9), od 11 (.mv (ki 0))] [kp [0, 3, 9, 10, 11] []]) (.block 0 E6)) (.seq (.reg
 [om 23 3, od 24 (.hcall 138 [kN, (tm 23)] [] 24000), om 6 24] [kp [0, 6] [24022]]) (.seq (.seq (.reg [om 25 0, od 26 (le 0 25), od 27 (.mv (ki 0))] [kp [6, 25, 26, 27] [24022]]) (.block 2 E7)) (.seq (.reg
 [om 35 6, om 2 35] [kp [2] [24022]]) .ret))))))
theorem Ic (h : ∀ K : St → Prop, K = run P Γ E6 Q → run P Γ M4 (Ax K Q) s) : run P Γ E6 Q s := Aj h
theorem Ie (h : ∀ K : St → Prop, K = run P Γ E7 Q → run P Γ M5 (Ax K Q) s) : run P Γ E7 Q s := Aj h
def M7 : List RV := [.tmp 2]
/- slices.Clone[[]probecard/api.Value,probecard/api.Value] (function 93) -/
abbrev Ef : IC := (.seq (.reg [od 2 (.mv kN)] [kp [0] []]) (.seq (.seq (.reg [om 3 0, od 4 (.isNil true (tm 3))] [kp [0, 4] []]) (.cond (tm 4) (.seq (.reg [od 2 (.mv kN)] [kp [2] []]) .ret) .skip)) (.seq (.reg [od 5 (.bsl true 68 1 []), om 6 0, od 7
 (.appT 68 1 (tm 5) (tm 6)), om 2 7] [kp [2] []]) .ret)))
def Eg : List RV := [.tmp 2]
/- slices.Grow[[]probecard/api.Value,probecard/api.Value] (function 138) -/
abbrev Ol : IC := (.seq (.reg [od 4 (.mv kN)] [kp [0, 1] [22]]) (.seq (.seq (.reg [om 5 1, od 6 (.bin .lss (tm 5) (ki 0))] [kp [0, 1, 6] [22]]) (.cond (tm 6) .dead .skip)) (.seq (.seq (.reg [om 8 1, om 9 0, od 10 (.cap (tm 9)), om 11 0, od 12 (le 0
 11), od 13 (.bin .sub (tm 10) (tm 12)), od 14 (.bin .sub (tm 8) (tm 13)), om 1 14] [kp [0, 1] [22]]) (.seq (.reg [om 15 1, od 16 (.bin .gtr (tm 15) (ki 0))] [kp [0, 1, 16] [22]]) (.cond (tm 16) (.reg [om 17 0, om 18 0, od 19 (.cap
 (tm 18)), od 20 (.slice 1 (tm 17) none (some (tm 19)) none), om 21 1, od 22 (.appZ 68 1 [(.int .u8 0)] (tm 20) (tm 21)), om 23 0, od 24 (le 0 23), od 25 (.slice 1 (tm 22) none (some (tm 24)) none), om 0 25] [kp [0] [22]]) .skip)))
 (.seq (.reg [om 26 0, om 4 26] [kp [4] [22]]) .ret))))
def Om : List RV := [.tmp 4]
end
end Go.Lg
namespace Go.Lg
open Go Go.Proofs
theorem Xk : B1 Tryz.prog 91 M6 36 1 M7 = true := by kernel_rfl
theorem Z5 : B1 Tryz.prog 93 Ef 8 1 Eg = true := by kernel_rfl
theorem Zs : B1 Tryz.prog 138 Ol 27 2 Om = true := by kernel_rfl
end Go.Lg
namespace Go.Lg
open Go Go.Proofs
variable {Γ : Tables}
theorem qKe (n : Nat) (h0 : 0 < n) (hn : n ≤ 1000000000) : F4 Tryz.prog Γ 138 [] [.t (.sl [] (some 0) (some true)), .t (tI n)] (.ls 22 0 0 none) [(22, .sl 68 1 (List.replicate n [tK 0]))] := by
  refine G5 Zs rfl ?_
  have h1 : (0 : Int) < n := by omega
  have h2 : ¬ (n : Int) < 0 := by omega
  have h3 : (n : Int) ≤ 2147483648 := by omega
  simp (disch := omega) [Ol, Om, h1, h2, h3, h0, A7]
theorem qAz {Q : AX → St → Prop} (ss : List (Sl Int)) (cap : Option Nat) (nl : Option Bool) (hs : ss.length ≤ 1000) (hl : ∀ s ∈ ss, s.l.length ≤ 1000000) (N : Nat)
    (h0 : Q (.exit 0) ⟨[(0, .t (.sl (Ae tV ss) cap nl)), (3, .t (tI N)), (9, .t (.sl (Ae tV ss) cap nl)), (10, .t (tI ss.length)), (11, .t (tI ss.length)), (12, .t (tB false))], []⟩) :
    ∀ (k i m : Nat), k + i = ss.length → m ≤ i * 1000000 → m + ((ss.drop i).flatMap (·.l)).length = N →
    run Tryz.prog Γ E6 Q ⟨[(0, .t (.sl (Ae tV ss) cap nl)), (3, .t (tI m)), (9, .t (.sl (Ae tV ss) cap nl)), (10, .t (tI ss.length)), (11, .t (tI i))], []⟩
  | 0, i, m, h, hm, hN => by
    refine Ic fun K hK => ?_
    have h3 : i = ss.length := by omega
    subst h3
    rw [List.drop_of_length_le (Nat.le_refl _)] at hN
    simp at hN
    subst hN
    simp
    exact h0
  | k + 1, i, m, h, hm, hN => by
    refine Ic fun K hK => ?_
    have h2 : i < ss.length := by omega
    rw [List.drop_eq_getElem_cons h2] at hN
    have e := Bc (f := tV) ⟨[], none, none⟩ h2
    have e2 : ss[i]?.getD ⟨[], none, none⟩ = ss[i] := by simp [h2]
    rw [e2] at e
    have hsl := hl _ (List.getElem_mem h2)
    generalize ss[i] = s at *
    simp at hN
    have ih := qAz ss cap nl hs hl N h0 k (i + 1) (m + s.l.length) (by omega) (by omega) (by simp; omega)
    have e' : ∀ h : i < (Ae tV ss).length, (Ae tV ss)[i] = [tV s] := fun h => by rw [← e]; simp [h]
    have w1 : IntKind.i64.wrap ((m : Int) + (s.l.length : Int)) = ((m + s.l.length : Nat) : Int) := by rw [A7] <;> omega
    have w2 : ¬ ((m : Int) + (s.l.length : Int)) < 0 := by omega
    have w1' : IntKind.i64.wrap ((m : Int) + (s.l.length : Int)) = (m : Int) + (s.l.length : Int) := by rw [A7] <;> omega
    simp only [tV] at e e'
    simp [h2, A0, Aa, e, e', w1', w2]
    rw [A7 (by omega) (by omega), hK]
    simpa [tV] using ih
theorem qB0 {Q : AX → St → Prop} (ss : List (Sl Int)) (cap : Option Nat) (nl : Option Bool) (hs : ss.length ≤ 1000) (hl : ∀ s ∈ ss, s.l.length ≤ 1000000) (R : List Int)
    (h0 : ∀ E : List (List T), E.take R.length = Av R → Ou (.sl 68 1 E) → Q (.exit 2) ⟨[(6, .ls 24022 0 R.length none), (25, .t (.sl (Ae tV ss) cap nl)), (26, .t (tI ss.length)), (27, .t (tI ss.length)), (28, .t (tB false))], [(24022, .sl 68 1 E)]⟩) :
    ∀ (k i : Nat) (acc : List Int) (E : List (List T)), k + i = ss.length → acc.length ≤ i * 1000000 → E.take acc.length = Av acc → Ou (.sl 68 1 E) → acc ++ (ss.drop i).flatMap (·.l) = R →
    run Tryz.prog Γ E7 Q ⟨[(6, .ls 24022 0 acc.length none), (25, .t (.sl (Ae tV ss) cap nl)), (26, .t (tI ss.length)), (27, .t (tI i))], [(24022, .sl 68 1 E)]⟩
  | 0, i, acc, E, h, hm, hE, hF, hR => by
    refine Ie fun K hK => ?_
    have h3 : i = ss.length := by omega
    subst h3
    rw [List.drop_of_length_le (Nat.le_refl _)] at hR
    simp at hR
    subst hR
    simp
    exact h0 E hE hF
  | k + 1, i, acc, E, h, hm, hE, hF, hR => by
    refine Ie fun K hK => ?_
    have h2 : i < ss.length := by omega
    rw [List.drop_eq_getElem_cons h2] at hR
    have e := Bc (f := tV) ⟨[], none, none⟩ h2
    have e2 : ss[i]?.getD ⟨[], none, none⟩ = ss[i] := by simp [h2]
    rw [e2] at e
    have hsl := hl _ (List.getElem_mem h2)
    generalize ss[i] = s at *
    have q : Av acc ++ Av s.l = Av (acc ++ s.l) := qHA
    have ih := qB0 ss cap nl hs hl R h0 k (i + 1) (acc ++ s.l) (Av (acc ++ s.l)) (by omega) (by simp; omega) Bf (Xb fun _ => rfl) (by rw [← hR]; simp)
    have e' : ∀ h : i < (Ae tV ss).length, (Ae tV ss)[i] = [tV s] := fun h => by rw [← e]; simp [h]
    simp only [tV] at e e'
    have hm : min acc.length E.length = acc.length := by have := congrArg List.length hE; simpa [A0] using this
    simp [h2, A0, Aa, e, e', hE, q, hm]
    refine ⟨by omega, ?_⟩
    rw [A7 (by omega) (by omega), hK]
    simpa [tV] using ih
theorem q0L (ss : List (Sl Int)) (cap : Option Nat) (nl : Option Bool) (hs : ss.length ≤ 1000) (hl : ∀ s ∈ ss, s.l.length ≤ 1000000) (h0 : 0 < (ss.flatMap (·.l)).length) :
    Ab Tryz.prog Γ 91 [.sl (Ae tV ss) cap nl] (.sl (Av (ss.flatMap (·.l))) none none) := by
  refine Ad Xk rfl ?_
  have hb : ∀ l : List (Sl Int), (∀ s ∈ l, s.l.length ≤ 1000000) → (l.flatMap (·.l)).length ≤ l.length * 1000000 := by
    intro l
    induction l with
    | nil => intro _; simp
    | cons s l ih =>
      intro h
      have h1 := h s List.mem_cons_self
      have h2 := ih fun x hx => h x (List.mem_cons_of_mem _ hx)
      simp at h2 ⊢
      omega
  have hb := hb ss hl
  have g1 := fun Q h0 => qAz (Γ := Γ) (Q := Q) ss cap nl hs hl (ss.flatMap (·.l)).length h0 ss.length 0 0 (by omega) (by omega) (by simp)
  have g2 := qKe (Γ := Γ) (ss.flatMap (·.l)).length h0 (by omega)
  have g3 := fun Q h0 E hE hF => qB0 (Γ := Γ) (Q := Q) ss cap nl hs hl (ss.flatMap (·.l)) h0 ss.length 0 [] E (by omega) (by simp) hE hF (by simp)
  generalize ss.flatMap (·.l) = R at *
  simp [M6, A0]
  refine g1 _ ?_
  simp
  refine ⟨_, _, g2, ?_⟩
  simp [A0]
  refine g3 _ (fun E hE hF => ?_) _ (by simp [Ae]) (fun e he t ht => by rw [List.eq_of_mem_replicate he] at ht; simp at ht; subst ht; rfl)
  simp [M7, hE]
  exact hF
theorem q3h (l : List Int) (c : Option Nat) (nl : Option Bool) (x : Int) (hl : l.length ≤ 1000000000) : ∀ (k i : Nat), k + i = l.length → (∀ j, j < i → ∀ y, l[j]? = some y → (y == x) = false) →
    run Tryz.prog Γ Ee (Ny 0 (Ax (run Tryz.prog Γ (.seq (.reg Gx [.keep [4] []]) .ret) (ret true Dj fun r => r = tI (W1 (· == x) l))) (ret true Dj fun r => r = tI (W1 (· == x) l)))) ⟨[(0, .t (.sl (Ae tK l) c nl)), (1, .t (tK x)), (7, .t (tI l.length)), (8, .t (tI i))], []⟩
  | 0, i, h, hp => by
    refine Ir fun K hK => ?_
    have h2 : ¬ i < l.length := by omega
    simp (disch := omega) [A0, Bc (0 : Int), Aa, A7, h2, ret, Dj, Dq, Fv, Ft, B0]
    have : l.findIdx? (· == x) = none := by
      rw [List.findIdx?_eq_none_iff]
      intro y hy
      obtain ⟨j, hj, rfl⟩ := List.getElem_of_mem hy
      exact hp j (by omega) _ (List.getElem?_eq_getElem hj)
    have e : l.findIdx? (fun y => decide (y = x)) = _ := this
    simp [W1, e]
  | k + 1, i, h, hp => by
    refine Ir fun K hK => ?_
    have h2 : i < l.length := by omega
    simp (disch := omega) [A0, Bc (0 : Int), Aa, A7, h2]
    refine ⟨fun hc => ?_, fun hc => ?_⟩
    · simp [Bj, ret, Dj, Dq, Fv, Ft, B0]
      have := Yy (p := (· == x)) hp l[i] (List.getElem?_eq_getElem h2) (by simp [hc])
      have e : l.findIdx? (fun y => decide (y = x)) = _ := this
      simp [W1, e]
    · simp (disch := omega) [Bj, A7]
      rw [hK]
      exact_mod_cast q3h l c nl x hl k (i + 1) (by omega) (fun j hj y hy => by
        rcases Nat.lt_succ_iff_lt_or_eq.1 hj with hj | rfl
        · exact hp j hj y hy
        · rw [List.getElem?_eq_getElem h2] at hy; simp at hy; subst hy
          simp; exact fun e => hc e.symm)
theorem qG9 (l : List Int) (c : Option Nat) (nl : Option Bool) (x : Int) (hl : l.length ≤ 1000000000) : Ab Tryz.prog Γ 182 [.sl (Ae tK l) c nl, tK x] (tI (W1 (· == x) l)) := by
  refine Ad Z4 rfl ?_
  simp (disch := omega) [Nn, A0, A7]
  exact_mod_cast q3h l c nl x hl l.length 0 (by omega) (by simp)
theorem q6V (l : List Int) (c : Option Nat) (nl : Option Bool) (x : Int) (hl : l.length ≤ 1000000000) : Ab Tryz.prog Γ 160 [.sl (Ae tK l) c nl, tK x] (tB (l.contains x)) := by
  refine Ad Vk rfl ?_
  simp (disch := omega) [Jp, A0, A7]
  refine A6 (qG9 l c nl x hl) rfl ?_
  simp [ret, Jq, Dq, Fv, Ft, B0]
  unfold W1
  cases h : l.findIdx? (· == x) with
  | none =>
    rw [List.findIdx?_eq_none_iff] at h
    have : ¬ x ∈ l := fun hx => by simpa using h x hx
    simp [this]
  | some i =>
    rw [List.findIdx?_eq_some_iff_getElem] at h
    obtain ⟨hi, h1, _⟩ := h
    have : x ∈ l := by rw [← (show l[i] = x by simpa using h1)]; exact List.getElem_mem hi
    simp [this]
theorem Z6 {Q : AX → St → Prop} (l : List Int) (c : Option Nat) (nl : Option Bool) (f : FuncId) (cs : List T) (p : Int → Bool) (hp : ∀ x ∈ l, Ab Tryz.prog Γ f (tK x :: cs) (tB (p x))) (hl : l.length ≤ 1000000000)
    (h0 : (∀ x ∈ l, p x = false) → Q (.exit 0) ⟨[(0, .t (.sl (Ae tK l) c nl)), (1, .t (.fn f cs)), (7, .t (tI l.length)), (8, .t (tI l.length)), (9, .t (tB false))], []⟩)
    (h1 : ∀ i : Nat, l.findIdx? p = some i → Q .ret ⟨[(4, .t (tI i))], []⟩) : ∀ (k i : Nat), k + i = l.length → (∀ j, j < i → ∀ y, l[j]? = some y → p y = false) →
    run Tryz.prog Γ Dn Q ⟨[(0, .t (.sl (Ae tK l) c nl)), (1, .t (.fn f cs)), (7, .t (tI l.length)), (8, .t (tI i))], []⟩
  | 0, i, h, hq => by
    refine Gt fun K hK => ?_
    have h2 : ¬ i < l.length := by omega
    simp (disch := omega) [A0, Bc (0 : Int), Aa, A7, h2]
    have h3 : i = l.length := by omega
    subst h3
    refine h0 fun y hy => ?_
    obtain ⟨j, hj, rfl⟩ := List.getElem_of_mem hy
    exact hq j (by omega) _ (List.getElem?_eq_getElem hj)
  | k + 1, i, h, hq => by
    refine Gt fun K hK => ?_
    have h2 : i < l.length := by omega
    simp (disch := omega) [A0, Bc (0 : Int), Aa, A7, h2]
    refine Uc (hp l[i] (List.getElem_mem h2)) ?_
    simp
    refine ⟨fun hc => ?_, fun hc => ?_⟩
    · simp [Bj]
      exact h1 i (Yy hq l[i] (List.getElem?_eq_getElem h2) hc)
    · simp (disch := omega) [Bj, A7]
      rw [hK]
      exact_mod_cast Z6 l c nl f cs p hp hl h0 h1 k (i + 1) (by omega) (fun j hj y hy => by
        rcases Nat.lt_succ_iff_lt_or_eq.1 hj with hj | rfl
        · exact hq j hj y hy
        · rw [List.getElem?_eq_getElem h2] at hy; simp at hy; subst hy; exact hc)
theorem q53 (l : List Int) (c : Option Nat) (nl : Option Bool) (f : FuncId) (cs : List T) (p : Int → Bool) (hp : ∀ x ∈ l, Ab Tryz.prog Γ f (tK x :: cs) (tB (p x))) (hl : l.length ≤ 1000000000) : Ab Tryz.prog Γ 130 [.sl (Ae tK l) c nl, .fn f cs] (tI (W1 p l)) := by
  refine Ad Ui rfl ?_
  simp (disch := omega) [It, A0, A7]
  refine Z6 l c nl f cs p hp hl (fun h => ?_) (fun i h => ?_) l.length 0 (by omega) (by simp)
  · have : l.findIdx? p = none := List.findIdx?_eq_none_iff.2 h
    simp [ret, Ep, Dq, Fv, Ft, B0, W1, this]
  · simp [ret, Ep, Dq, Fv, Ft, B0, W1, h]
theorem E1 (l : List Int) (c : Option Nat) (nl : Option Bool) (f : FuncId) (cs : List T) (p : Int → Bool) (hp : ∀ x ∈ l, Ab Tryz.prog Γ f (tK x :: cs) (tB (p x))) (hl : l.length ≤ 1000000000) : Ab Tryz.prog Γ 76 [.sl (Ae tK l) c nl, .fn f cs] (tB (l.any p)) := by
  refine Ad Qi rfl ?_
  simp (disch := omega) [H6, A0, A7]
  refine A6 (q53 l c nl f cs p hp hl) rfl ?_
  simp [ret, H7, Dq, Fv, Ft, B0]
  unfold W1
  cases h : l.findIdx? p with
  | none =>
    rw [List.findIdx?_eq_none_iff] at h
    have : l.any p = false := by rw [List.any_eq_false]; intro x hx; simp [h x hx]
    simp [this]
  | some i =>
    rw [List.findIdx?_eq_some_iff_getElem] at h
    obtain ⟨hi, h1, _⟩ := h
    have : l.any p = true := List.any_eq_true.2 ⟨_, List.getElem_mem hi, h1⟩
    simp [this]
theorem qAS (l : List Int) (c : Option Nat) (nl : Option Bool) (hl : l.length ≤ 1000000000) : Ab Tryz.prog Γ 128 [.sl (Av l) c nl] (tB (q7A l)) := by
  refine Ad q5b rfl ?_
  simp [q0K]
  refine A6 (q6V l c nl 0 hl) rfl ?_
  simp
  by_cases h : (0 : Int) ∈ l
  · simp [h]
    refine A6 (q6V l c nl 1 hl) rfl ?_
    simp [S7, B0, q7A, h]
  · simp [h, S7, B0, q7A]
theorem qHQ (v : Int) : Ab Tryz.prog Γ 154 [tK v] (tB (qG5 v)) := by
  refine Ad q8J rfl ?_
  simp [q3d]
  refine A6 (q9X v) rfl ?_
  simp [q3e, B0, qG5]
theorem qHR (v : Int) : Ab Tryz.prog Γ 155 [tK v] (tB (qHL v)) := by
  refine Ad q8K rfl ?_
  simp [q3f, q3g, B0, qHL]
theorem qHS (l : List Int) (c : Option Nat) (nl : Option Bool) (hl : l.length ≤ 1000000000) : Ab Tryz.prog Γ 121 [.sl (Av l) c nl] (tK (q9P l)) := by
  refine Ad qAR rfl ?_
  simp [q6R]
  refine A6 (q53 l c nl _ [] qHL (fun x _ => qHR x) hl) rfl ?_
  unfold W1
  cases h : l.findIdx? qHL with
  | none =>
    have hR : q9P l = 3 := by unfold q9P; rw [h]
    simp [S5, B0, hR]
  | some i =>
    have hb : q9P l = if q7A l = true ∨ l.any qG5 = true then 2 else l.getD i 0 := by unfold q9P; rw [h]
    have hi : i < l.length := by
      rw [List.findIdx?_eq_some_iff_getElem] at h
      exact h.1
    have hget := Bc (f := tK) 0 hi
    have hgg : l[i]?.getD 0 = l.getD i 0 := by simp [List.getD_eq_getElem?_getD]
    rw [hgg] at hget
    have hneg : ¬ (i : Int) < 0 := by omega
    simp only
    simp [hneg]
    refine A6 (qAS l c nl hl) rfl ?_
    by_cases h1 : q7A l = true
    · rw [if_pos (.inl h1)] at hb
      simp [h1, S5, B0, hb]
    · simp [h1]
      refine A6 (E1 l c nl _ [] qG5 (fun x _ => qHQ x) hl) rfl ?_
      by_cases h2 : l.any qG5 = true
      · rw [if_pos (.inr h2)] at hb
        simp only [h2]
        simp [S5, B0, hb]
      · rw [if_neg (by rintro (h | h); exact h1 h; exact h2 h)] at hb
        simp only [Bool.not_eq_true] at h2
        generalize q9P l = r at *
        subst hb
        simp only [h2]
        simp (disch := omega) [S5, B0, A0, Aa, hget, hi]
theorem qGA (hΓ : GOk Γ) (k : Int) (hk : 0 ≤ k ∧ k ≤ 255) (l : List Int) (c : Option Nat) (nl : Option Bool) (hl : l.length ≤ 1000000000) (hv : ∀ v ∈ l, V4 v) : Ab Tryz.prog Γ 57 [tK k, .sl (Av l) c nl] (tK (Tt k l)) := by
  refine Ad q9W rfl ?_
  unfold Tt
  by_cases hw : q5Z k l.length = true
  · rw [if_pos hw]
    simp only [q5Z, decide_eq_true_eq] at hw
    simp [Bw]
    refine A6 (Dl hΓ k hk.1 hk.2) rfl ?_
    by_cases hw1 : (l.length : Int) < (Uz k).1
    · simp [A0, hw1, Bq, B0]
    · have hw2 : (Uz k).2 < (l.length : Int) := by omega
      simp [A0, hw1, hw2, Bq, B0]
  rw [if_neg hw]
  simp only [q5Z, decide_eq_true_eq] at hw
  have hw1 : ¬ (l.length : Int) < (Uz k).1 := by omega
  have hw2 : ¬ (Uz k).2 < (l.length : Int) := by omega
  have hv0 : ∀ v ∈ l, 0 ≤ v := fun v h => (hv v h).1
  have ge : ∀ i, i < l.length → (Ae tK l)[i]?.getD [] = [tK (l.getD i 0)] := fun i hi => by
    have hget := Bc (f := tK) 0 hi
    have hgg : l[i]?.getD 0 = l.getD i 0 := by simp [List.getD_eq_getElem?_getD]
    rw [hgg] at hget
    exact hget
  have dA := q1G (low := 0) (l := l) (out := 1) (high := 1) (.inr rfl)
  have dO := q1G (low := 1) (l := l) (out := 0) (high := 0) (.inr rfl)
  have n1 : 0 ≤ Oi 0 1 1 l := by rw [dA]; split; omega; split <;> omega
  have n2 : 0 ≤ Oi 1 0 0 l := by rw [dO]; split; omega; split <;> omega
  have n3 : 0 ≤ q3T 0 l := (qEL (by simp [V4]) hv).1
  have g0 := q5a hv 0
  by_cases e1 : k = 1
  · subst e1
    have hR : Fz 1 l = 0 := rfl
    generalize Fz 1 l = r at *
    subst hR
    simp [Bw]
    refine A6 (Dl hΓ 1 hk.1 hk.2) rfl ?_
    simp [A0, hw1, hw2, Bj, Bq, B0]
  by_cases e2 : k = 2
  · subst e2
    have hR : Fz 2 l = 1 := rfl
    generalize Fz 2 l = r at *
    subst hR
    simp [Bw]
    refine A6 (Dl hΓ 2 hk.1 hk.2) rfl ?_
    simp [A0, hw1, hw2, Bj, Bq, B0]
  by_cases e3 : k = 3
  · subst e3
    have f1 : (Uz 3).1 = 1 := rfl
    have q0 : 0 < l.length := by omega
    have u0 := ge 0 q0
    have hR : Fz 3 l = B8 (l.getD 0 0) := rfl
    generalize l.getD 0 0 = x0 at *
    generalize Fz 3 l = r at *
    subst hR
    simp [Bw]
    refine A6 (Dl hΓ 3 hk.1 hk.2) rfl ?_
    simp [A0, hw1, hw2, Bj]
    simp (disch := omega) [A0, Aa, q0, u0]
    refine A6 (Ib x0) rfl ?_
    simp [Bq, B0]
  by_cases e4 : k = 4
  · subst e4
    have f1 : (Uz 4).1 = 1 := rfl
    have q0 : 0 < l.length := by omega
    have u0 := ge 0 q0
    have p0 := g0.1
    have hR : Fz 4 l = q0r (l.getD 0 0) := rfl
    generalize l.getD 0 0 = x0 at *
    generalize Fz 4 l = r at *
    subst hR
    simp [Bw]
    refine A6 (Dl hΓ 4 hk.1 hk.2) rfl ?_
    simp [A0, hw1, hw2, Bj]
    simp (disch := omega) [A0, Aa, q0, u0]
    refine A6 (q6T x0 p0) rfl ?_
    simp [Bq, B0]
  by_cases e5 : k = 5
  · subst e5
    have hR : Fz 5 l = Oi 0 1 1 l := rfl
    generalize Fz 5 l = r at *
    subst hR
    simp [Bw]
    refine A6 (Dl hΓ 5 hk.1 hk.2) rfl ?_
    simp [A0, hw1, hw2, Bj]
    refine A6 (qCp l c nl hl) rfl ?_
    simp [Bq, B0]
  by_cases e6 : k = 6
  · subst e6
    have hR : Fz 6 l = q0r (Oi 0 1 1 l) := rfl
    generalize Fz 6 l = r at *
    subst hR
    simp [Bw]
    refine A6 (Dl hΓ 6 hk.1 hk.2) rfl ?_
    simp [A0, hw1, hw2, Bj]
    refine A6 (qCp l c nl hl) rfl ?_
    simp
    refine A6 (q6T _ n1) rfl ?_
    simp [Bq, B0]
  by_cases e7 : k = 7
  · subst e7
    have hR : Fz 7 l = Oi 1 0 0 l := rfl
    generalize Fz 7 l = r at *
    subst hR
    simp [Bw]
    refine A6 (Dl hΓ 7 hk.1 hk.2) rfl ?_
    simp [A0, hw1, hw2, Bj]
    refine A6 (qF8 l c nl hl) rfl ?_
    simp [Bq, B0]
  by_cases e8 : k = 8
  · subst e8
    have hR : Fz 8 l = q0r (Oi 1 0 0 l) := rfl
    generalize Fz 8 l = r at *
    subst hR
    simp [Bw]
    refine A6 (Dl hΓ 8 hk.1 hk.2) rfl ?_
    simp [A0, hw1, hw2, Bj]
    refine A6 (qF8 l c nl hl) rfl ?_
    simp
    refine A6 (q6T _ n2) rfl ?_
    simp [Bq, B0]
  by_cases e9 : k = 9
  · subst e9
    have hR : Fz 9 l = q3T 0 l := rfl
    generalize Fz 9 l = r at *
    subst hR
    simp [Bw]
    refine A6 (Dl hΓ 9 hk.1 hk.2) rfl ?_
    simp [A0, hw1, hw2, Bj]
    refine A6 (qCr l c nl hl hv0) rfl ?_
    simp [Bq, B0]
  by_cases e10 : k = 10
  · subst e10
    have hR : Fz 10 l = q0r (q3T 0 l) := rfl
    generalize Fz 10 l = r at *
    subst hR
    simp [Bw]
    refine A6 (Dl hΓ 10 hk.1 hk.2) rfl ?_
    simp [A0, hw1, hw2, Bj]
    refine A6 (qCr l c nl hl hv0) rfl ?_
    simp
    refine A6 (q6T _ n3) rfl ?_
    simp [Bq, B0]
  by_cases e11 : k = 11
  · subst e11
    have f1 : (Uz 11).1 = 3 := rfl
    have q0 : 0 < l.length := by omega
    have u0 := ge 0 q0
    have q1 : 1 < l.length := by omega
    have u1 := ge 1 q1
    have q2 : 2 < l.length := by omega
    have u2 := ge 2 q2
    have hR : Fz 11 l = qAL (l.getD 0 0) (l.getD 1 0) (l.getD 2 0) := rfl
    generalize l.getD 0 0 = x0 at *
    generalize l.getD 1 0 = x1 at *
    generalize l.getD 2 0 = x2 at *
    generalize Fz 11 l = r at *
    subst hR
    simp [Bw]
    refine A6 (Dl hΓ 11 hk.1 hk.2) rfl ?_
    simp [A0, hw1, hw2, Bj]
    simp (disch := omega) [A0, Aa, q0, u0, q1, u1, q2, u2]
    refine ⟨by omega, by omega, ?_⟩
    refine A6 (qHO x0 x1 x2) rfl ?_
    simp [Bq, B0]
  by_cases e12 : k = 12
  · subst e12
    have f1 : (Uz 12).1 = 2 := rfl
    have q0 : 0 < l.length := by omega
    have u0 := ge 0 q0
    have q1 : 1 < l.length := by omega
    have u1 := ge 1 q1
    have hR : Fz 12 l = qBo (l.getD 0 0) (l.getD 1 0) := rfl
    generalize l.getD 0 0 = x0 at *
    generalize l.getD 1 0 = x1 at *
    generalize Fz 12 l = r at *
    subst hR
    simp [Bw]
    refine A6 (Dl hΓ 12 hk.1 hk.2) rfl ?_
    simp [A0, hw1, hw2, Bj]
    simp (disch := omega) [A0, Aa, q0, u0, q1, u1]
    refine ⟨by omega, ?_⟩
    refine A6 (qHP x0 x1) rfl ?_
    simp [Bq, B0]
  by_cases e13 : k = 13
  · subst e13
    have hR : Fz 13 l = q9P l := rfl
    generalize Fz 13 l = r at *
    subst hR
    simp [Bw]
    refine A6 (Dl hΓ 13 hk.1 hk.2) rfl ?_
    simp [A0, hw1, hw2, Bj]
    refine A6 (qHS l c nl hl) rfl ?_
    simp [Bq, B0]
  have ek : Fz k l = 2 := by
    unfold Fz
    rw [if_neg e1, if_neg e2, if_neg e3, if_neg e4, if_neg e5, if_neg e6, if_neg e7, if_neg e8, if_neg e9, if_neg e10, if_neg e11, if_neg e12, if_neg e13]
  rw [ek]
  simp [Bw]
  refine A6 (Dl hΓ k hk.1 hk.2) rfl ?_
  simp [A0, hw1, hw2, Bq, B0, e1, e2, e3, e4, e5, e6, e7, e8, e9, e10, e11, e12, e13]
end Go.Lg
namespace Go.Lg
open Go
section
variable {P : Program} {Γ : Tables} {Q : AX → St → Prop} {s : St}
/- slices.SortStableFunc[[]int,int] (function 110) -/
abbrev Jr : IC := (.reg [om 4 0, om 5 0, od 6 (le 0 5), om 7 1, od 8 (.hcall 150 [(tm 4), (tm 6), (tm 7)] [1000000] 8000)] [kp [] [1000000]])
def Js : List RV := []
/- slices.stableCmpFunc[int] (function 150) -/
abbrev Kt : IC := .gh (.seq (.seq (.reg [om 11 8, om 12 1, od 13 (.bin .leq (tm 11) (tm 12))] [kp [0, 1, 2, 6, 7, 8, 13] [1000000]]) (.cond (tm 13) .skip (.exit 0))) (.block 1 (.seq (.reg [om 14 0, om 15 7, om 16 8, om 17 2, od 18 (.hcall 177 [(tm
 14), (tm 15), (tm 16), (tm 17)] [1000000] 18000)] [kp [0, 1, 2, 6, 8] [1000000]]) (.seq (.reg [om 19 8, om 7 19] [kp [0, 1, 2, 6, 7, 8] [1000000]]) (.reg [om 20 8, om 21 6, od 22 (.bin .add (tm 20) (tm 21)), om 8 22] [kp [0, 1, 2,
 6, 7, 8] [1000000]]))))) [kp [0, 1, 2, 6, 7, 8] [1000000]]
def Fh : IC := .loop Kt
abbrev Xl : IC := .gh (.seq (.seq (.reg [om 33 8, om 34 1, od 35 (.bin .leq (tm 33) (tm 34))] [kp [0, 1, 2, 6, 7, 8, 35] [1000000]]) (.cond (tm 35) .skip (.exit 4))) (.block 5 (.seq (.reg [om 36 0, om 37 7, om 38 7, om 39 6, od 40 (.bin .add (tm 38)
 (tm 39)), om 41 8, om 42 2, od 43 (.hcall 178 [(tm 36), (tm 37), (tm 40), (tm 41), (tm 42)] [1000000] 43000)] [kp [0, 1, 2, 6, 8] [1000000]]) (.seq (.reg [om 44 8, om 7 44] [kp [0, 1, 2, 6, 7, 8] [1000000]]) (.reg [om 45 8, om 46
 6, od 47 (.bin .mul (ki 2) (tm 46)), od 48 (.bin .add (tm 45) (tm 47)), om 8 48] [kp [0, 1, 2, 6, 7, 8] [1000000]]))))) [kp [0, 1, 2, 6, 7, 8] [1000000]]
def Xm : IC := .loop Xl
abbrev Ku : IC := .gh (.seq (.seq (.reg [om 28 6, om 29 1, od 30 (.bin .lss (tm 28) (tm 29))] [kp [0, 1, 2, 6, 30] [1000000]]) (.cond (tm 30) .skip (.exit 2))) (.block 3 (.seq (.reg [om 31 6, od 32 (.bin .mul (ki 2) (tm 31)), od 7 (.mv (ki 0)), om 8
 32] [kp [0, 1, 2, 6, 7, 8] [1000000]]) (.seq (.block 4 Xm) (.seq (.seq (.reg [om 49 7, om 50 6, od 51 (.bin .add (tm 49) (tm 50)), om 9 51] [kp [0, 1, 2, 6, 7, 9] [1000000]]) (.seq (.reg [om 52 9, om 53 1,
 od 54 (.bin .lss (tm 52) (tm 53))] [kp [0, 1, 2, 6, 7, 9, 54] [1000000]]) (.cond (tm 54) (.reg [om 55 0, om 56 7, om 57 9, om 58 1, om 59 2, od 60 (.hcall 178 [(tm 55), (tm 56), (tm 57), (tm 58), (tm 59)] [1000000] 60000)] [kp [0,
 1, 2, 6] [1000000]]) .skip))) (.reg [om 61 6, od 62 (.bin .mul (tm 61) (ki 2)), om 6 62] [kp [0, 1, 2, 6] [1000000]])))))) [kp [0, 1, 2, 6] [1000000]]
def Fj : IC := .loop Ku
abbrev Kv : IC := (.seq (.reg [od 6 (.mv (ki 20))] [kp [0, 1, 2, 6] [1000000]]) (.seq (.reg [om 10 6, od 7 (.mv (ki 0)), om 8 10] [kp [0, 1, 2, 6, 7, 8] [1000000]]) (.seq (.block 0 Fh) (.seq (.reg [om 23 0, om 24 7, om 25 1,
 om 26 2, od 27 (.hcall 177 [(tm 23), (tm 24), (tm 25), (tm 26)] [1000000] 27000)] [kp [0, 1, 2, 6] [1000000]]) (.block 2 Fj)))))
theorem Ta (h : ∀ K : St → Prop, K = run P Γ Fh Q → run P Γ Kt (Ax K Q) s) : run P Γ Fh Q s := Aj h
theorem Tc (h : ∀ K : St → Prop, K = run P Γ Fj Q → run P Γ Ku (Ax K Q) s) : run P Γ Fj Q s := Aj h
def Kw : List RV := []
/- slices.insertionSortCmpFunc[int] (function 177) -/
abbrev Gi : IC := .gh (.seq (.seq (.reg [om 18 9, om 19 1, od 20 (.bin .gtr (tm 18) (tm 19)), om 21 20, oT 22 (.mv (tm 3)) 21, oT 23 (.mv (tm 0)) 21, oT 24 (.mv (tm 9)) 21, oT 25 (ia 1 23 24) 21, oT 26 (ld 1 25) 21, oT 27 (.mv (tm 0)) 21, oT 28 (.mv
 (tm 9)) 21, oT 29 (.bin .sub (tm 28) (ki 1)) 21, oT 30 (ia 1 27 29) 21, oT 31 (ld 1 30) 21, oT 32 (.callv (tm 22) [(tm 26), (tm 31)]) 21, oT 33 (.bin .lss (tm 32) (ki 0)) 21, od 34 (.pick (tm 21) (tm 33) kF)] [kp [0, 1, 2, 3, 8, 9,
 34] [1000000]]) (.cond (tm 34) .skip (.exit 2))) (.seq (.block 3 (.reg [om 37 0, om 38 9, om 39 0, om 40 9, od 41 (.bin .sub (tm 40) (ki 1)), om 42 0, om 43 9, od 44 (.bin .sub (tm 43) (ki 1)), od 45 (ia 1 42 44), od 46 (.ldR
 1000000 1 false (tm 45)), om 47 0, om 48 9, od 49 (ia 1 47 48), od 50 (.ldR 1000000 1 false (tm 49)), od 51 (ia 1 37 38), on (.stR 1000000 1 (tm 51) (tm 46)), od 52 (ia 1 39 41), on (.stR 1000000 1 (tm 52) (tm 50))] [kp [0, 1, 2,
 3, 8, 9] [1000000]])) (.reg [om 35 9, od 36 (.bin .sub (tm 35) (ki 1)), om 9 36] [kp [0, 1, 2, 3, 8, 9] [1000000]]))) [kp [0, 1, 2, 3, 8, 9] [1000000]]
def C9 : IC := .loop Gi
abbrev Gj : IC := .gh (.seq (.seq (.reg [om 12 8, om 13 2, od 14 (.bin .lss (tm 12) (tm 13))] [kp [0, 1, 2, 3, 8, 14] [1000000]]) (.cond (tm 14) .skip (.exit 0))) (.seq (.block 1 (.seq (.reg [om 17 8, om 9 17] [kp [0, 1, 2, 3, 8, 9] [1000000]])
 (.block 2 C9))) (.reg [om 15 8, od 16 (.bin .add (tm 15) (ki 1)), om 8 16] [kp [0, 1, 2, 3, 8] [1000000]]))) [kp [0, 1, 2, 3, 8] [1000000]]
def Cb : IC := .loop Gj
abbrev Gk : IC := (.seq (.reg [om 10 1, od 11 (.bin .add (tm 10) (ki 1)), om 8 11] [kp [0, 1, 2, 3, 8] [1000000]]) (.block 0 Cb))
theorem Es (h : ∀ K : St → Prop, K = run P Γ C9 Q → run P Γ Gi (Ax K Q) s) : run P Γ C9 Q s := Aj h
theorem Et (h : ∀ K : St → Prop, K = run P Γ Cb Q → run P Γ Gj (Ax K Q) s) : run P Γ Cb Q s := Aj h
def Gm : List RV := []
/- probecard/netlists.Order (function 53) -/
abbrev q0M : IC := .gh (.seq (.reg [od 23 (.bin .lss (tm 22) (tm 21))] [kp [4, 6, 21, 22, 23] [19]]) (.seq (.cond (tm 23) .skip (.exit 0)) (.seq (.block 1 (.seq (.reg [om 24 22, om 7 24] [kp [4, 6, 7, 21, 22] [19]]) (.reg [om 25 6, om 26 7, om 27 7,
 od 28 (ia 1 25 26), on (.store 1 (tm 28) (tm 27))] [kp [4, 6, 21, 22] [19]]))) (.reg [od 29 (.bin .add (tm 22) (ki 1)), om 22 29] [kp [4, 6, 21, 22] [19]])))) [kp [4, 6, 21, 22] [19]]
def Kx : IC := .loop q0M
abbrev q0N : IC := (.seq (.reg [od 1 (.box true (tm 0)), od 2 (.mv kN), od 3 (.mv (ki 0))] [kp [1] []]) (.seq (.reg [od 9 (lG 4 1), od 10 (.call 109 [(tm 9)]), om 8 10, od 11 (ex 8 0), od 12 (ex 8 1), od 4 (.alloc false [(.slice none 0 0)]), on
 (.store 1 (tm 4) (tm 11)), om 5 12] [.frz 4, kp [1, 4, 5] []]) (.seq (.seq (.reg [om 13 5, od 14 (.bin .neq (tm 13) (ki 0))] [kp [1, 4, 5, 14] []]) (.cond (tm 14) (.seq (.reg [om 15 5, od 2 (.mv kN), om 3 15] [kp [2, 3] [19]])
 .ret) .skip)) (.seq (.reg [od 16 (fa 0 1), od 17 (ld 1 16), od 18 (le 0 17), od 19 (.mk 3 1 [(.int .i64 0)] (tm 18) (tm 18)), om 6 19] [kp [4, 6] [19]]) (.seq (.seq (.reg [om 20 6, od 21 (le 0 20), od 22 (.mv (ki 0))] [kp [4, 6,
 21, 22] [19]]) (.block 0 Kx)) (.seq (.reg [om 30 6, od 31 (.mkf 111 [(tm 4)]), od 32 (.hcall 110 [(tm 30), (tm 31)] [19] 32000)] [kp [6] [19]]) (.seq (.reg [om 33 6, om 2 33, od 3 (.mv (ki 0))] [kp [2, 3] [19]])
 .ret)))))))
theorem Tu (h : ∀ K : St → Prop, K = run P Γ Kx Q → run P Γ q0M (Ax K Q) s) : run P Γ Kx Q s := Aj h
def S8 : List RV := [.tmp 2, .tmp 3]
/- probecard/netlists.Order$1 (function 111) -/
abbrev Ww : IC := (.seq (.reg [od 5 (.mv (ki 0))] [kp [0, 1, 2] []]) (.seq (.reg [od 6 (ld 1 2), om 7 0, od 8 (ia 1 6 7), od 9 (ld 1 8), od 10 (ld 1 2), om 11 1, od 12 (ia 1 10 11), od 13 (ld 1 12), od 14 (.call 112 [(tm 9), (tm 13)]), om 5 14] [kp
 [5] []]) .ret))
def Wx : List RV := [.tmp 5]
/- cmp.Compare[int] (function 112) -/
abbrev Z7 : IC := (.seq (.reg [od 4 (.mv (ki 0))] [kp [0, 1] []]) (.seq (.reg [om 7 0, od 8 (.call 151 [(tm 7)]), om 5 8] [kp [0, 1, 5] []]) (.seq (.reg [om 9 1, od 10 (.call 151 [(tm 9)]), om 6 10] [kp [0, 1, 5, 6] []]) (.seq (.seq (.reg [om 11 5]
 [kp [0, 1, 6, 11] []]) (.cond (tm 11) (.seq (.seq (.reg [om 12 6] [kp [12] []]) (.cond (tm 12) (.seq (.reg [od 4 (.mv (ki 0))] [kp [4] []]) .ret) .skip)) (.seq (.reg [od 4 (.mv (.const (.int .i64 (-1))))] [kp [4] []]) .ret))
 .skip)) (.seq (.seq (.reg [om 13 6] [kp [0, 1, 13] []]) (.cond (tm 13) (.seq (.reg [od 4 (.mv (ki 1))] [kp [4] []]) .ret) .skip)) (.seq (.seq (.reg [om 14 0, om 15 1, od 16 (.bin .lss (tm 14) (tm 15))] [kp [0, 1, 16] []]) (.cond
 (tm 16) (.seq (.reg [od 4 (.mv (.const (.int .i64 (-1))))] [kp [4] []]) .ret) .skip)) (.seq (.seq (.reg [om 17 0, om 18 1, od 19 (.bin .gtr (tm 17) (tm 18))] [kp [19] []]) (.cond (tm 19) (.seq (.reg [od 4 (.mv (ki 1))] [kp [4] []])
 .ret) .skip)) (.seq (.reg [od 4 (.mv (ki 0))] [kp [4] []]) .ret))))))))
def Pj : List RV := [.tmp 4]
/- cmp.isNaN[int] (function 151) -/
abbrev q1O : IC := (.seq (.reg [od 2 (.mv kF)] [kp [0] []]) (.seq (.reg [om 3 0, om 4 0, od 5 (.bin .neq (tm 3) (tm 4)), om 2 5] [kp [2] []]) .ret))
def q1P : List RV := [.tmp 2]
end
end Go.Lg
namespace Go.Lg
open Go Go.Proofs
theorem Vl : B1 Tryz.prog 110 Jr 9 2 Js = true := by kernel_rfl
theorem W4 : B1 Tryz.prog 150 Kv 63 3 Kw = true := by kernel_rfl
theorem On : B1 Tryz.prog 177 Gk 53 4 Gm = true := by kernel_rfl
theorem q5d : B1 Tryz.prog 53 q0N 34 1 S8 = true := by kernel_rfl
theorem q3i : B1 Tryz.prog 111 Ww 15 3 Wx = true := by kernel_rfl
theorem q4b : B1 Tryz.prog 112 Z7 20 2 Pj = true := by kernel_rfl
theorem q6W : B1 Tryz.prog 151 q1O 6 1 q1P = true := by kernel_rfl
end Go.Lg
namespace Go.Lg
open Go Go.Proofs
variable {Γ : Tables}
theorem qCs {hp : List (Nat × Bl)} {f : FuncId} {K : T → Prop} {cs : List T} {t u res : T} (h : Ab Tryz.prog Γ f (t :: u :: cs) res) (hk : K res) : q7h Tryz.prog Γ hp f (.t t :: .t u :: cs.map .t) K ⟨⟩ :=
  A6 h (by simp only [List.map_cons, List.map_map, Function.comp_def, Bd, Ak]; rw [q3M]; rfl) hk
theorem qHT {l : List Int} {a b : Nat} : Ao (Ws l a b) = ((Ao l).set a [tI (l.getD b 0)]).set b [tI (l.getD a 0)] := by
  show Ae tI _ = ((Ae tI l).set a _).set b _
  rw [Gf, Gf]; rfl
theorem ge1 {f : Int → T} {l : List Int} {i : Nat} (hi : i < l.length) : (Ae f l)[i]?.getD [] = [f (l.getD i 0)] := by
  have hget := Bc (f := f) 0 hi
  have hgg : l[i]?.getD 0 = l.getD i 0 := by simp [List.getD_eq_getElem?_getD]
  rw [hgg] at hget
  exact hget
theorem qB1 {Q : AX → St → Prop} (ty n : Nat) (cap : Option Nat) (hn : n ≤ 1000000000) (f : FuncId) (cs : List T) (cmp : Int → Int → Int) (i : Nat) (hi : i < n) (R : List Int)
    (h0 : ∀ j : Int, Q (.exit 2) ⟨[(0, .ls 1000000 0 n cap), (1, .t (tI 0)), (2, .t (tI n)), (3, .t (.fn f cs)), (8, .t (tI i)), (9, .t (tI j)), (34, .t (tB false))], [(1000000, .sl ty 1 (Ao R))]⟩) :
    ∀ (j : Nat) (l : List Int), j ≤ i → l.length = n → (∀ x ∈ l, ∀ y ∈ l, Ab Tryz.prog Γ f (tI x :: tI y :: cs) (tI (cmp x y))) → q9S (fun a b => decide (cmp a b < 0)) j l = R →
    run Tryz.prog Γ C9 Q ⟨[(0, .ls 1000000 0 n cap), (1, .t (tI 0)), (2, .t (tI n)), (3, .t (.fn f cs)), (8, .t (tI i)), (9, .t (tI j))], [(1000000, .sl ty 1 (Ao l))]⟩
  | 0, l, hj, hl, hc, hR => by
    refine Es fun K hK => ?_
    simp only [q9S] at hR
    subst hR
    simp
    exact h0 0
  | j + 1, l, hj, hl, hc, hR => by
    refine Es fun K hK => ?_
    simp only [q9S] at hR
    have la : j < l.length := by omega
    have lb : j + 1 < l.length := by omega
    have e1 := ge1 (f := tI) la
    have e2 := ge1 (f := tI) lb
    have m1 : l.getD j 0 ∈ l := by rw [B2 la]; exact List.getElem_mem la
    have m2 : l.getD (j + 1) 0 ∈ l := by rw [B2 lb]; exact List.getElem_mem lb
    have hcc := hc _ m2 _ m1
    have hs := qHT (l := l) (a := j + 1) (b := j)
    have hperm : (Ws l (j + 1) j).Perm l := q5V lb la
    have hpl := q1F (l := l) (a := j + 1) (b := j)
    have hcs : ∀ x ∈ Ws l (j + 1) j, ∀ y ∈ Ws l (j + 1) j, Ab Tryz.prog Γ f (tI x :: tI y :: cs) (tI (cmp x y)) := fun x hx y hy => hc x (hperm.mem_iff.1 hx) y (hperm.mem_iff.1 hy)
    have ih := qB1 ty n cap hn f cs cmp i hi R h0 j (Ws l (j + 1) j) (by omega) (by rw [hpl]; exact hl) hcs
    generalize Ws l (j + 1) j = l' at *
    generalize l.getD j 0 = va at *
    generalize l.getD (j + 1) 0 = vb at *
    have hj1 : (0 : Int) < (j : Int) + 1 := by omega
    have hj2 : ((j : Int) + 1).toNat = j + 1 := by omega
    have hj3 : (j : Int) + 1 < n := by omega
    have hj4 : (j : Int) < n := by omega
    have hj5 : (j : Int) + 1 - 1 = j := by omega
    have lan : j < n := by omega
    have lbn : j + 1 < n := by omega
    simp (disch := omega) [hj1, hj2, hj3, hj4, hj5, lan, lbn, A0, Aa, hl, e1, e2, A7]
    refine ⟨by omega, qCs hcc ?_⟩
    by_cases h : cmp vb va < 0
    · rw [if_pos (by simpa using h)] at hR
      have ih := ih hR
      rw [hs] at ih
      simp (disch := omega) [h, hj1, hj2, hj3, hj4, hj5, lan, lbn, A0, Aa, hl, e1, e2, A7]
      refine ⟨by omega, ?_⟩
      rw [hK]
      exact_mod_cast ih
    · rw [if_neg (by simpa using h)] at hR
      subst hR
      simp (disch := omega) [h]
      exact_mod_cast h0 (j + 1)
theorem qCt {Q : AX → St → Prop} (ty n : Nat) (cap : Option Nat) (hn : n ≤ 1000000000) (f : FuncId) (cs : List T) (cmp : Int → Int → Int) (R : List Int)
    (h0 : ∀ i : Int, Q (.exit 0) ⟨[(0, .ls 1000000 0 n cap), (1, .t (tI 0)), (2, .t (tI n)), (3, .t (.fn f cs)), (8, .t (tI i)), (14, .t (tB false))], [(1000000, .sl ty 1 (Ao R))]⟩) :
    ∀ (k i : Nat) (l : List Int), 1 ≤ i → i + k = max 1 n → l.length = n → (∀ x ∈ l, ∀ y ∈ l, Ab Tryz.prog Γ f (tI x :: tI y :: cs) (tI (cmp x y))) → q3X (fun a b => decide (cmp a b < 0)) k i l = R →
    run Tryz.prog Γ Cb Q ⟨[(0, .ls 1000000 0 n cap), (1, .t (tI 0)), (2, .t (tI n)), (3, .t (.fn f cs)), (8, .t (tI i))], [(1000000, .sl ty 1 (Ao l))]⟩
  | 0, i, l, h1, h, hl, hc, hR => by
    refine Et fun K hK => ?_
    simp only [q3X] at hR
    subst hR
    have h2 : ¬ (i : Int) < n := by omega
    have h2' : ¬ i < n := by omega
    simp [h2, h2']
    exact h0 _
  | k + 1, i, l, h1, h, hl, hc, hR => by
    refine Et fun K hK => ?_
    simp only [q3X] at hR
    have h2 : (i : Int) < n := by omega
    have h2' : i < n := by omega
    have hperm := q4H (lt := fun a b => decide (cmp a b < 0)) (j := i) (l := l) (by omega)
    have ih := qCt ty n cap hn f cs cmp R h0 k (i + 1) (q9S (fun a b => decide (cmp a b < 0)) i l) (by omega) (by omega) (by rw [hperm.length_eq]; exact hl) (fun x hx y hy => hc x (hperm.mem_iff.1 hx) y (hperm.mem_iff.1 hy)) hR
    have hlp := fun Q h0 => qB1 (Γ := Γ) (Q := Q) ty n cap hn f cs cmp i h2' _ h0 i l (Nat.le_refl _) hl hc rfl
    simp (disch := omega) [h2, h2', A7]
    refine hlp _ fun j => ?_
    simp (disch := omega) [A7]
    rw [hK]
    exact_mod_cast ih
theorem qCu (ty n : Nat) (cap : Option Nat) (hn : n ≤ 1000000000) (f : FuncId) (cs : List T) (cmp : Int → Int → Int) (l : List Int) (hl : l.length = n) (hc : ∀ x ∈ l, ∀ y ∈ l, Ab Tryz.prog Γ f (tI x :: tI y :: cs) (tI (cmp x y))) :
    F4 Tryz.prog Γ 177 [(1000000, .sl ty 1 (Ao l))] [.ls 1000000 0 n cap, .t (tI 0), .t (tI n), .t (.fn f cs)] (.t (.tup [])) [(1000000, .sl ty 1 (Ao (q3X (fun a b => decide (cmp a b < 0)) (n - 1) 1 l)))] := by
  refine G5 On rfl ?_
  have hlp := fun Q h0 => qCt (Γ := Γ) (Q := Q) ty n cap hn f cs cmp _ h0 (n - 1) 1 l (by omega) (by omega) hl hc rfl
  simp (disch := omega) [Gk, A7]
  refine hlp _ fun i => ?_
  simp [Gm]
theorem qB2 {lt : Int → Int → Bool} : ∀ {f i : Nat} {l : List Int}, i + f ≤ l.length ∨ f = 0 → (q3X lt f i l).Perm l
  | 0, i, l, _ => List.Perm.refl l
  | f + 1, i, l, h => by
    simp only [q3X]
    have hp := q4H (lt := lt) (j := i) (l := l) (by omega)
    exact (qB2 (by rw [hp.length_eq]; omega)).trans hp
theorem qCv {lt : Int → Int → Bool} {l : List Int} {n : Nat} (h : l.length = n) : (q3X lt (n - 1) 1 l).length = l.length := (qB2 (by omega)).length_eq
theorem qHU (ty n : Nat) (cap : Option Nat) (hn : n ≤ 19) (f : FuncId) (cs : List T) (cmp : Int → Int → Int) (l : List Int) (hl : l.length = n) (hc : ∀ x ∈ l, ∀ y ∈ l, Ab Tryz.prog Γ f (tI x :: tI y :: cs) (tI (cmp x y))) :
    F4 Tryz.prog Γ 150 [(1000000, .sl ty 1 (Ao l))] [.ls 1000000 0 n cap, .t (tI n), .t (.fn f cs)] (.t (.tup [])) [(1000000, .sl ty 1 (Ao (q3X (fun a b => decide (cmp a b < 0)) (n - 1) 1 l)))] := by
  refine G5 W4 rfl ?_
  have hi := qCu (Γ := Γ) ty n cap (by omega) f cs cmp l hl hc
  simp (disch := omega) [Kv, A7]
  have hR := qCv (lt := fun a b => decide (cmp a b < 0)) hl
  generalize q3X (fun a b => decide (cmp a b < 0)) (n - 1) 1 l = R at *
  refine Ta fun K hK => ?_
  have h1 : ¬ (20 : Int) ≤ n := by omega
  have h2 : ¬ 20 ≤ n := by omega
  have h3 : ¬ (20 : Int) < n := by omega
  have h4 : ¬ 20 < n := by omega
  simp [h1, h2]
  refine ⟨_, _, hi, ?_⟩
  simp [A0, hR]
  refine Tc fun K hK => ?_
  simp [h3, h4, Kw]
theorem qKf (ty n : Nat) (cap : Option Nat) (hn : n ≤ 19) (f : FuncId) (cs : List T) (cmp : Int → Int → Int) (l : List Int) (hl : l.length = n) (hc : ∀ x ∈ l, ∀ y ∈ l, Ab Tryz.prog Γ f (tI x :: tI y :: cs) (tI (cmp x y))) :
    F4 Tryz.prog Γ 110 [(1000000, .sl ty 1 (Ao l))] [.ls 1000000 0 n cap, .t (.fn f cs)] (.t (.tup [])) [(1000000, .sl ty 1 (Ao (q3X (fun a b => decide (cmp a b < 0)) (n - 1) 1 l)))] := by
  refine G5 Vl rfl ?_
  have hi := qHU (Γ := Γ) ty n cap hn f cs cmp l hl hc
  have hR := qCv (lt := fun a b => decide (cmp a b < 0)) hl
  generalize q3X (fun a b => decide (cmp a b < 0)) (n - 1) 1 l = R at *
  simp (disch := omega) [Jr, A7]
  refine ⟨_, _, hi, ?_⟩
  simp [Js, A0, hR]
theorem qCw (n : Int) : Ab Tryz.prog Γ 151 [tI n] (tB false) := by
  refine Ad q6W rfl ?_
  simp [q1O, q1P, B0]
def qEO (a b : Int) : Int := if a < b then -1 else if b < a then 1 else 0
theorem qHV (a b : Int) : Ab Tryz.prog Γ 112 [tI a, tI b] (tI (qEO a b)) := by
  refine Ad q4b rfl ?_
  simp [Z7]
  refine A6 (qCw a) rfl ?_
  simp
  refine A6 (qCw b) rfl ?_
  by_cases h : a < b
  · simp [h, Pj, B0, qEO]
  · by_cases h1 : b < a <;> simp [h, h1, Pj, B0, qEO]
def qIy (c : B9) : T := .sl (Ao (Ph c).2.out) none none
theorem qCx (c : B9) (h : Bi c = 0) (a b : Int) (ha : 0 ≤ a ∧ a < c.nodes.l.length) (hb : 0 ≤ b ∧ b < c.nodes.l.length) : Ab Tryz.prog Γ 111 [tI a, tI b, .ip [qIy c] 0] (tI (qEO (Oj c a.toNat) (Oj c b.toNat))) := by
  refine Ad q3i rfl ?_
  have hl := (qEN h).1
  have e1 := ge1 (f := tI) (l := (Ph c).2.out) (i := a.toNat) (by omega)
  have e2 := ge1 (f := tI) (l := (Ph c).2.out) (i := b.toNat) (by omega)
  unfold Oj qIy
  generalize (Ph c).2.out.getD a.toNat 0 = va at *
  generalize (Ph c).2.out.getD b.toNat 0 = vb at *
  simp (disch := omega) [Ww, A0, Aa, hl, e1, e2, ha, hb]
  refine A6 (qHV _ _) rfl ?_
  simp [Wx, B0]
theorem q9Y {Q : AX → St → Prop} (n : Nat) (hn : n ≤ 1000000000) (a4 : T)
    (h0 : Q (.exit 0) ⟨[(4, .t a4), (6, .ls 19 0 n none), (21, .t (tI n)), (22, .t (tI n)), (23, .t (tB false))], [(19, .sl 3 1 (Ao (rng n)))]⟩) : ∀ (k i : Nat), k + i = n →
    run Tryz.prog Γ Kx Q ⟨[(4, .t a4), (6, .ls 19 0 n none), (21, .t (tI n)), (22, .t (tI i))], [(19, .sl 3 1 (Ao (rng i ++ List.replicate (n - i) 0)))]⟩
  | 0, i, h => by
    refine Tu fun K hK => ?_
    have h2 : i = n := by omega
    subst h2
    simp
    simpa using h0
  | k + 1, i, h => by
    refine Tu fun K hK => ?_
    have ih := q9Y n hn a4 h0 k (i + 1) (by omega)
    have h2 : i < n := by omega
    have hs : (Ao (rng i ++ List.replicate (n - i) 0)).set i [tI i] = Ao (rng (i + 1) ++ List.replicate (n - (i + 1)) 0) := by
      show (Ae tI _).set i [tI i] = Ae tI _
      rw [Gf]
      congr 1
      have e : n - i = (n - (i + 1)) + 1 := by omega
      rw [e, List.replicate_succ, List.set_append, if_neg (by rw [V6]; omega), V6, Nat.sub_self]
      simp [rng, List.range_succ]
    have hlen : (Ao (rng i ++ List.replicate (n - i) 0)).length = n := by rw [A0]; simp [V6]; omega
    generalize Ao (rng i ++ List.replicate (n - i) 0) = E at *
    simp (disch := omega) [h2, hlen, hs, A7]
    rw [hK]
    exact_mod_cast ih
theorem qEP (hΓ : GOk Γ) (c : B9) (hc : COk c) (hn : c.nodes.l.length ≤ 19) :
    Ab Tryz.prog Γ 53 [.agg (tC c)] (.tup [if Bi c = 0 then .sl (Ao (W3 c)) none none else .sl [] (some 0) (some true), tI (Bi c)]) := by
  refine Ad q5d rfl ?_
  have e1 := q7o hΓ c hc.toCirOk hc.asc
  simp [q0N, tC, Ac, Ah, Am, Aw]
  refine A6 e1 rfl ?_
  by_cases h : Bi c = 0
  case neg => simp [h, S8, St.freeze, Bl.closed, D3, frz1, frz0, Eo, del, Ak]
  have hlp := fun Q h0 => q9Y (Γ := Γ) (Q := Q) c.nodes.l.length (by omega) (.ip [qIy c] 0) h0 c.nodes.l.length 0 (by omega)
  have hz : List.replicate c.nodes.l.length [T.v (Value.int .i64 0)] = Ao (rng 0 ++ List.replicate (c.nodes.l.length - 0) 0) := by simp [Ae, rng]
  have hsort := qKf (Γ := Γ) 3 c.nodes.l.length none hn 111 [.ip [qIy c] 0] (fun a b => qEO (Oj c a.toNat) (Oj c b.toNat)) (rng c.nodes.l.length) V6 (fun x hx y hy => qCx c h x y (q8c.1 hx) (q8c.1 hy))
  have hlt : (fun a b => decide (qEO (Oj c a.toNat) (Oj c b.toNat) < 0)) = qF6 c := by
    funext a b
    simp only [qF6, qEO]
    by_cases h1 : Oj c a.toNat < Oj c b.toNat
    · simp [h1]
    · by_cases h2 : Oj c b.toNat < Oj c a.toNat <;> simp [h1, h2]
  rw [hlt] at hsort
  have ho : q3X (qF6 c) (c.nodes.l.length - 1) 1 (rng c.nodes.l.length) = W3 c := rfl
  rw [ho] at hsort
  have holen : (W3 c).length = c.nodes.l.length := by rw [(q1H c).1.length_eq, V6]
  simp [h, Af, A7, St.freeze, Bl.closed, D3, frz1, frz0, Eo, del, Ak]
  refine ⟨by omega, ?_⟩
  rw [hz]
  refine hlp _ ?_
  simp
  refine ⟨_, _, hsort, ?_⟩
  have htk : (Ao (W3 c)).take c.nodes.l.length = Ao (W3 c) := List.take_of_length_le (by rw [A0, holen]; exact Nat.le_refl _)
  simp [A0, V6, holen, S8, Ak, htk, h]
end Go.Lg
namespace Go.Lg
open Go
section
variable {P : Program} {Γ : Tables} {Q : AX → St → Prop} {s : St}
/- probecard/sims.fits (function 54) -/
abbrev q20 : IC := (.seq (.reg [od 2 (.box true (tm 0)), od 3 (.box true (tm 1)), od 4 (.mv (ki 0))] [kp [2, 3] []]) (.seq (.block 0 (.seq (.reg [od 6 (fa 2 2), od 7 (ld 1 6), od 8 (le 0 7), od 9 (.bin .gtr (tm 8) (ki 0)), om 10 9, oF 11 (lG 4 2) 10,
 oF 12 (.bsl true 102 1 [(ku 15)]) 10, oF 13 (.call 80 [(tm 11), (tm 12)]) 10, oF 14 (le 0 13) 10, oF 15 (.bin .gtr (tm 14) (ki 0)) 10, od 16 (.pick (tm 10) kT (tm 15)), om 5 16] [kp [2, 3, 5] []]) (.cond (tm 5) (.seq (.reg [od 4
 (.mv (ki 7))] [kp [4] []]) .ret) (.seq (.reg [od 18 (fa 0 3), od 19 (ld 1 18), od 20 (le 0 19), od 21 (lG 4 2), od 22 (.call 41 [(tm 21)]), od 23 (le 0 22), od 24 (.bin .neq (tm 20) (tm 23)), om 25 24, oF 26 (fa 1 3) 25, oF 27 (ld
 1 26) 25, oF 28 (le 0 27) 25, oF 29 (lG 4 2) 25, oF 30 (.call 27 [(tm 29)]) 25, oF 31 (le 0 30) 25, oF 32 (.bin .neq (tm 28) (tm 31)) 25, od 33 (.pick (tm 25) kT (tm 32)), om 17 33] [kp [3, 17] []]) (.cond (tm 17) (.seq (.reg [od 4
 (.mv (ki 8))] [kp [4] []]) .ret) (.seq (.reg [od 35 (fa 0 3), od 36 (ld 1 35), od 37 (.call 76 [(tm 36), (.func 113)]), om 38 37, oF 39 (fa 1 3) 38, oF 40 (ld 1 39) 38, oF 41 (.call 76 [(tm 40), (.func 113)]) 38, od 42 (.pick (tm
 38) kT (tm 41)), om 34 42] [kp [34] []]) (.cond (tm 34) (.seq (.reg [od 4 (.mv (ki 1))] [kp [4] []]) .ret) .skip))))))) (.seq (.reg [od 4 (.mv (ki 0))] [kp [4] []]) .ret)))
def H8 : List RV := [.tmp 4]
/- probecard/sims.above (function 113) -/
abbrev q54 : IC := (.seq (.reg [od 2 (.mv kF)] [kp [0] []]) (.seq (.reg [om 3 0, od 4 (.bin .gtr (tm 3) (ku 3)), om 2 4] [kp [2] []]) .ret))
def q55 : List RV := [.tmp 2]
/- (probecard/sims.run).load (function 55) -/
abbrev q1Q : IC := .gh (.seq (.reg [od 13 (.bin .lss (tm 12) (tm 11))] [kp [2, 3, 10, 11, 12, 13] [2, 1000000]]) (.seq (.cond (tm 13) .skip (.exit 0)) (.seq (.block 1 (.seq (.reg [om 14 12, od 15 (ia 1 10 12), od 16 (ld 1 15), om 4 14, om 5 16] [kp
 [2, 3, 4, 5, 10, 11, 12] [2, 1000000]]) (.reg [od 17 (fa 4 2), od 18 (.ldR 2 1 false (tm 17)), om 19 5, od 20 (fa 0 3), od 21 (.ldT 1 false (tm 20)), om 22 4, od 23 (ia 1 21 22), od 24 (.ldT 1 false (tm 23)), od 25 (ia 1 18 19), on
 (.stR 1000000 1 (tm 25) (tm 24))] [kp [2, 3, 10, 11, 12] [2, 1000000]]))) (.reg [od 26 (.bin .add (tm 12) (ki 1)), om 12 26] [kp [2, 3, 10, 11, 12] [2, 1000000]])))) [kp [2, 3, 10, 11, 12] [2, 1000000]]
def N7 : IC := .loop q1Q
abbrev q1R : IC := .gh (.seq (.reg [od 32 (.bin .lss (tm 31) (tm 30))] [kp [2, 3, 29, 30, 31, 32] [2, 1000000]]) (.seq (.cond (tm 32) .skip (.exit 2)) (.seq (.block 3 (.seq (.reg [om 33 31, od 34 (ia 1 29 31), od 35 (ld 1 34), om 6 33, om 7 35] [kp
 [2, 3, 6, 7, 29, 30, 31] [2, 1000000]]) (.reg [od 36 (fa 4 2), od 37 (.ldR 2 1 false (tm 36)), om 38 7, od 39 (fa 1 3), od 40 (.ldT 1 false (tm 39)), om 41 6, od 42 (ia 1 40 41), od 43 (.ldT 1 false (tm 42)), od 44 (ia 1 37 38), on
 (.stR 1000000 1 (tm 44) (tm 43))] [kp [2, 3, 29, 30, 31] [2, 1000000]]))) (.reg [od 45 (.bin .add (tm 31) (ki 1)), om 31 45] [kp [2, 3, 29, 30, 31] [2, 1000000]])))) [kp [2, 3, 29, 30, 31] [2, 1000000]]
def N8 : IC := .loop q1R
abbrev q1S : IC := (.seq (.reg [od 2 (.box false (tm 0)), od 3 (.box true (tm 1))] [kp [2, 3] [2, 1000000]]) (.seq (.seq (.reg [od 8 (fa 0 2), od 9 (lG 4 8), od 10 (.call 41 [(tm 9)]), od 11 (le 0 10), od 12 (.mv (ki 0))] [kp [2, 3, 10, 11, 12] [2,
 1000000]]) (.block 0 N7)) (.seq (.reg [od 27 (fa 0 2), od 28 (lG 4 27), od 29 (.call 27 [(tm 28)]), od 30 (le 0 29), od 31 (.mv (ki 0))] [kp [2, 3, 29, 30, 31] [2, 1000000]]) (.gh (.block 2 N8) [.keep []
 [1000000]]))))
theorem Vm (h : ∀ K : St → Prop, K = run P Γ N7 Q → run P Γ q1Q (Ax K Q) s) : run P Γ N7 Q s := Aj h
theorem Vn (h : ∀ K : St → Prop, K = run P Γ N8 Q → run P Γ q1R (Ax K Q) s) : run P Γ N8 Q s := Aj h
def q1T : List RV := []
/- probecard/sims.Run (function 15) -/
abbrev q7u : IC := .gh (.seq (.reg [od 62 (.bin .lss (tm 61) (tm 60))] [kp [4, 9, 10, 12, 13, 40, 41, 42, 59, 60, 61, 62] [4, 9, 13, 34, 39]]) (.seq (.cond (tm 62) .skip (.exit 2)) (.seq (.block 3 (.seq (.reg [od 63 (ia 1 59 61), od 64 (ld 1 63), om
 15 64] [kp [4, 9, 10, 12, 13, 15, 40, 41, 42, 59, 60, 61] [4, 9, 13, 34, 39]]) (.reg [om 65 10, od 66 (fa 4 9), od 67 (ld 1 66), om 68 15, od 69 (ia 1 67 68), od 70 (ld 1 69), od 71 (.bsl true 68 1 [(tm 70)]), oz 72 (.app false 68
 1 (tm 65) (tm 71)) 39, om 10 72] [kp [4, 9, 10, 12, 13, 40, 41, 42, 59, 60, 61] [4, 9, 13, 34, 39]]))) (.reg [od 73 (.bin .add (tm 61) (ki 1)), om 61 73] [kp [4, 9, 10, 12, 13, 40, 41, 42, 59, 60, 61] [4, 9, 13, 34, 39]])))) [kp
 [4, 9, 10, 12, 13, 40, 41, 42, 59, 60, 61] [4, 9, 13, 34, 39]]
def q0O : IC := .loop q7u
abbrev q7v : IC := .gh (.seq (.reg [od 43 (.bin .lss (tm 42) (tm 41))] [kp [4, 9, 10, 40, 41, 42, 43] [4, 9, 34, 39]]) (.seq (.cond (tm 43) .skip (.exit 0)) (.seq (.block 1 (.seq (.reg [od 44 (ia 1 40 42), od 45 (ld 1 44), om 12 45] [kp [4, 9, 10,
 12, 40, 41, 42] [4, 9, 34, 39]]) (.seq (.reg [od 46 (fa 0 9), od 47 (fa 0 46), od 48 (ld 1 47), om 49 12, od 50 (ia 4 48 49), od 51 (lG 4 50), od 13 (.alloc false [(.int .u8 0), (.slice none 0 0), (.int .i64 0), (.int .i64 0)]), on
 (.store 4 (tm 13) (tm 51))] [kp [4, 9, 10, 12, 13, 40, 41, 42] [4, 9, 13, 34, 39]]) (.seq (.seq (.reg [od 52 (fa 0 13), od 53 (ld 1 52), od 54 (.call 56 [(tm 53)]), od 55 (.un .not (tm 54))] [kp [4, 9, 10, 12, 13, 40, 41, 42, 55]
 [4, 9, 13, 34, 39]]) (.cond (tm 55) (.exit 1) .skip)) (.seq (.reg [om 56 10, od 57 (.slice 1 (tm 56) none (some (ki 0)) none), om 10 57] [kp [4, 9, 10, 12, 13, 40, 41, 42] [4, 9, 13, 34, 39]]) (.seq (.seq (.reg [od 58 (fa 1 13), od
 59 (ld 1 58), od 60 (le 0 59), od 61 (.mv (ki 0))] [kp [4, 9, 10, 12, 13, 40, 41, 42, 59, 60, 61] [4, 9, 13, 34, 39]]) (.block 2 q0O)) (.reg [od 74 (fa 4 9), od 75 (.ldR 9 1 false (tm 74)), om 76 12, od 77 (fa 0 13), od 78
 (.ldR 13 1 false (tm 77)), om 79 10, od 80 (.call 57 [(tm 78), (tm 79)]), od 81 (ia 1 75 76), on (.stR 34 1 (tm 81) (tm 80))] [kp [4, 9, 10, 40, 41, 42] [4, 9, 34, 39]]))))))) (.reg [od 82 (.bin .add (tm 42) (ki 1)), om 42 82] [kp
 [4, 9, 10, 40, 41, 42] [4, 9, 34, 39]])))) [kp [4, 9, 10, 40, 41, 42] [4, 9, 34, 39]]
def q0P : IC := .loop q7v
abbrev q7w : IC := (.seq (.reg [od 2 (.box true (tm 0)), od 3 (.box true (tm 1)), od 4 (.alloc false [(.slice none 0 0), (.slice none 0 0)]), od 5 (.mv kN), od 6 (.mv (ki 0))] [kp [2, 3, 4] [4]]) (.seq (.reg [od 17 (lG 4 2), od 18 (.call 53 [(tm
 17)]), om 16 18, od 19 (ex 16 0), od 20 (ex 16 1), om 7 19, om 8 20] [kp [2, 3, 4, 7, 8] [4]]) (.seq (.seq (.reg [om 21 8, od 22 (.bin .eql (tm 21) (ki 0))] [kp [2, 3, 4, 7, 8, 22] [4]]) (.cond (tm 22) (.reg [od 23 (lG 4 2), od 24
 (lG 2 3), od 25 (.call 54 [(tm 23), (tm 24)]), om 8 25] [kp [2, 3, 4, 7, 8] [4]]) .skip)) (.seq (.seq (.reg [om 26 8, od 27 (.bin .neq (tm 26) (ki 0))] [kp [2, 3, 4, 7, 8, 27] [4]]) (.cond (tm 27) (.seq (.reg [od 28 (.build [(1,
 kN), (1, kN)]), om 29 8, on (.store 2 (tm 4) (tm 28)), od 5 (.mv kN), om 6 29] [kp [4, 5, 6] [4, 34]]) .ret) .skip)) (.seq (.reg [od 30 (.ldT 4 true (tm 2)), od 31 (fa 0 2), od 32 (.ldT 1 false (tm 31)), od 33 (le 0 32), od 34
 (.mkE 68 1 [(.int .u8 0)] (tm 33) (tm 33)), od 35 (.build [(4, (tm 30)), (1, (tm 34))]), od 9 (.alloc false [(.slice none 0 0), (.slice none 0 0), (.slice none 0 0), (.slice none 0 0), (.slice none 0 0)]), on (.stR 9 5 (tm 9) (tm
 35))] [kp [3, 4, 7, 9] [4, 9, 34]]) (.seq (.reg [od 36 (lG 5 9), od 37 (lG 2 3), od 38 (.hcall 55 [(tm 36), (tm 37)] [34] 38000)] [kp [4, 7, 9] [4, 9, 34]]) (.seq (.reg [od 39 (.mk 68 1 [(.int .u8 0)] (ki 0) (ki 16)), om 10 39] [kp
 [4, 7, 9, 10] [4, 9, 34, 39]]) (.seq (.seq (.reg [om 40 7, od 41 (le 0 40), od 42 (.mv (ki 0))] [kp [4, 9, 10, 40, 41, 42] [4, 9, 34, 39]]) (.block 0 q0P)) (.seq (.reg [od 83 (.ldR 9 5 true (tm 9)), od 84 (.call 58 [(tm
 83)]), od 85 (fa 4 9), od 86 (.ldR 9 1 false (tm 85)), on (.stR 4 2 (tm 4) (tm 84)), om 5 86, od 6 (.mv (ki 0))] [kp [4, 5, 6] [4, 34]]) .ret)))))))))
theorem q2E (h : ∀ K : St → Prop, K = run P Γ q0O Q → run P Γ q7u (Ax K Q) s) : run P Γ q0O Q s := Aj h
theorem q2F (h : ∀ K : St → Prop, K = run P Γ q0P Q → run P Γ q7v (Ax K Q) s) : run P Γ q0P Q s := Aj h
def q0Q : List RV := [.cell 4 2 true, .tmp 5, .tmp 6]
/- (probecard/sims.run).value (function 122) -/
abbrev Ky : IC := (.seq (.reg [od 2 (.box true (tm 0)), od 4 (.mv (ku 0))] [kp [1, 2] []]) (.seq (.seq (.reg [om 5 1, od 6 (.bin .lss (tm 5) (ki 0)), om 7 6, oF 8 (.mv (tm 1)) 7, oF 9 (fa 4 2) 7, oF 10 (ld 1 9) 7, oF 11 (le 0 10) 7, oF 12 (.bin .geq
 (tm 8) (tm 11)) 7, od 13 (.pick (tm 7) kT (tm 12))] [kp [1, 2, 13] []]) (.cond (tm 13) (.seq (.reg [od 4 (.mv (ku 2))] [kp [4] []]) .ret) .skip)) (.seq (.reg [od 14 (fa 4 2), od 15 (ld 1 14), om 16 1, od 17 (ia 1 15 16), od 18 (ld
 1 17), od 19 (.call 127 [(tm 18)]), om 4 19] [kp [4] []]) .ret)))
def Kz : List RV := [.tmp 4]
/- (probecard/sims.run).observe (function 58) -/
abbrev Wy : IC := .gh (.seq (.reg [od 15 (.bin .lss (tm 14) (tm 13))] [kp [1, 2, 3, 12, 13, 14, 15] [2, 3, 24, 55]]) (.seq (.cond (tm 15) .skip (.exit 0)) (.seq (.block 1 (.seq (.reg [od 16 (ia 1 12 14), od 17 (ld 1 16), om 5 17] [kp [1, 2, 3, 5,
 12, 13, 14] [2, 3, 24, 55]]) (.reg [od 18 (fa 0 3), od 19 (.ldR 3 1 false (tm 18)), od 20 (.ldT 5 true (tm 1)), om 21 5, od 22 (.call 122 [(tm 20), (tm 21)]), od 23 (.bsl true 68 1 [(tm 22)]), od 24 (.app false 68 1 (tm 19) (tm
 23)), od 25 (fa 0 3), on (.stR 3 1 (tm 25) (tm 24))] [kp [1, 2, 3, 12, 13, 14] [2, 3, 24, 55]]))) (.reg [od 26 (.bin .add (tm 14) (ki 1)), om 14 26] [kp [1, 2, 3, 12, 13, 14] [2, 3, 24, 55]])))) [kp [1, 2, 3, 12, 13, 14] [2, 3, 24,
 55]]
def Hy : IC := .loop Wy
abbrev Wz : IC := .gh (.seq (.reg [od 32 (.bin .lss (tm 31) (tm 30))] [kp [1, 2, 3, 29, 30, 31, 32] [2, 3, 24, 55]]) (.seq (.cond (tm 32) .skip (.exit 2)) (.seq (.block 3 (.seq (.reg [od 33 (ia 1 29 31), od 34 (ld 1 33), om 7 34] [kp [1, 2, 3, 7,
 29, 30, 31] [2, 3, 24, 55]]) (.seq (.reg [od 8 (.mv (ku 2))] [kp [1, 2, 3, 7, 8, 29, 30, 31] [2, 3, 24, 55]]) (.seq (.seq (.reg [od 35 (fa 0 1), od 36 (fa 0 35), od 37 (ld 1 36), om 38 7, od 39 (ia 4 37 38), od 40 (fa 1 39), od 41
 (ld 1 40), om 9 41] [kp [1, 2, 3, 8, 9, 29, 30, 31] [2, 3, 24, 55]]) (.seq (.reg [om 42 9, od 43 (le 0 42), od 44 (.bin .eql (tm 43) (ki 1))] [kp [1, 2, 3, 8, 9, 29, 30, 31, 44] [2, 3, 24, 55]]) (.cond (tm 44) (.reg [od 45 (lG 5
 1), om 46 9, od 47 (.iadr 1 (tm 46) (ki 0)), od 48 (ld 1 47), od 49 (.call 122 [(tm 45), (tm 48)]), od 50 (.call 73 [(tm 49)]), om 8 50] [kp [1, 2, 3, 8, 29, 30, 31] [2, 3, 24, 55]]) .skip))) (.reg [od 51 (fa 1 3), od 52 (ld 1 51),
 om 53 8, od 54 (.bsl true 68 1 [(tm 53)]), od 55 (.app false 68 1 (tm 52) (tm 54)), od 56 (fa 1 3), on (.store 1 (tm 56) (tm 55))] [kp [1, 2, 3, 29, 30, 31] [2, 3, 24, 55]]))))) (.reg [od 57 (.bin .add (tm 31) (ki 1)), om 31 57]
 [kp [1, 2, 3, 29, 30, 31] [2, 3, 24, 55]])))) [kp [1, 2, 3, 29, 30, 31] [2, 3, 24, 55]]
def Hz : IC := .loop Wz
abbrev X1 : IC := (.seq (.reg [od 1 (.box true (tm 0)), od 2 (.alloc false [(.slice none 0 0), (.slice none 0 0)])] [kp [1, 2] [2, 24, 55]]) (.seq (.reg [od 3 (.alloc false [(.slice none 0 0), (.slice none 0 0)])] [.nlb 3 0 24 68 1, .nlb 3 1 55 68
 1, kp [1, 2, 3] [2, 3, 24, 55]]) (.seq (.seq (.reg [od 10 (fa 0 1), od 11 (fa 3 10), od 12 (ld 1 11), od 13 (le 0 12), od 14 (.mv (ki 0))] [kp [1, 2, 3, 12, 13, 14] [2, 3, 24, 55]]) (.block 0 Hy)) (.seq (.seq (.reg
 [od 27 (fa 0 1), od 28 (lG 4 27), od 29 (.call 27 [(tm 28)]), od 30 (le 0 29), od 31 (.mv (ki 0))] [kp [1, 2, 3, 29, 30, 31] [2, 3, 24, 55]]) (.block 2 Hz)) (.seq (.reg [od 58 (fa 0 3), od 59 (.ldR 3 1 false (tm
 58)), od 60 (.rcall 74 [(tm 59)] [24]), od 61 (fa 1 3), od 62 (.ldR 3 1 false (tm 61)), od 63 (.rcall 74 [(tm 62)] [55]), od 64 (.build [(1, (tm 60)), (1, (tm 63))]), on (.stR 2 2 (tm 2) (tm 64))] [kp [2] [2, 24, 55]]) .ret)))))
theorem Qg (h : ∀ K : St → Prop, K = run P Γ Hy Q → run P Γ Wy (Ax K Q) s) : run P Γ Hy Q s := Aj h
theorem Qh (h : ∀ K : St → Prop, K = run P Γ Hz Q → run P Γ Wz (Ax K Q) s) : run P Γ Hz Q s := Aj h
def X2 : List RV := [.cell 2 2 true]
/- probecard/sims.Observe (function 18) -/
abbrev Z9 : IC := (.seq (.reg [od 1 (.box true (tm 0)), od 2 (.mv kN)] [kp [1] []]) (.seq (.reg [od 3 (lG 4 1), od 4 (.bsl true 102 1 [(ku 0)]), od 5 (.call 80 [(tm 3), (tm 4)]), om 2 5] [kp [2] []]) .ret))
def Za : List RV := [.tmp 2]
/- slices.Clip[[]probecard/api.Value,probecard/api.Value] (function 74) -/
abbrev Hk : IC := (.seq (.reg [od 2 (.mv kN)] [kp [0] [1000000]]) (.seq (.reg [om 3 0, om 4 0, od 5 (le 0 4), om 6 0, od 7 (le 0 6), od 8 (.slice 1 (tm 3) none (some (tm 5)) (some (tm 7))), om 2 8] [kp [2] [1000000]]) .ret))
def Hl : List RV := [.tmp 2]
end
end Go.Lg
namespace Go.Lg
open Go Go.Proofs
theorem qAT : B1 Tryz.prog 54 q20 43 2 H8 = true := by kernel_rfl
theorem q9Z : B1 Tryz.prog 113 q54 5 1 q55 = true := by kernel_rfl
theorem q6X : B1 Tryz.prog 55 q1S 46 2 q1T = true := by kernel_rfl
theorem qBr : B1 Tryz.prog 15 q7w 87 2 q0Q = true := by kernel_rfl
theorem q5e : B1 Tryz.prog 122 Ky 20 2 Kz = true := by kernel_rfl
theorem q3j : B1 Tryz.prog 58 X1 65 1 X2 = true := by kernel_rfl
theorem q4c : B1 Tryz.prog 41 Z9 6 1 Za = true := by kernel_rfl
theorem Np : B1 Tryz.prog 74 Hk 9 1 Hl = true := by kernel_rfl
end Go.Lg
namespace Go.Lg
open Go Go.Proofs
variable {Γ : Tables}
theorem q0R (c : B9) (hc : COk c) : Ai Tryz.prog Γ 41 [.agg (tC c)] (.sl (Ao (Az c)) (some (Az c).length) none) := by
  refine Ap q4c rfl ?_
  simp [Z9, tC, Ac, Ah, Am, Aw]
  refine A6 (qBm c hc 0) rfl ?_
  simp [Za, Az]
theorem Vo (es : List (List T)) (cap : Option Nat) (nl : Option Bool) (hw : Ec 1 es) : Ai Tryz.prog Γ 74 [.sl es cap nl] (.sl es (some es.length) nl) := by
  refine Ap Np rfl ?_
  simp [Hk, Hl, ret, hw]
def Br (v : Int) : Bool := decide (3 < v)
theorem q9a (v : Int) : Ab Tryz.prog Γ 113 [tK v] (tB (Br v)) := by
  refine Ad q9Z rfl ?_
  simp [q54, q55, B0, Br]
structure Pat where
  inn : Sl Int
  st : Sl Int
def tP (p : Pat) : List T := [tV p.inn, tV p.st]
theorem Jf (c : B9) : (Az c).length ≤ c.nodes.l.length := Xf _ _ _
theorem Eu (c : B9) : (A5 c).length ≤ c.nodes.l.length := Xf _ _ _
def Ox (c : B9) (p : Pat) : Int :=
  if 0 < c.mems.l.length ∨ 0 < (mems c).length then 7 else
  if p.inn.l.length ≠ (Az c).length ∨ p.st.l.length ≠ (A5 c).length then 8 else
  if p.inn.l.any Br = true ∨ p.st.l.any Br = true then 1 else 0
theorem qB3 (c : B9) (hc : COk c) (p : Pat) (hp : p.inn.l.length ≤ 1000000000 ∧ p.st.l.length ≤ 1000000000) : Ab Tryz.prog Γ 54 [.agg (tC c), .agg (tP p)] (tI (Ox c p)) := by
  refine Ad qAT rfl ?_
  have e1 := qBm (Γ := Γ) c hc 15
  have e2 := q0R (Γ := Γ) c hc
  have e3 := D9 (Γ := Γ) c hc
  have e4 := E1 (Γ := Γ) p.inn.l p.inn.cap p.inn.nl 113 [] Br (fun x _ => q9a x) hp.1
  have e5 := E1 (Γ := Γ) p.st.l p.st.cap p.st.nl 113 [] Br (fun x _ => q9a x) hp.2
  have hm : Jv [15] c.nodes.l 0 = mems c := rfl
  rw [hm] at e1
  generalize hR : Ox c p = R
  unfold Ox at hR
  by_cases h1 : 0 < c.mems.l.length
  · rw [if_pos (.inl h1)] at hR
    subst hR
    have h1' : ¬ c.mems.l = [] := fun e => by rw [e] at h1; simp at h1
    simp [q20, tC, Ac, Ah, Am, Aw, tP, tV, Af, h1, h1', H8, B0]
  have h1' : c.mems.l = [] := List.eq_nil_of_length_eq_zero (by omega)
  simp [q20, tC, Ac, Ah, Am, Aw, tP, tV, Af, h1, h1']
  refine A6 e1 (by simp [Ak, Bd, Ae, tC, Ac, Ah, Am, Aw, h1']) ?_
  by_cases h2 : 0 < (mems c).length
  · rw [if_pos (.inr h2)] at hR
    subst hR
    have h2' : ¬ mems c = [] := fun e => by rw [e] at h2; simp at h2
    simp [A0, h2, h2', H8, B0]
  rw [if_neg (by omega)] at hR
  have h2' : mems c = [] := List.eq_nil_of_length_eq_zero (by omega)
  simp [A0, h2']
  have tt : ∀ {x : T}, x = T.agg (tC c) → Bd [some x] = some [T.agg (tC c)] := fun h => by rw [h]; rfl
  have tc : T.agg (tC c) = T.agg [T.sl (As C4 c.nodes.l) c.nodes.cap c.nodes.nl, T.sl (Ae tS c.names.l) c.names.cap c.names.nl, T.sl (As tMm []) c.mems.cap c.mems.nl, T.sl (Ao c.outs.l) c.outs.cap c.outs.nl] := by rw [← h1']; rfl
  refine A8 e2 (by rw [tc]; rfl) ?_
  simp [A0]
  by_cases h3 : p.inn.l.length = (Az c).length
  case neg =>
    have h3' : ¬ (p.inn.l.length : Int) = (Az c).length := by omega
    rw [if_pos (.inl h3)] at hR
    subst hR
    simp [h3, h3', H8, B0, Bj]
  simp [h3]
  refine A8 e3 (by rw [tc]; rfl) ?_
  simp [A0]
  by_cases h4 : p.st.l.length = (A5 c).length
  case neg =>
    have h4' : ¬ (p.st.l.length : Int) = (A5 c).length := by omega
    rw [if_pos (.inr h4)] at hR
    subst hR
    simp [h4, h4', H8, B0, Bj]
  rw [if_neg (by omega)] at hR
  simp [h4, Bj]
  refine A6 e4 rfl ?_
  by_cases h5 : p.inn.l.any Br = true
  · rw [if_pos (.inl h5)] at hR
    subst hR
    simp only [h5]
    simp [H8, B0]
  simp only [Bool.not_eq_true] at h5
  simp only [h5]
  simp
  refine A6 e5 rfl ?_
  by_cases h6 : p.st.l.any Br = true
  · rw [if_pos (.inr h6)] at hR
    subst hR
    simp only [h6]
    simp [H8, B0]
  rw [if_neg (by simp only [h5]; simp only [Bool.not_eq_true] at h6; simp [h6])] at hR
  subst hR
  simp only [Bool.not_eq_true] at h6
  simp only [h6]
  simp [H8, B0]
def Xn (c : B9) (id n : Nat) (cap : Option Nat) : List AV := [.t (Ac c.nodes), .t (Ah c.names), .t (Am c.mems), .t (Aw c.outs), .ls id 0 n cap]
theorem q9b {ns vs l : List Int} {i : Nat} (h : i < ns.length) (hv : i < vs.length) : Ks (ns.drop i) (vs.drop i) l = Ks (ns.drop (i + 1)) (vs.drop (i + 1)) (l.set (ns.getD i 0).toNat (vs.getD i 0)) := by
  rw [List.drop_eq_getElem_cons h, List.drop_eq_getElem_cons hv]
  simp only [Ks]
  rw [B2 h, B2 hv]
theorem qF9 {Q : AX → St → Prop} (c : B9) (p : Pat) (ns : List Int) (cap : Option Nat) (n : Nat) (hn : n ≤ 1000000000) (hns : ns.length ≤ n) (hin : ∀ x ∈ ns, 0 ≤ x ∧ x < n) (hp : p.inn.l.length = ns.length) (R : List Int)
    (h0 : Q (.exit 0) ⟨[(2, .lp 2 0 0), (3, .t (.ip (tP p) 0)), (10, .t (.sl (Ao ns) (some ns.length) none)), (11, .t (tI ns.length)), (12, .t (tI ns.length)), (13, .t (tB false))], [(2, .bx (Xn c 1000000 n cap)), (1000000, .sl 68 1 (Av R))]⟩) :
    ∀ (k i : Nat) (l : List Int), k + i = ns.length → l.length = n → Ks (ns.drop i) (p.inn.l.drop i) l = R →
    run Tryz.prog Γ N7 Q ⟨[(2, .lp 2 0 0), (3, .t (.ip (tP p) 0)), (10, .t (.sl (Ao ns) (some ns.length) none)), (11, .t (tI ns.length)), (12, .t (tI i))], [(2, .bx (Xn c 1000000 n cap)), (1000000, .sl 68 1 (Av l))]⟩
  | 0, i, l, h, hl, hR => by
    refine Vm fun K hK => ?_
    have h2 : i = ns.length := by omega
    subst h2
    rw [List.drop_length] at hR
    simp only [Ks] at hR
    subst hR
    simp
    exact h0
  | k + 1, i, l, h, hl, hR => by
    refine Vm fun K hK => ?_
    have h2 : i < ns.length := by omega
    have h3 : i < p.inn.l.length := by omega
    rw [q9b h2 h3] at hR
    have ih := qF9 c p ns cap n hn hns hin hp R h0 k (i + 1) _ (by omega) (by simp [hl]) hR
    have e1 := ge1 (f := tI) h2
    have e2 := ge1 (f := tK) h3
    have hx := hin (ns.getD i 0) (by rw [B2 h2]; exact List.getElem_mem h2)
    have hs : ∀ (j : Nat) (v : Int), (Av l).set j [tK v] = Av (l.set j v) := fun j v => Gf
    generalize ns.getD i 0 = x at *
    generalize p.inn.l.getD i 0 = v at *
    have hx2 : x.toNat < n := by omega
    simp (disch := omega) [h2, h3, A0, Aa, e1, e2, A7, hx, hx2, hl, Xn, tP, tV, hs, hp]
    rw [hK]
    simpa [Xn, tP, tV] using ih
theorem qFA {Q : AX → St → Prop} (c : B9) (p : Pat) (ns : List Int) (cap : Option Nat) (n : Nat) (hn : n ≤ 1000000000) (hns : ns.length ≤ n) (hin : ∀ x ∈ ns, 0 ≤ x ∧ x < n) (hp : p.st.l.length = ns.length) (R : List Int)
    (h0 : Q (.exit 2) ⟨[(2, .lp 2 0 0), (3, .t (.ip (tP p) 0)), (29, .t (.sl (Ao ns) (some ns.length) none)), (30, .t (tI ns.length)), (31, .t (tI ns.length)), (32, .t (tB false))], [(2, .bx (Xn c 1000000 n cap)), (1000000, .sl 68 1 (Av R))]⟩) :
    ∀ (k i : Nat) (l : List Int), k + i = ns.length → l.length = n → Ks (ns.drop i) (p.st.l.drop i) l = R →
    run Tryz.prog Γ N8 Q ⟨[(2, .lp 2 0 0), (3, .t (.ip (tP p) 0)), (29, .t (.sl (Ao ns) (some ns.length) none)), (30, .t (tI ns.length)), (31, .t (tI i))], [(2, .bx (Xn c 1000000 n cap)), (1000000, .sl 68 1 (Av l))]⟩
  | 0, i, l, h, hl, hR => by
    refine Vn fun K hK => ?_
    have h2 : i = ns.length := by omega
    subst h2
    rw [List.drop_length] at hR
    simp only [Ks] at hR
    subst hR
    simp
    exact h0
  | k + 1, i, l, h, hl, hR => by
    refine Vn fun K hK => ?_
    have h2 : i < ns.length := by omega
    have h3 : i < p.st.l.length := by omega
    rw [q9b h2 h3] at hR
    have ih := qFA c p ns cap n hn hns hin hp R h0 k (i + 1) _ (by omega) (by simp [hl]) hR
    have e1 := ge1 (f := tI) h2
    have e2 := ge1 (f := tK) h3
    have hx := hin (ns.getD i 0) (by rw [B2 h2]; exact List.getElem_mem h2)
    have hs : ∀ (j : Nat) (v : Int), (Av l).set j [tK v] = Av (l.set j v) := fun j v => Gf
    generalize ns.getD i 0 = x at *
    generalize p.st.l.getD i 0 = v at *
    have hx2 : x.toNat < n := by omega
    simp (disch := omega) [h2, h3, A0, Aa, e1, e2, A7, hx, hx2, hl, Xn, tP, tV, hs, hp]
    rw [hK]
    simpa [Xn, tP, tV] using ih
theorem qKg (c : B9) (hc : COk c) (p : Pat) (cap : Option Nat) (l : List Int) (hl : l.length = c.nodes.l.length) (h1 : p.inn.l.length = (Az c).length) (h2 : p.st.l.length = (A5 c).length) :
    F4 Tryz.prog Γ 55 [(1000000, .sl 68 1 (Av l))] [.ag (Xn c 1000000 c.nodes.l.length cap), .t (.agg (tP p))] (.t (.tup [])) [(1000000, .sl 68 1 (Av (Ks (A5 c) p.st.l (Ks (Az c) p.inn.l l))))] := by
  refine G5 q6X rfl ?_
  have hn := hc.nodes
  have g1 := fun Q h0 => qF9 (Γ := Γ) (Q := Q) c p (Az c) cap c.nodes.l.length hn (Jf c) (fun x hx => ⟨(Hj x hx).1, (Hj x hx).2.1⟩) h1 _ h0 (Az c).length 0 l (by omega) hl rfl
  have g2 := fun Q h0 => qFA (Γ := Γ) (Q := Q) c p (A5 c) cap c.nodes.l.length hn (Eu c) (fun x hx => ⟨(Hj x hx).1, (Hj x hx).2.1⟩) h2 _ h0 (A5 c).length 0 (Ks (Az c) p.inn.l l) (by omega) (by rw [q1I]; exact hl) rfl
  simp only [List.drop_zero] at g1 g2
  simp [q1S, Xn, tP, tV, Ac, Ah, Am, Aw]
  refine A8 (q0R c hc) rfl ?_
  simp [A0]
  refine g1 _ ?_
  simp [Xn, Ac, Ah, Am, Aw]
  refine A8 (D9 c hc) rfl ?_
  simp [A0]
  refine g2 _ ?_
  simp [q1T]
@[simp] theorem qML {s : Nat} {e : List T} : Ec s [e] = (e.length = s) := propext ⟨fun h => h e List.mem_cons_self, fun h x hx => by simp at hx; subst hx; exact h⟩
def q2q (c : B9) (nets : Sl Int) : List T := [Ac c.nodes, Ah c.names, Am c.mems, Aw c.outs, tV nets]
def Ig (nets : List Int) (n : Int) : Int := if n < 0 ∨ (nets.length : Int) ≤ n then 2 else Uf (nets.getD n.toNat 0)
theorem q9c (c : B9) (nets : Sl Int) (n : Int) (hl : nets.l.length ≤ 1000000000) : Ab Tryz.prog Γ 122 [.agg (q2q c nets), tI n] (tK (Ig nets.l n)) := by
  refine Ad q5e rfl ?_
  generalize hR : Ig nets.l n = R
  unfold Ig at hR
  by_cases h1 : n < 0
  · rw [if_pos (.inl h1)] at hR
    subst hR
    simp [Ky, q2q, Ac, Ah, Am, Aw, tV, h1, Kz, B0]
  by_cases h2 : (nets.l.length : Int) ≤ n
  · rw [if_pos (.inr h2)] at hR
    subst hR
    simp [Ky, q2q, Ac, Ah, Am, Aw, tV, h1, h2, A0, Kz, B0]
  rw [if_neg (by omega)] at hR
  have h3 : n.toNat < nets.l.length := by omega
  have e := ge1 (f := tK) h3
  generalize nets.l.getD n.toNat 0 = v at *
  have h4 : n < nets.l.length := by omega
  simp (disch := omega) [Ky, q2q, Ac, Ah, Am, Aw, tV, h1, h2, h4, A0, Aa, e]
  refine ⟨by omega, A6 (q9X v) rfl ?_⟩
  simp [Kz, B0, hR]
def q0S (c : B9) (nets : List Int) (n : Int) : Int := if (E0 c n.toNat).length = 1 then B8 (Ig nets ((E0 c n.toNat).getD 0 0)) else 2
def Ip (c : B9) (nets : List Int) : List Int := c.outs.l.map (Ig nets)
def B7 (c : B9) (nets : List Int) : List Int := (A5 c).map (q0S c nets)
def q7E (o s : Nat) : List AV := [.ls 24 0 o none, .ls 55 0 s none]
def q4d (o s : List Int) : List (Nat × Bl) := [(2, .bx [.t (.sl [] (some 0) (some true)), .t (.sl [] (some 0) (some true))]), (3, .bx (q7E o.length s.length)), (24, .sl 68 1 (Av o)), (55, .sl 68 1 (Av s))]
theorem G6 {l : List Int} {v : Int} : Av l ++ [[tK v]] = Av (l ++ [v]) := By
theorem G7 {l : List Int} : (Av l).take l.length = Av l := Bf
theorem qCy {Q : AX → St → Prop} (c : B9) (nets : Sl Int) (hl : nets.l.length ≤ 1000000000) (ho : c.outs.l.length ≤ 1000000000) (R : List Int)
    (h0 : Q (.exit 0) ⟨[(1, .t (.ip (q2q c nets) 0)), (2, .lp 2 0 0), (3, .lp 3 0 0), (12, .t (Aw c.outs)), (13, .t (tI c.outs.l.length)), (14, .t (tI c.outs.l.length)), (15, .t (tB false))], q4d R []⟩) :
    ∀ (k i : Nat) (out : List Int), k + i = c.outs.l.length → out.length = i → out ++ (c.outs.l.drop i).map (Ig nets.l) = R →
    run Tryz.prog Γ Hy Q ⟨[(1, .t (.ip (q2q c nets) 0)), (2, .lp 2 0 0), (3, .lp 3 0 0), (12, .t (Aw c.outs)), (13, .t (tI c.outs.l.length)), (14, .t (tI i))], q4d out []⟩
  | 0, i, out, h, hi, hR => by
    refine Qg fun K hK => ?_
    have h2 : i = c.outs.l.length := by omega
    rw [List.drop_of_length_le (by omega), List.map_nil, List.append_nil] at hR
    subst hR
    simp [q4d, q7E, h2]
    simpa [q4d, q7E] using h0
  | k + 1, i, out, h, hi, hR => by
    refine Qg fun K hK => ?_
    have h2 : i < c.outs.l.length := by omega
    rw [List.drop_eq_getElem_cons h2, List.map_cons] at hR
    have e := ge1 (f := tI) h2
    rw [B2 h2] at e
    generalize c.outs.l[i] = n at *
    have ih := qCy c nets hl ho R h0 k (i + 1) (out ++ [Ig nets.l n]) (by omega) (by simp [hi]) (by rw [← hR]; simp)
    have vs := G6 (l := out) (v := Ig nets.l n)
    have vt : (Av out).take i = Av out := by rw [← hi]; exact G7
    have hv := q9c (Γ := Γ) c nets n hl
    simp (disch := omega) [q4d, q7E, h2, Aw, A0, Aa, e, hi, A7, q2q, Ac, Ah, Am, tV]
    refine A6 hv rfl ?_
    simp (disch := omega) [vt, vs, A0, Aa, hi, A7]
    refine ⟨by omega, ?_⟩
    rw [hK]
    simpa [q4d, q7E, hi, q2q, Ac, Ah, Am, Aw, tV] using ih
theorem qB4 {Q : AX → St → Prop} (c : B9) (hc : COk c) (nets : Sl Int) (hl : nets.l.length ≤ 1000000000) (ns : List Int) (hns : ns.length ≤ 1000000000) (hin : ∀ n ∈ ns, 0 ≤ n ∧ n < c.nodes.l.length) (o R : List Int)
    (h0 : Q (.exit 2) ⟨[(1, .t (.ip (q2q c nets) 0)), (2, .lp 2 0 0), (3, .lp 3 0 0), (29, .t (.sl (Ao ns) (some ns.length) none)), (30, .t (tI ns.length)), (31, .t (tI ns.length)), (32, .t (tB false))], q4d o R⟩) :
    ∀ (k i : Nat) (out : List Int), k + i = ns.length → out.length = i → out ++ (ns.drop i).map (q0S c nets.l) = R →
    run Tryz.prog Γ Hz Q ⟨[(1, .t (.ip (q2q c nets) 0)), (2, .lp 2 0 0), (3, .lp 3 0 0), (29, .t (.sl (Ao ns) (some ns.length) none)), (30, .t (tI ns.length)), (31, .t (tI i))], q4d o out⟩
  | 0, i, out, h, hi, hR => by
    refine Qh fun K hK => ?_
    have h2 : i = ns.length := by omega
    rw [List.drop_of_length_le (by omega), List.map_nil, List.append_nil] at hR
    subst hR
    simp [q4d, q7E, h2]
    simpa [q4d, q7E] using h0
  | k + 1, i, out, h, hi, hR => by
    refine Qh fun K hK => ?_
    have h2 : i < ns.length := by omega
    rw [List.drop_eq_getElem_cons h2, List.map_cons] at hR
    have e := ge1 (f := tI) h2
    have hn := hin ns[i] (List.getElem_mem h2)
    rw [B2 h2] at e
    generalize ns[i] = n at *
    have ih := qB4 c hc nets hl ns hns hin o R h0 k (i + 1) (out ++ [q0S c nets.l n]) (by omega) (by simp [hi]) (by rw [← hR]; simp)
    have vs := G6 (l := out) (v := q0S c nets.l n)
    have vt : (Av out).take i = Av out := by rw [← hi]; exact G7
    have hnn : n.toNat < c.nodes.l.length := by omega
    have hget : (As C4 c.nodes.l)[n.toNat]?.getD [] = C4 (c.nodes.l.getD n.toNat Nd.d) := by
      rw [D8 Nd.d hnn]; simp [List.getD_eq_getElem?_getD]
    have hxi := hc.inn _ (List.getElem_mem hnn)
    have hgd : c.nodes.l.getD n.toNat Nd.d = c.nodes.l[n.toNat] := by simp [List.getD_eq_getElem?_getD, hnn]
    have hia : E0 c n.toNat = (c.nodes.l.getD n.toNat Nd.d).inn.l := rfl
    have hnl : q0S c nets.l n = if (E0 c n.toNat).length = 1 then B8 (Ig nets.l ((E0 c n.toNat).getD 0 0)) else 2 := rfl
    rw [← hgd] at hxi
    rw [hia] at hnl
    generalize c.nodes.l.getD n.toNat Nd.d = x at *
    generalize q0S c nets.l n = v at *
    obtain ⟨h3, h4⟩ := hn
    by_cases h1 : x.inn.l.length = 1
    · rw [if_pos h1] at hnl
      have h10 : 0 < x.inn.l.length := by omega
      have e0 := ge1 (f := tI) h10
      have hv := q9c (Γ := Γ) c nets (x.inn.l.getD 0 0) hl
      generalize x.inn.l.getD 0 0 = m at *
      simp (disch := omega) [q4d, q7E, h2, Aw, A0, Aa, e, hi, A7, q2q, Ac, Ah, Am, tV, h3, h4, Af, Bh, hget, C4, h1, e0, h10]
      refine A6 hv rfl ?_
      simp
      refine A6 (Ib _) rfl ?_
      rw [← hnl]
      simp (disch := omega) [vt, vs, A0, Aa, hi, A7]
      refine ⟨by omega, ?_⟩
      rw [hK]
      simpa [q4d, q7E, hi, q2q, Ac, Ah, Am, Aw, tV] using ih
    · rw [if_neg h1] at hnl
      subst hnl
      have h1i : ¬ (x.inn.l.length : Int) = 1 := by omega
      simp (disch := omega) [q4d, q7E, h2, Aw, A0, Aa, e, hi, A7, q2q, Ac, Ah, Am, tV, h3, h4, Af, Bh, hget, C4, h1, h1i, Bj, vt, vs]
      refine ⟨by omega, ?_⟩
      rw [hK]
      simpa [q4d, q7E, hi, q2q, Ac, Ah, Am, Aw, tV] using ih
theorem q9d (ty : Nat) (es : List (List T)) (cap : Option Nat) (hw : Ec 1 es) : F4 Tryz.prog Γ 74 [(1000000, .sl ty 1 es)] [.ls 1000000 0 es.length cap] (.ls 1000000 0 es.length (some es.length)) [(1000000, .sl ty 1 es)] := by
  refine G5 Np rfl ?_
  simp [Hk, Hl, qFt, hw]
def Pl (l : List Int) : T := .sl (Av l) (some l.length) none
theorem qBs (c : B9) (hc : COk c) (nets : Sl Int) (hl : nets.l.length ≤ 1000000000) : Ab Tryz.prog Γ 58 [.agg (q2q c nets)] (.agg [Pl (Ip c nets.l), Pl (B7 c nets.l)]) := by
  refine Ad q3j rfl ?_
  have hn := hc.nodes
  have ho := hc.outs
  have hs := Eu c
  have g1 := fun Q h0 => qCy (Γ := Γ) (Q := Q) c nets hl ho (Ip c nets.l) h0 c.outs.l.length 0 [] (by omega) rfl (by simp [Ip])
  have g2 := fun Q h0 => qB4 (Γ := Γ) (Q := Q) c hc nets hl (A5 c) (by omega) (fun x hx => ⟨(Hj x hx).1, (Hj x hx).2.1⟩) (Ip c nets.l) (B7 c nets.l) h0 (A5 c).length 0 [] (by omega) rfl (by simp [B7])
  have l1 : (Ip c nets.l).length = c.outs.l.length := by simp [Ip]
  have l2 : (B7 c nets.l).length = (A5 c).length := by simp [B7]
  have t1 := G7 (l := Ip c nets.l)
  have t2 := G7 (l := B7 c nets.l)
  generalize Ip c nets.l = O at *
  generalize B7 c nets.l = S at *
  simp [X1, q2q, Ac, Ah, Am, Aw, tV, A0]
  refine g1 _ ?_
  simp [q4d, q7E, q2q, Ac, Ah, Am, Aw, tV]
  refine A8 (D9 c hc) rfl ?_
  simp [A0]
  refine g2 _ ?_
  have hc1 := q9d (Γ := Γ) 68 (Av O) none Aa
  have hc2 := q9d (Γ := Γ) 68 (Av S) none Aa
  simp only [A0] at hc1 hc2
  simp [q4d, q7E]
  refine ⟨_, hc1, ?_⟩
  simp
  refine ⟨_, hc2, ?_⟩
  simp [X2, Pl, A0, B0, Ak, t1, t2]
end Go.Lg
namespace Go.Lg
open Go
section
variable {P : Program} {Γ : Tables} {Q : AX → St → Prop} {s : St}
/- probecard/scans.Insert (function 29) -/
abbrev q2G : IC := .gh (.seq (.reg [od 51 (.bin .lss (tm 50) (tm 49))] [kp [1, 2, 4, 7, 8, 48, 49, 50, 51] [4, 44, 46, 78, 90, 111, 157, 62040, 62052]]) (.seq (.cond (tm 51) .skip (.exit 0)) (.seq (.block 1 (.seq (.reg [od 52 (ia 1 48 50), od 53 (ld
 1 52), om 10 53] [kp [1, 2, 4, 7, 8, 10, 48, 49, 50] [4, 44, 46, 78, 90, 111, 157, 62040, 62052]]) (.reg [om 54 8, od 55 (.nck (tm 54)), od 56 (fa 4 55), od 57 (ld 1 56), om 58 10, on (.mup .str (tm 57) (tm 58) kT)] [kp [1, 2, 4,
 7, 8, 48, 49, 50] [4, 44, 46, 78, 90, 111, 157, 62040, 62052]]))) (.reg [od 59 (.bin .add (tm 50) (ki 1)), om 50 59] [kp [1, 2, 4, 7, 8, 48, 49, 50] [4, 44, 46, 78, 90, 111, 157, 62040, 62052]])))) [kp [1, 2, 4, 7, 8, 48, 49, 50]
 [4, 44, 46, 78, 90, 111, 157, 62040, 62052]]
def Oy : IC := .loop q2G
abbrev q2H : IC := .gh (.seq (.reg [od 95 (.bin .lss (tm 94) (tm 93))] [kp [2, 4, 7, 8, 11, 12, 15, 65, 66, 67, 92, 93, 94, 95] [4, 11, 44, 46, 64, 78, 90, 111, 157, 62040, 62052]]) (.seq (.cond (tm 95) .skip (.exit 4)) (.seq (.block 5 (.seq (.reg
 [od 96 (ia 1 92 94), od 97 (ld 1 96), om 17 97] [kp [2, 4, 7, 8, 11, 12, 15, 17, 65, 66, 67, 92, 93, 94] [4, 11, 44, 46, 64, 78, 90, 111, 157, 62040, 62052]]) (.reg [om 98 12, om 99 17, om 100 15, om 101 17, on (.mup (.int .i64)
 (tm 98) (tm 99) (tm 100)), om 15 101] [kp [2, 4, 7, 8, 11, 12, 15, 65, 66, 67, 92, 93, 94] [4, 11, 44, 46, 64, 78, 90, 111, 157, 62040, 62052]]))) (.reg [od 102 (.bin .add (tm 94) (ki 1)), om 94 102] [kp [2, 4, 7, 8, 11, 12, 15,
 65, 66, 67, 92, 93, 94] [4, 11, 44, 46, 64, 78, 90, 111, 157, 62040, 62052]])))) [kp [2, 4, 7, 8, 11, 12, 15, 65, 66, 67, 92, 93, 94] [4, 11, 44, 46, 64, 78, 90, 111, 157, 62040, 62052]]
def Jt : IC := .loop q2H
abbrev q2I : IC := .gh (.seq (.reg [od 68 (.bin .lss (tm 67) (tm 66))] [kp [2, 4, 7, 8, 11, 12, 65, 66, 67, 68] [4, 11, 44, 46, 64, 78, 90, 111, 157, 62040, 62052]]) (.seq (.cond (tm 68) .skip (.exit 2)) (.seq (.block 3 (.seq (.reg [om 69 67, od 70
 (ia 1 65 67), od 71 (ld 1 70), om 13 69, om 14 71] [kp [2, 4, 7, 8, 11, 12, 13, 14, 65, 66, 67] [4, 11, 44, 46, 64, 78, 90, 111, 157, 62040, 62052]]) (.seq (.reg [od 72 (fa 4 11), od 73 (.ldR 11 1 false (tm 72)), om 74 14, od 75
 (.call 86 [(tm 74)]), od 76 (.call 85 [(tm 75)]), od 77 (.bsl true 33 1 [(tm 76)]), od 78 (.app false 33 1 (tm 73) (tm 77)), od 79 (fa 4 11), on (.stR 11 1 (tm 79) (tm 78))] [kp [2, 4, 7, 8, 11, 12, 13, 14, 65, 66, 67] [4, 11, 44,
 46, 64, 78, 90, 111, 157, 62040, 62052]]) (.seq (.reg [om 80 8, od 81 (.build [(1, (ku 0)), (1, kN), (1, (ki 0)), (1, (ki 0))]), om 82 13, od 83 (.call 87 [(tm 82)]), od 84 (.bin .add (.const (sV [115, 105])) (tm 83)), od 85
 (.hcall 84 [(tm 80), (tm 81), (tm 84)] [44, 46, 111, 62040, 62052] 85000), om 15 85] [.ren 85040 62040, .ren 85052 62052, kp [2, 4, 7, 8, 11, 12, 14, 15, 65, 66, 67] [4, 11, 44, 46, 64, 78, 90, 111, 157, 62040, 62052]]) (.seq (.reg
 [od 86 (fa 6 11), od 87 (ld 1 86), om 88 15, od 89 (.bsl true 3 1 [(tm 88)]), od 90 (.app false 3 1 (tm 87) (tm 89)), od 91 (fa 6 11), on (.store 1 (tm 91) (tm 90))] [kp [2, 4, 7, 8, 11, 12, 14, 15, 65, 66, 67] [4, 11, 44, 46, 64,
 78, 90, 111, 157, 62040, 62052]]) (.seq (.seq (.reg [om 92 14, od 93 (le 0 92), od 94 (.mv (ki 0))] [kp [2, 4, 7, 8, 11, 12, 15, 65, 66, 67, 92, 93, 94] [4, 11, 44, 46, 64, 78, 90, 111, 157, 62040, 62052]]) (.block 4
 Jt)) (.reg [om 103 8, om 104 8, od 105 (.nck (tm 104)), od 106 (fa 0 105), od 107 (fa 3 106), od 108 (ld 1 107), om 109 15, od 110 (.bsl true 3 1 [(tm 109)]), od 111 (.app false 3 1 (tm 108) (tm 110)), od 112 (.nck (tm
 103)), od 113 (fa 0 112), od 114 (fa 3 113), on (.store 1 (tm 114) (tm 111))] [kp [2, 4, 7, 8, 11, 12, 65, 66, 67] [4, 11, 44, 46, 64, 78, 90, 111, 157, 62040, 62052]]))))))) (.reg [od 115 (.bin .add (tm 67) (ki 1)), om 67 115] [kp
 [2, 4, 7, 8, 11, 12, 65, 66, 67] [4, 11, 44, 46, 64, 78, 90, 111, 157, 62040, 62052]])))) [kp [2, 4, 7, 8, 11, 12, 65, 66, 67] [4, 11, 44, 46, 64, 78, 90, 111, 157, 62040, 62052]]
def Ju : IC := .loop q2I
abbrev q2J : IC := .gh (.seq (.reg [od 119 (.bin .lss (tm 118) (tm 117))] [kp [2, 4, 8, 11, 12, 116, 117, 118, 119] [4, 11, 44, 46, 64, 78, 90, 111, 157, 62040, 62052]]) (.seq (.cond (tm 119) .skip (.exit 6)) (.seq (.block 7 (.seq (.reg [om 120 118,
 od 121 (ia 1 116 118), od 122 (ld 1 121), om 18 120, om 19 122] [kp [2, 4, 8, 11, 12, 18, 19, 116, 117, 118] [4, 11, 44, 46, 64, 78, 90, 111, 157, 62040, 62052]]) (.seq (.reg [om 123 8, od 124 (fa 5 11), od 125 (ld 1 124), od 126
 (fa 0 2), od 127 (ld 1 126), om 128 19, od 129 (ia 4 127 128), od 130 (fa 1 129), od 131 (ld 1 130), od 132 (.iadr 1 (tm 131) (ki 0)), od 133 (ld 1 132), om 134 12, om 135 19, od 136 (.lkup (.int .i64) (.int .i64 0) false (tm 134)
 (tm 135)), od 137 (.bsl true 3 1 [(tm 125), (tm 133), (tm 136)]), od 138 (.build [(1, (ku 11)), (1, (tm 137)), (1, (ki 0)), (1, (ki 0))]), om 139 18, od 140 (.call 87 [(tm 139)]), od 141 (.bin .add (.const (sV [115, 109])) (tm
 140)), od 142 (.hcall 84 [(tm 123), (tm 138), (tm 141)] [44, 46, 111, 62040, 62052] 142000), om 20 142] [.ren 142040 62040, .ren 142052 62052, kp [2, 4, 8, 11, 12, 19, 20, 116, 117, 118] [4, 11, 44, 46, 64, 78, 90, 111, 157, 62040,
 62052]]) (.seq (.reg [om 143 8, od 144 (.nck (tm 143)), od 145 (fa 0 144), od 146 (fa 0 145), od 147 (ld 1 146), om 148 19, om 149 20, od 150 (.bsl true 3 1 [(tm 149)]), od 151 (ia 4 147 148), od 152 (fa 1 151), on (.store 1 (tm
 152) (tm 150))] [kp [2, 4, 8, 11, 12, 20, 116, 117, 118] [4, 11, 44, 46, 64, 78, 90, 111, 157, 62040, 62052]]) (.reg [od 153 (fa 7 11), od 154 (ld 1 153), om 155 20, od 156 (.bsl true 3 1 [(tm 155)]), od 157 (.app false 3 1 (tm
 154) (tm 156)), od 158 (fa 7 11), on (.store 1 (tm 158) (tm 157))] [kp [2, 4, 8, 11, 12, 116, 117, 118] [4, 11, 44, 46, 64, 78, 90, 111, 157, 62040, 62052]]))))) (.reg [od 159 (.bin .add (tm 118) (ki 1)), om 118 159] [kp [2, 4, 8,
 11, 12, 116, 117, 118] [4, 11, 44, 46, 64, 78, 90, 111, 157, 62040, 62052]])))) [kp [2, 4, 8, 11, 12, 116, 117, 118] [4, 11, 44, 46, 64, 78, 90, 111, 157, 62040, 62052]]
def Oz : IC := .loop q2J
abbrev q2K : IC := (.seq (.reg [od 2 (.box true (tm 0)), od 4 (.alloc false [(.slice none 0 0), (.slice none 0 0), (.slice none 0 0), (.slice none 0 0), (.slice none 0 0), (.int .i64 0), (.slice none 0 0), (.slice none 0 0)]), od 5 (.mv (ki 0))] [kp
 [1, 2, 4] [4, 44, 78, 90, 111, 157, 62040, 62052]]) (.seq (.seq (.reg [od 21 (lG 4 2), om 22 1, od 23 (.call 82 [(tm 21), (tm 22)]), om 6 23] [kp [1, 2, 4, 6] [4, 44, 78, 90, 111, 157, 62040, 62052]]) (.seq (.reg [om 24 6, od 25
 (.bin .neq (tm 24) (ki 0))] [kp [1, 2, 4, 6, 25] [4, 44, 78, 90, 111, 157, 62040, 62052]]) (.cond (tm 25) (.seq (.reg [od 26 (.build [(4, (.const (.agg #[(.slice none 0 0), (.slice none 0 0), (.slice none 0 0), (.slice none 0
 0)]))), (1, kN), (1, (ki 0)), (1, kN), (1, kN)]), om 27 6, on (.store 8 (tm 4) (tm 26)), om 5 27] [kp [4, 5] [4, 44, 78, 90, 111, 157, 62040, 62052]]) .ret) .skip))) (.seq (.reg [od 28 (lG 4 2), od 29 (.call 27 [(tm 28)]), om 7 29]
 [kp [1, 2, 4, 7] [4, 44, 78, 90, 111, 157, 62040, 62052]]) (.seq (.seq (.reg [od 30 (fa 0 2), od 31 (ld 1 30), od 32 (le 0 31), od 33 (.bin .add (tm 32) (ki 1)), om 34 1, od 35 (le 0 34), od 36 (.bin .add (tm 33) (tm 35)), om 37 7,
 od 38 (le 0 37), od 39 (.bin .add (tm 36) (tm 38)), od 40 (.bin .gtr (tm 39) (ki 16384))] [kp [1, 2, 4, 7, 40] [4, 44, 78, 90, 111, 157, 62040, 62052]]) (.cond (tm 40) (.seq (.reg [od 41 (.build [(4, (.const (.agg #[(.slice none 0
 0), (.slice none 0 0), (.slice none 0 0), (.slice none 0 0)]))), (1, kN), (1, (ki 0)), (1, kN), (1, kN)]), on (.store 8 (tm 4) (tm 41)), od 5 (.mv (ki 3))] [kp [4, 5] [4, 44, 78, 90, 111, 157, 62040, 62052]]) .ret) .skip)) (.seq
 (.reg [od 42 (lG 4 2), od 43 (.call 83 [(tm 42)]), od 44 (.mkmap), od 45 (.build [(4, (tm 43)), (1, (tm 44)), (1, kF)]), od 46 (.box false (tm 45)), om 8 46] [kp [1, 2, 4, 7, 8] [4, 44, 46, 78, 90, 111, 157, 62040, 62052]]) (.seq
 (.seq (.reg [od 47 (fa 1 2), od 48 (ld 1 47), od 49 (le 0 48), od 50 (.mv (ki 0))] [kp [1, 2, 4, 7, 8, 48, 49, 50] [4, 44, 46, 78, 90, 111, 157, 62040, 62052]]) (.block 0 Oy)) (.seq (.reg [od 11 (.alloc false [(.slice
 none 0 0), (.slice none 0 0), (.slice none 0 0), (.slice none 0 0), (.slice none 0 0), (.int .i64 0), (.slice none 0 0), (.slice none 0 0)])] [.nlb 11 4 78 33 1, .nlb 11 6 90 3 1, .nlb 11 7 157 3 1, kp [1, 2, 4, 7, 8, 11] [4, 11,
 44, 46, 78, 90, 111, 157, 62040, 62052]]) (.seq (.reg [om 60 8, od 61 (.build [(1, (ku 0)), (1, kN), (1, (ki 0)), (1, (ki 0))]), od 62 (.hcall 84 [(tm 60), (tm 61), (.const (sV [115, 101]))] [44, 46, 111, 62040, 62052] 62000), od
 63 (fa 5 11), on (.store 1 (tm 63) (tm 62))] [kp [1, 2, 4, 7, 8, 11] [4, 11, 44, 46, 78, 90, 111, 157, 62040, 62052]]) (.seq (.reg [od 64 (.mkmap), om 12 64] [kp [1, 2, 4, 7, 8, 11, 12] [4, 11, 44, 46, 64, 78, 90, 111, 157, 62040,
 62052]]) (.seq (.seq (.reg [om 65 1, od 66 (le 0 65), od 67 (.mv (ki 0))] [kp [2, 4, 7, 8, 11, 12, 65, 66, 67] [4, 11, 44, 46, 64, 78, 90, 111, 157, 62040, 62052]]) (.block 2 Ju)) (.seq (.seq (.reg [om 116 7, od 117
 (le 0 116), od 118 (.mv (ki 0))] [kp [2, 4, 8, 11, 12, 116, 117, 118] [4, 11, 44, 46, 64, 78, 90, 111, 157, 62040, 62052]]) (.gh (.block 6 Oz) [.frz 62040, .frz 62052, .frz 111, .frz 78, .frz 90, .frz 157])) (.seq
 (.seq (.reg [om 160 8, od 161 (.nck (tm 160)), od 162 (fa 5 161), od 163 (ld 1 162)] [kp [4, 8, 11, 163] [4, 11, 44, 46, 78, 90, 111, 157, 62040, 62052]]) (.cond (tm 163) (.seq (.reg [od 164 (.build [(4, (.const (.agg #[(.slice
 none 0 0), (.slice none 0 0), (.slice none 0 0), (.slice none 0 0)]))), (1, kN), (1, (ki 0)), (1, kN), (1, kN)]), on (.store 8 (tm 4) (tm 164)), od 5 (.mv (ki 5))] [kp [4, 5] [4, 44, 78, 90, 111, 157, 62040, 62052]]) .ret) .skip))
 (.seq (.reg [om 165 8, om 166 8, om 167 8, om 168 8, od 169 (.nck (tm 168)), od 170 (fa 0 169), od 171 (fa 0 170), od 172 (.ldR 46 1 false (tm 171)), od 173 (.call 88 [(tm 172)]), om 174 8, od 175 (.nck (tm 174)), od 176 (fa 0
 175), od 177 (fa 1 176), od 178 (.ldR 46 1 false (tm 177)), od 179 (.call 89 [(tm 178)]), om 180 8, od 181 (.nck (tm 180)), od 182 (fa 0 181), od 183 (fa 3 182), od 184 (.ldR 46 1 false (tm 183)), od 185 (.call 85 [(tm 184)]), od
 186 (.nck (tm 165)), od 187 (fa 0 186), od 188 (fa 0 187), on (.stR 46 1 (tm 188) (tm 173)), od 189 (.nck (tm 166)), od 190 (fa 0 189), od 191 (fa 1 190), on (.stR 46 1 (tm 191) (tm 179)), od 192 (.nck (tm 167)), od 193 (fa 0 192),
 od 194 (fa 3 193), on (.stR 46 1 (tm 194) (tm 185))] [kp [4, 8, 11] [4, 11, 44, 46, 78, 90, 111, 157, 62040, 62052]]) (.seq (.reg [om 195 8, od 196 (.nck (tm 195)), od 197 (fa 0 196), od 198 (.ldR 46 4 true (tm 197)), od 199 (fa 4
 11), od 200 (.ldR 11 1 false (tm 199)), od 201 (.call 90 [(tm 200)]), od 202 (fa 6 11), od 203 (.ldR 11 1 false (tm 202)), od 204 (.call 85 [(tm 203)]), od 205 (fa 7 11), od 206 (.ldR 11 1 false (tm 205)), od 207 (.call 85 [(tm
 206)]), od 208 (fa 0 11), on (.stR 11 4 (tm 208) (tm 198)), od 209 (fa 4 11), on (.stR 11 1 (tm 209) (tm 201)), od 210 (fa 6 11), on (.stR 11 1 (tm 210) (tm 204)), od 211 (fa 7 11), on (.stR 11 1 (tm 211) (tm 207))] [kp [4, 11] [4,
 11, 44, 78, 90, 111, 157, 62040, 62052]]) (.seq (.reg [od 212 (lG 8 11), on (.store 8 (tm 4) (tm 212)), od 5 (.mv (ki 0))] [kp [4, 5] [4, 44, 78, 90, 111, 157, 62040, 62052]]) .ret)))))))))))))))
theorem X3 (h : ∀ K : St → Prop, K = run P Γ Oy Q → run P Γ q2G (Ax K Q) s) : run P Γ Oy Q s := Aj h
theorem I0 (h : ∀ K : St → Prop, K = run P Γ Jt Q → run P Γ q2H (Ax K Q) s) : run P Γ Jt Q s := Aj h
theorem I1 (h : ∀ K : St → Prop, K = run P Γ Ju Q → run P Γ q2I (Ax K Q) s) : run P Γ Ju Q s := Aj h
theorem O4 (h : ∀ K : St → Prop, K = run P Γ Oz Q → run P Γ q2J (Ax K Q) s) : run P Γ Oz Q s := Aj h
def W5 : List RV := [.cell 4 8 true, .tmp 5]
/- (*probecard/scans.builder).add (function 84) -/
abbrev Vp : IC := .gh (.seq (.seq (.reg [om 7 0, od 8 (.nck (tm 7)), od 9 (fa 4 8), od 10 (ld 1 9), om 11 2, od 12 (.lkup .str (.bool false) false (tm 10) (tm 11))] [kp [0, 2, 4, 12] [40, 52, 1000000, 1000001, 1000002, 1000003, 1000004]]) (.cond (tm
 12) .skip (.exit 0))) (.block 1 (.reg [om 13 2, od 14 (.bin .add (tm 13) (.const (sV [95]))), om 2 14] [kp [0, 2, 4] [40, 52, 1000000, 1000001, 1000002, 1000003, 1000004]]))) [kp [0, 2, 4] [40, 52, 1000000, 1000001, 1000002,
 1000003, 1000004]]
def M8 : IC := .loop Vp
abbrev H9 : IC := (.seq (.reg [od 4 (.box true (tm 1)), od 6 (.mv (ki 0))] [kp [0, 2, 4] [40, 52, 1000000, 1000001, 1000002, 1000003, 1000004]]) (.seq (.block 0 M8) (.seq (.reg [om 15 0, od 16 (.nck (tm 15)), od 17 (fa 4 16), od 18
 (ld 1 17), om 19 2, on (.mup .str (tm 18) (tm 19) kT)] [kp [0, 2, 4] [40, 52, 1000000, 1000001, 1000002, 1000003, 1000004]]) (.seq (.reg [om 20 0, om 21 0, od 22 (.nck (tm 21)), od 23 (fa 5 22), od 24 (ld 1 23), om 25 24, oF 26
 (.mv (tm 2)) 25, oF 27 (le 1 26) 25, oF 28 (.bin .gtr (tm 27) (ki 32)) 25, od 29 (.pick (tm 25) kT (tm 28)), od 30 (.nck (tm 20)), od 31 (fa 5 30), on (.store 1 (tm 31) (tm 29))] [kp [0, 2, 4] [40, 52, 1000000, 1000001, 1000002,
 1000003, 1000004]]) (.seq (.reg [om 32 0, om 33 0, od 34 (.nck (tm 33)), od 35 (fa 0 34), od 36 (fa 0 35), od 37 (.ldR 1000001 1 false (tm 36)), od 38 (.ldT 4 true (tm 4)), od 39 (.bsl true 104 4 [(tm 38)]), od 40 (.app false 104 4
 (tm 37) (tm 39)), od 41 (.nck (tm 32)), od 42 (fa 0 41), od 43 (fa 0 42), on (.stR 1000001 1 (tm 43) (tm 40))] [kp [0, 2] [40, 52, 1000000, 1000001, 1000002, 1000003, 1000004]]) (.seq (.reg [om 44 0, om 45 0, od 46 (.nck (tm 45)),
 od 47 (fa 0 46), od 48 (fa 1 47), od 49 (ld 1 48), om 50 2, od 51 (.bsl true 9 1 [(tm 50)]), od 52 (.app false 9 1 (tm 49) (tm 51)), od 53 (.nck (tm 44)), od 54 (fa 0 53), od 55 (fa 1 54), on (.store 1 (tm 55) (tm 52))] [kp [0]
 [40, 52, 1000000, 1000001, 1000002, 1000003, 1000004]]) (.seq (.reg [om 56 0, od 57 (.nck (tm 56)), od 58 (fa 0 57), od 59 (fa 0 58), od 60 (ld 1 59), od 61 (le 0 60), od 62 (.bin .sub (tm 61) (ki 1)), om 6 62] [kp [6] [40, 52,
 1000000, 1000001, 1000002, 1000003, 1000004]]) .ret)))))))
theorem Hm (h : ∀ K : St → Prop, K = run P Γ M8 Q → run P Γ Vp (Ax K Q) s) : run P Γ M8 Q s := Aj h
def Ha : List RV := [.tmp 6]
/- probecard/netlists.Copy (function 83) -/
abbrev q1U : IC := .gh (.seq (.reg [od 25 (.bin .lss (tm 24) (tm 23))] [kp [2, 3, 22, 23, 24, 25] [2, 3, 14007]]) (.seq (.cond (tm 25) .skip (.exit 0)) (.seq (.block 1 (.seq (.reg [om 26 24, od 27 (ia 4 22 24), od 28 (lG 4 27), od 5 (.alloc false
 [(.int .u8 0), (.slice none 0 0), (.int .i64 0), (.int .i64 0)]), om 4 26, on (.store 4 (tm 5) (tm 28))] [kp [2, 3, 4, 5, 22, 23, 24] [2, 3, 5, 14007]]) (.reg [od 29 (fa 0 3), od 30 (.ldR 3 1 false (tm 29)), om 31 4, od 32 (fa 1
 5), od 33 (.ldR 5 1 false (tm 32)), od 34 (.callT 136 [(tm 33)]), od 35 (ia 4 30 31), od 36 (fa 1 35), on (.stR 14007 1 (tm 36) (tm 34))] [kp [2, 3, 22, 23, 24] [2, 3, 14007]]))) (.reg [od 37 (.bin .add (tm 24) (ki 1)), om 24 37]
 [kp [2, 3, 22, 23, 24] [2, 3, 14007]])))) [kp [2, 3, 22, 23, 24] [2, 3, 14007]]
def N9 : IC := .loop q1U
abbrev q1V : IC := .gh (.seq (.reg [od 42 (.bin .lss (tm 41) (tm 40))] [kp [2, 3, 39, 40, 41, 42] [2, 3, 14007]]) (.seq (.cond (tm 42) .skip (.exit 2)) (.seq (.block 3 (.seq (.reg [om 43 41, od 44 (ia 3 39 41), od 45 (lG 3 44), od 7 (.alloc false
 [(.slice none 0 0), (.slice none 0 0), (.int .i64 0)]), om 6 43, on (.store 3 (tm 7) (tm 45))] [kp [2, 3, 6, 7, 39, 40, 41] [2, 3, 7, 14007]]) (.reg [od 46 (fa 2 3), od 47 (.ldR 3 1 false (tm 46)), om 48 6, od 49 (fa 2 3), od 50
 (.ldR 3 1 false (tm 49)), om 51 6, od 52 (fa 0 7), od 53 (.ldR 7 1 false (tm 52)), od 54 (.callT 136 [(tm 53)]), od 55 (fa 1 7), od 56 (.ldR 7 1 false (tm 55)), od 57 (.callT 136 [(tm 56)]), od 58 (ia 3 47 48), od 59 (fa 0 58), on
 (.stR 14007 1 (tm 59) (tm 54)), od 60 (ia 3 50 51), od 61 (fa 1 60), on (.stR 14007 1 (tm 61) (tm 57))] [kp [2, 3, 39, 40, 41] [2, 3, 14007]]))) (.reg [od 62 (.bin .add (tm 41) (ki 1)), om 41 62] [kp [2, 3, 39, 40, 41] [2, 3,
 14007]])))) [kp [2, 3, 39, 40, 41] [2, 3, 14007]]
def Uj : IC := .loop q1V
abbrev q1W : IC := (.seq (.reg [od 1 (.box true (tm 0)), od 2 (.alloc false [(.slice none 0 0), (.slice none 0 0), (.slice none 0 0), (.slice none 0 0)])] [kp [1, 2] [2, 14007]]) (.seq (.reg [od 8 (fa 0 1), od 9 (.ldT 1 false (tm 8)), od 10 (.ncall
 133 [(tm 9)] 10000), od 11 (fa 1 1), od 12 (.ldT 1 false (tm 11)), od 13 (.callT 134 [(tm 12)]), od 14 (fa 2 1), od 15 (.ldT 1 false (tm 14)), od 16 (.callT 135 [(tm 15)]), od 17 (fa 3 1), od 18 (.ldT 1 false (tm 17)), od 19
 (.callT 136 [(tm 18)]), od 20 (.build [(1, (tm 10)), (1, (tm 13)), (1, (tm 16)), (1, (tm 19))]), od 3 (.alloc false [(.slice none 0 0), (.slice none 0 0), (.slice none 0 0), (.slice none 0 0)]), on (.stR 3 4 (tm 3) (tm 20))] [kp
 [2, 3] [2, 3, 14007]]) (.seq (.seq (.reg [od 21 (fa 0 3), od 22 (ld 1 21), od 23 (le 0 22), od 24 (.mv (ki 0))] [kp [2, 3, 22, 23, 24] [2, 3, 14007]]) (.gh (.block 0 N9) [.frz 14007])) (.seq (.seq (.reg [od 38 (fa 2
 3), od 39 (ld 1 38), od 40 (le 0 39), od 41 (.mv (ki 0))] [kp [2, 3, 39, 40, 41] [2, 3, 14007]]) (.block 2 Uj)) (.seq (.reg [od 63 (lG 4 3), on (.store 4 (tm 2) (tm 63))] [kp [2] [2, 14007]]) .ret)))))
theorem Vq (h : ∀ K : St → Prop, K = run P Γ N9 Q → run P Γ q1U (Ax K Q) s) : run P Γ N9 Q s := Aj h
theorem q3k (h : ∀ K : St → Prop, K = run P Γ Uj Q → run P Γ q1V (Ax K Q) s) : run P Γ Uj Q s := Aj h
def q1X : List RV := [.cell 2 4 true]
/- probecard/netlists.copied[probecard/api.Node] (function 133) -/
abbrev L0 : IC := (.seq (.reg [od 2 (.mv kN)] [kp [0] []]) (.seq (.reg [om 3 0, od 4 (.hcall 162 [(tm 3)] [] 4000), od 5 (.hcall 88 [(tm 4)] [4007] 5000), om 2 5] [kp [2] [4007]]) .ret))
def L1 : List RV := [.tmp 2]
/- probecard/netlists.copied[string] (function 134) -/
abbrev Nq : IC := (.seq (.reg [od 2 (.mv kN)] [kp [0] []]) (.seq (.reg [om 3 0, od 4 (.call 163 [(tm 3)]), od 5 (.call 89 [(tm 4)]), om 2 5] [kp [2] []]) .ret))
def Nr : List RV := [.tmp 2]
/- probecard/netlists.copied[probecard/api.Memory] (function 135) -/
abbrev Iu : IC := (.seq (.reg [od 2 (.mv kN)] [kp [0] []]) (.seq (.reg [om 3 0, od 4 (.call 165 [(tm 3)]), od 5 (.call 164 [(tm 4)]), om 2 5] [kp [2] []]) .ret))
def Iw : List RV := [.tmp 2]
/- probecard/netlists.copied[int] (function 136) -/
abbrev S9 : IC := (.seq (.reg [od 2 (.mv kN)] [kp [0] []]) (.seq (.reg [om 3 0, od 4 (.call 86 [(tm 3)]), od 5 (.call 85 [(tm 4)]), om 2 5] [kp [2] []]) .ret))
def Fo : List RV := [.tmp 2]
/- slices.Clone[[]probecard/api.Node,probecard/api.Node] (function 162) -/
abbrev Hn : IC := (.seq (.reg [od 2 (.mv kN)] [kp [0] []]) (.seq (.seq (.reg [om 3 0, od 4 (.isNil true (tm 3))] [kp [0, 4] []]) (.cond (tm 4) (.seq (.reg [od 2 (.mv kN)] [kp [2] [7]]) .ret) .skip)) (.seq (.reg [od 5 (.bsl true 104 4 []), om 6 0, od
 7 (.app false 104 4 (tm 5) (tm 6)), om 2 7] [kp [2] [7]]) .ret)))
def Ho : List RV := [.tmp 2]
/- slices.Clone[[]string,string] (function 163) -/
abbrev Jg : IC := (.seq (.reg [od 2 (.mv kN)] [kp [0] []]) (.seq (.seq (.reg [om 3 0, od 4 (.isNil true (tm 3))] [kp [0, 4] []]) (.cond (tm 4) (.seq (.reg [od 2 (.mv kN)] [kp [2] []]) .ret) .skip)) (.seq (.reg [od 5 (.bsl true 9 1 []), om 6 0, od 7
 (.appT 9 1 (tm 5) (tm 6)), om 2 7] [kp [2] []]) .ret)))
def Jh : List RV := [.tmp 2]
/- slices.Clone[[]probecard/api.Memory,probecard/api.Memory] (function 165) -/
abbrev M9 : IC := (.seq (.reg [od 2 (.mv kN)] [kp [0] []]) (.seq (.seq (.reg [om 3 0, od 4 (.isNil true (tm 3))] [kp [0, 4] []]) (.cond (tm 4) (.seq (.reg [od 2 (.mv kN)] [kp [2] []]) .ret) .skip)) (.seq (.reg [od 5 (.bsl true 110 3 []), om 6 0, od
 7 (.appT 110 3 (tm 5) (tm 6)), om 2 7] [kp [2] []]) .ret)))
def Mc : List RV := [.tmp 2]
/- slices.Clip[[]probecard/api.Node,probecard/api.Node] (function 88) -/
abbrev Ih : IC := (.seq (.reg [od 2 (.mv kN)] [kp [0] [1000000]]) (.seq (.reg [om 3 0, om 4 0, od 5 (le 0 4), om 6 0, od 7 (le 0 6), od 8 (.slice 4 (tm 3) none (some (tm 5)) (some (tm 7))), om 2 8] [kp [2] [1000000]]) .ret))
def Ii : List RV := [.tmp 2]
/- slices.Clip[[]string,string] (function 89) -/
abbrev Jx : IC := (.seq (.reg [od 2 (.mv kN)] [kp [0] []]) (.seq (.reg [om 3 0, om 4 0, od 5 (le 0 4), om 6 0, od 7 (le 0 6), od 8 (.slice 1 (tm 3) none (some (tm 5)) (some (tm 7))), om 2 8] [kp [2] []]) .ret))
def Jy : List RV := [.tmp 2]
/- slices.Clip[[]probecard/api.Memory,probecard/api.Memory] (function 164) -/
abbrev Ns : IC := (.seq (.reg [od 2 (.mv kN)] [kp [0] []]) (.seq (.reg [om 3 0, om 4 0, od 5 (le 0 4), om 6 0, od 7 (le 0 6), od 8 (.slice 3 (tm 3) none (some (tm 5)) (some (tm 7))), om 2 8] [kp [2] []]) .ret))
def Nu : List RV := [.tmp 2]
/- strconv.Itoa (function 87) -/
abbrev q2L : IC := (.seq (.reg [od 2 (.mv (.const (sV [])))] [kp [0] []]) (.seq (.reg [om 3 0, od 4 (.call 137 [(tm 3)]), om 2 4] [kp [2] []]) .ret))
def q2M : List RV := [.tmp 2]
/- internal/strconv.Itoa (function 137) -/
abbrev q0T : IC := (.seq (.reg [od 2 (.mv (.const (sV [])))] [kp [0] []]) (.seq (.reg [om 3 0, od 4 (.call 166 [(tm 3), (ki 10)]), om 2 4] [kp [2] []]) .ret))
def q0U : List RV := [.tmp 2]
/- internal/strconv.FormatInt (function 166) -/
abbrev Si : IC := (.seq (.reg [od 4 (.mv (.const (sV [])))] [kp [0, 1] []]) (.seq (.seq (.reg [om 10 1, od 11 (.bin .eql (tm 10) (ki 10))] [kp [0, 1, 11] []]) (.cond (tm 11) (.seq (.seq (.reg [om 12 0, od 13 (.bin .leq (ki 0) (tm 12)), om 14 13, oT
 15 (.mv (tm 0)) 14, oT 16 (.bin .lss (tm 15) (ki 100)) 14, od 17 (.pick (tm 14) (tm 16) kF)] [kp [0, 17] []]) (.cond (tm 17) (.seq (.reg [om 18 0, od 19 (.call 183 [(tm 18)]), om 4 19] [kp [4] []]) .ret) .skip)) (.seq (.reg [od 5
 (.alloc false [(.int .u8 0), (.int .u8 0), (.int .u8 0), (.int .u8 0), (.int .u8 0), (.int .u8 0), (.int .u8 0), (.int .u8 0), (.int .u8 0), (.int .u8 0), (.int .u8 0), (.int .u8 0), (.int .u8 0), (.int .u8 0), (.int .u8 0), (.int
 .u8 0), (.int .u8 0), (.int .u8 0), (.int .u8 0), (.int .u8 0), (.int .u8 0), (.int .u8 0), (.int .u8 0), (.int .u8 0)])] [kp [0, 5] [5]]) (.seq (.reg [om 20 0, od 21 (.conv .u64 (tm 20)), om 6 21] [kp [0, 5, 6] [5]]) (.seq (.seq
 (.reg [om 22 0, od 23 (.bin .lss (tm 22) (ki 0))] [kp [0, 5, 6, 23] [5]]) (.cond (tm 23) (.reg [om 24 6, od 25 (.un .neg (tm 24)), om 6 25] [kp [0, 5, 6] [5]]) .skip)) (.seq (.reg [om 26 6, od 27 (.call 184 [(tm 26)]), om 7 27] [kp
 [0, 5, 6, 7] [5]]) .dead))))) .skip)) (.seq (.reg [om 45 0, od 46 (.conv .u64 (tm 45)), om 47 1, om 48 0, od 49 (.bin .lss (tm 48) (ki 0)), od 50 (.call 186 [kN, (tm 46), (tm 47), (tm 49), kF]), om 44 50, od 51 (ex 44 0), od 52 (ex
 44 1), om 8 51, om 9 52] [kp [9] []]) (.seq (.reg [om 53 9, om 4 53] [kp [4] []]) .ret))))
def Sj : List RV := [.tmp 4]
/- internal/strconv.small (function 183) -/
abbrev Pm : IC := (.seq (.reg [od 2 (.mv (.const (sV [])))] [kp [0] []]) (.seq (.seq (.reg [om 3 0, od 4 (.bin .lss (tm 3) (ki 10))] [kp [0, 4] []]) (.cond (tm 4) (.seq (.reg [om 5 0, om 6 0, od 7 (.bin .add (tm 6) (ki 1)), od 8 (.slice 0 (.const
 (sV [48, 49, 50, 51, 52, 53, 54, 55, 56, 57, 97, 98, 99, 100, 101, 102, 103, 104, 105, 106, 107, 108, 109, 110, 111, 112, 113, 114, 115, 116, 117, 118, 119, 120, 121, 122])) (some (tm 5)) (some (tm 7)) none), om 2 8] [kp [2] []])
 .ret) .skip)) (.seq (.reg [om 9 0, od 10 (.bin .mul (tm 9) (ki 2)), om 11 0, od 12 (.bin .mul (tm 11) (ki 2)), od 13 (.bin .add (tm 12) (ki 2)), od 14 (.slice 0 (.const (sV [48, 48, 48, 49, 48, 50, 48, 51, 48, 52, 48, 53, 48, 54,
 48, 55, 48, 56, 48, 57, 49, 48, 49, 49, 49, 50, 49, 51, 49, 52, 49, 53, 49, 54, 49, 55, 49, 56, 49, 57, 50, 48, 50, 49, 50, 50, 50, 51, 50, 52, 50, 53, 50, 54, 50, 55, 50, 56, 50, 57, 51, 48, 51, 49, 51, 50, 51, 51, 51, 52, 51, 53,
 51, 54, 51, 55, 51, 56, 51, 57, 52, 48, 52, 49, 52, 50, 52, 51, 52, 52, 52, 53, 52, 54, 52, 55, 52, 56, 52, 57, 53, 48, 53, 49, 53, 50, 53, 51, 53, 52, 53, 53, 53, 54, 53, 55, 53, 56, 53, 57, 54, 48, 54, 49, 54, 50, 54, 51, 54, 52,
 54, 53, 54, 54, 54, 55, 54, 56, 54, 57, 55, 48, 55, 49, 55, 50, 55, 51, 55, 52, 55, 53, 55, 54, 55, 55, 55, 56, 55, 57, 56, 48, 56, 49, 56, 50, 56, 51, 56, 52, 56, 53, 56, 54, 56, 55, 56, 56, 56, 57, 57, 48, 57, 49, 57, 50, 57, 51,
 57, 52, 57, 53, 57, 54, 57, 55, 57, 56, 57, 57])) (some (tm 10)) (some (tm 13)) none), om 2 14] [kp [2] []]) .ret)))
def Pn : List RV := [.tmp 2]
end
end Go.Lg
namespace Go.Lg
open Go Go.Proofs
theorem q7F : B1 Tryz.prog 29 q2K 213 2 W5 = true := by kernel_rfl
theorem Jz : B1 Tryz.prog 84 H9 63 3 Ha = true := by kernel_rfl
theorem q6Y : B1 Tryz.prog 83 q1W 64 1 q1X = true := by kernel_rfl
theorem W6 : B1 Tryz.prog 133 L0 6 1 L1 = true := by kernel_rfl
theorem Zb : B1 Tryz.prog 134 Nq 6 1 Nr = true := by kernel_rfl
theorem Uk : B1 Tryz.prog 135 Iu 6 1 Iw = true := by kernel_rfl
theorem q1Y : B1 Tryz.prog 136 S9 6 1 Fo = true := by kernel_rfl
theorem Zt : B1 Tryz.prog 162 Hn 8 1 Ho = true := by kernel_rfl
theorem q1Z : B1 Tryz.prog 163 Jg 8 1 Jh = true := by kernel_rfl
theorem Xo : B1 Tryz.prog 165 M9 8 1 Mc = true := by kernel_rfl
theorem Oo : B1 Tryz.prog 88 Ih 9 1 Ii = true := by kernel_rfl
theorem Sm : B1 Tryz.prog 89 Jx 9 1 Jy = true := by kernel_rfl
theorem Zc : B1 Tryz.prog 164 Ns 9 1 Nu = true := by kernel_rfl
theorem q7G : B1 Tryz.prog 87 q2L 5 1 q2M = true := by kernel_rfl
theorem q5f : B1 Tryz.prog 137 q0T 5 1 q0U = true := by kernel_rfl
theorem q1a : B1 Tryz.prog 166 Si 54 2 Sj = true := by kernel_rfl
theorem q4e : B1 Tryz.prog 183 Pm 15 1 Pn = true := by kernel_rfl
end Go.Lg
namespace Go.Lg
open Go Go.Proofs
variable {Γ : Tables}
def Tv (i : Nat) : List UInt8 := if i < 10 then [UInt8.ofNat (48 + i)] else [UInt8.ofNat (48 + i / 10), UInt8.ofNat (48 + i % 10)]
def qMM : List UInt8 := [48, 49, 50, 51, 52, 53, 54, 55, 56, 57, 97, 98, 99, 100, 101, 102, 103, 104, 105, 106, 107, 108, 109, 110, 111, 112, 113, 114, 115, 116, 117, 118, 119, 120, 121, 122]
def qMN : List UInt8 := (List.range 100).flatMap fun i => [UInt8.ofNat (48 + i / 10), UInt8.ofNat (48 + i % 10)]
theorem qIz : ∀ i, i < 10 → ((ByteArray.mk qMM.toArray).extract i (i + 1)).data.toList = [UInt8.ofNat (48 + i)] := by decide +kernel
theorem qJ0 : ∀ i, i < 100 → ((ByteArray.mk qMN.toArray).extract (i * 2) (i * 2 + 2)).data.toList = [UInt8.ofNat (48 + i / 10), UInt8.ofNat (48 + i % 10)] := by decide +kernel
theorem qJj {a : ByteArray} {l : List UInt8} (h : a.data.toList = l) : a = ByteArray.mk l.toArray := by
  cases a; simp only at h; subst h; rfl
theorem qEQ (i : Nat) (hi : i < 100) : Ab Tryz.prog Γ 183 [tI i] (tS (Tv i)) := by
  refine Ad q4e rfl ?_
  by_cases h : i < 10
  · have h' : (i : Int) < 10 := by omega
    have e := qJj (qIz i h)
    simp only [qMM] at e
    simp (disch := omega) [Pm, sV, h, h', A7]
    have e1 : ((i : Int) + 1).toNat = i + 1 := by omega
    simp [Pn, e1, e, Tv, h, tS, sV]
    omega
  · have h' : ¬ (i : Int) < 10 := by omega
    have e := qJj (qJ0 i hi)
    have d2 : qMN = [48, 48, 48, 49, 48, 50, 48, 51, 48, 52, 48, 53, 48, 54, 48, 55, 48, 56, 48, 57, 49, 48, 49, 49, 49, 50, 49, 51, 49, 52, 49, 53, 49, 54, 49, 55, 49, 56, 49, 57, 50, 48, 50, 49, 50, 50, 50, 51, 50, 52, 50, 53, 50, 54, 50, 55, 50, 56, 50, 57, 51, 48, 51, 49, 51, 50, 51, 51, 51, 52, 51, 53, 51, 54, 51, 55, 51, 56, 51, 57, 52, 48, 52, 49, 52, 50, 52, 51, 52, 52, 52, 53, 52, 54, 52, 55, 52, 56, 52, 57, 53, 48, 53, 49, 53, 50, 53, 51, 53, 52, 53, 53, 53, 54, 53, 55, 53, 56, 53, 57, 54, 48, 54, 49, 54, 50, 54, 51, 54, 52, 54, 53, 54, 54, 54, 55, 54, 56, 54, 57, 55, 48, 55, 49, 55, 50, 55, 51, 55, 52, 55, 53, 55, 54, 55, 55, 55, 56, 55, 57, 56, 48, 56, 49, 56, 50, 56, 51, 56, 52, 56, 53, 56, 54, 56, 55, 56, 56, 56, 57, 57, 48, 57, 49, 57, 50, 57, 51, 57, 52, 57, 53, 57, 54, 57, 55, 57, 56, 57, 57] := by decide +kernel
    rw [d2] at e
    simp (disch := omega) [Pm, sV, h, h', A7]
    have e1 : ((i : Int) * 2).toNat = i * 2 := by omega
    have e2 : ((i : Int) * 2 + 2).toNat = i * 2 + 2 := by omega
    simp [Pn, e1, e2, e, Tv, h, tS, sV]
    omega
theorem q7H (i : Nat) (hi : i < 100) : Ab Tryz.prog Γ 87 [tI i] (tS (Tv i)) := by
  have h1 : Ab Tryz.prog Γ 166 [tI i, tI 10] (tS (Tv i)) := by
    refine Ad q1a rfl ?_
    have h0 : (0 : Int) ≤ i := by omega
    have h2 : (i : Int) < 100 := by omega
    simp (disch := omega) [Si, h2]
    refine A6 (qEQ i hi) rfl ?_
    simp [Sj, tS, sV]
  have h2 : Ab Tryz.prog Γ 137 [tI i] (tS (Tv i)) := by
    refine Ad q5f rfl ?_
    simp [q0T]
    refine A6 h1 rfl ?_
    simp [q0U, tS, sV]
  refine Ad q7G rfl ?_
  simp [q2L]
  refine A6 h2 rfl ?_
  simp [q2M, tS, sV]
end Go.Lg
namespace Go.Lg
open Go
section
variable {P : Program} {Γ : Tables} {Q : AX → St → Prop} {s : St}
/- probecard/scans.Balance (function 94) -/
abbrev q3l : IC := .gh (.seq (.reg [od 32 (.bin .lss (tm 31) (tm 30))] [kp [2, 6, 20, 21, 22, 29, 30, 31, 32] [19]]) (.seq (.cond (tm 32) .skip (.exit 2)) (.seq (.block 3 (.seq (.reg [od 33 (ia 1 29 31), od 34 (ld 1 33), om 10 34] [kp [2, 6, 10, 20,
 21, 22, 29, 30, 31] [19]]) (.seq (.seq (.reg [om 35 10, od 36 (.bin .lss (tm 35) (ki 0)), om 37 36, oF 38 (.mv (tm 10)) 37, oF 39 (fa 0 2) 37, oF 40 (ld 1 39) 37, oF 41 (le 0 40) 37, oF 42 (.bin .geq (tm 38) (tm 41)) 37, od 43
 (.pick (tm 37) kT (tm 42)), om 44 43, oF 45 (fa 0 2) 44, oF 46 (ld 1 45) 44, oF 47 (.mv (tm 10)) 44, oF 48 (ia 4 46 47) 44, oF 49 (fa 0 48) 44, oF 50 (ld 1 49) 44, oF 51 (.bin .neq (tm 50) (ku 14)) 44, od 52 (.pick (tm 44) kT (tm
 51)), om 53 52, oF 54 (.mv (tm 6)) 53, oF 55 (.mv (tm 10)) 53, oF 56 (.lkup (.int .i64) (.bool false) false (tm 54) (tm 55)) 53, od 57 (.pick (tm 53) kT (tm 56))] [kp [2, 6, 10, 20, 21, 22, 29, 30, 31, 57] [19]]) (.cond (tm 57)
 (.seq (.reg [od 4 (.mv (ki 1))] [kp [4] []]) .ret) .skip)) (.reg [om 58 6, om 59 10, on (.mup (.int .i64) (tm 58) (tm 59) kT)] [kp [2, 6, 20, 21, 22, 29, 30, 31] [19]])))) (.reg [od 60 (.bin .add (tm 31) (ki 1)), om 31 60] [kp [2,
 6, 20, 21, 22, 29, 30, 31] [19]])))) [kp [2, 6, 20, 21, 22, 29, 30, 31] [19]]
def Sr : IC := .loop q3l
abbrev q3m : IC := .gh (.seq (.reg [od 23 (.bin .lss (tm 22) (tm 21))] [kp [2, 6, 20, 21, 22, 23] [19]]) (.seq (.cond (tm 23) .skip (.exit 0)) (.seq (.block 1 (.seq (.reg [od 24 (ia 1 20 22), od 25 (ld 1 24), om 8 25] [kp [2, 6, 8, 20, 21, 22] [19]])
 (.seq (.seq (.reg [om 26 8, od 27 (le 0 26), od 28 (.bin .eql (tm 27) (ki 0))] [kp [2, 6, 8, 20, 21, 22, 28] [19]]) (.cond (tm 28) (.seq (.reg [od 4 (.mv (ki 1))] [kp [4] []]) .ret) .skip)) (.seq (.reg [om 29 8, od 30 (le 0 29), od
 31 (.mv (ki 0))] [kp [2, 6, 20, 21, 22, 29, 30, 31] [19]]) (.block 2 Sr))))) (.reg [od 61 (.bin .add (tm 22) (ki 1)), om 22 61] [kp [2, 6, 20, 21, 22] [19]])))) [kp [2, 6, 20, 21, 22] [19]]
def Ss : IC := .loop q3m
abbrev q3n : IC := (.seq (.reg [od 2 (.box true (tm 0)), od 4 (.mv (ki 0))] [kp [1, 2] []]) (.seq (.seq (.reg [od 11 (lG 4 2), od 12 (.call 132 [(tm 11)]), om 5 12] [kp [1, 2, 5] []]) (.seq (.reg [om 13 5, od 14 (.bin .neq (tm 13) (ki 0))] [kp [1, 2,
 5, 14] []]) (.cond (tm 14) (.seq (.reg [om 15 5, om 4 15] [kp [4] []]) .ret) .skip))) (.seq (.seq (.reg [om 16 1, od 17 (le 0 16), od 18 (.bin .gtr (tm 17) (ki 64))] [kp [1, 2, 18] []]) (.cond (tm 18) (.seq (.reg [od 4 (.mv (ki
 3))] [kp [4] []]) .ret) .skip)) (.seq (.reg [od 19 (.mkmap), om 6 19] [kp [1, 2, 6] [19]]) (.seq (.seq (.reg [om 20 1, od 21 (le 0 20), od 22 (.mv (ki 0))] [kp [2, 6, 20, 21, 22] [19]]) (.block 0 Ss)) (.seq (.seq (.reg
 [om 62 6, od 63 (le 2 62), od 64 (lG 4 2), od 65 (.call 27 [(tm 64)]), od 66 (le 0 65), od 67 (.bin .neq (tm 63) (tm 66))] [kp [67] []]) (.cond (tm 67) (.seq (.reg [od 4 (.mv (ki 8))] [kp [4] []]) .ret) .skip)) (.seq (.reg [od 4
 (.mv (ki 0))] [kp [4] []]) .ret)))))))
theorem Zd (h : ∀ K : St → Prop, K = run P Γ Sr Q → run P Γ q3l (Ax K Q) s) : run P Γ Sr Q s := Aj h
theorem Ze (h : ∀ K : St → Prop, K = run P Γ Ss Q → run P Γ q3m (Ax K Q) s) : run P Γ Ss Q s := Aj h
def Ij : List RV := [.tmp 4]
/- probecard/scans.Length (function 96) -/
end
end Go.Lg
namespace Go.Lg
open Go Go.Proofs
theorem q8L : B1 Tryz.prog 82 q3n 68 2 Ij = true := by kernel_rfl
end Go.Lg
namespace Go.Lg
open Go Go.Proofs
variable {Γ : Tables}
def q2N (l : List Int) : List (Value × T) := l.map fun n => (.int .i64 n, tB true)
theorem q5g (x : Int) : ∀ l : List Int, Eh (.int .i64 x) (q2N l) = if x ∈ l then some (tB true) else none
  | [] => rfl
  | y :: l => by
    have ih := q5g x l
    simp only [q2N, List.map_cons, Eh, Tf, qBi] at ih ⊢
    by_cases h : x = y
    · simp [h]
    · simp [h, ih]
theorem qB5 (x : Int) : ∀ l : List Int, x ∉ l → q1k (.int .i64 x) (tB true) (q2N l) = q2N (l ++ [x])
  | [], _ => rfl
  | y :: l, h => by
    have ih := qB5 x l (fun hm => h (List.mem_cons_of_mem _ hm))
    have hne : x ≠ y := fun e => h (by simp [e])
    simp only [q2N, List.map_cons, q1k, Tf, qBi, List.cons_append] at ih ⊢
    simp [hne, ih]
theorem qGB (l : List Int) : Iy (.int .i64) (q2N l) := by
  intro e he; obtain ⟨s, _, rfl⟩ := List.mem_map.1 he; rfl
theorem qGC (l : List Int) : (q2N l).length = l.length := by simp [q2N]
def Na (c : B9) (done : List Int) (n : Int) : Bool := decide (n < 0 ∨ (c.nodes.l.length : Int) ≤ n ∨ Aq c n.toNat ≠ 14 ∨ n ∈ done)
def q0V (c : B9) : List Int → List Int → Option (List Int)
  | done, [] => some done
  | done, n :: l => if Na c done n then none else q0V c (done ++ [n]) l
def Su (c : B9) : List Int → List (Sl Int) → Option (List Int)
  | done, [] => some done
  | done, s :: l => if s.l = [] then none else (q0V c done s.l).bind fun d => Su c d l
theorem q9e {Q : AX → St → Prop} (c : B9) (hn : c.nodes.l.length ≤ 1000000000) (chs : T) (a21 a22 : T) (s : Sl Int) (hs : s.l.length ≤ 1000000000) (R : Option (List Int))
    (h0 : ∀ d, R = some d → Q (.exit 2) ⟨[(2, .t (.ip (tC c) 0)), (6, .lm 19), (20, .t chs), (21, .t a21), (22, .t a22), (29, .t (Aw s)), (30, .t (tI s.l.length)), (31, .t (tI s.l.length)), (32, .t (tB false))], [(19, .mp (q2N d))]⟩)
    (h1 : R = none → Q .ret ⟨[(4, .t (tI 1))], []⟩) : ∀ (kk k : Nat) (done : List Int), kk + k = s.l.length → q0V c done (s.l.drop k) = R →
    run Tryz.prog Γ Sr Q ⟨[(2, .t (.ip (tC c) 0)), (6, .lm 19), (20, .t chs), (21, .t a21), (22, .t a22), (29, .t (Aw s)), (30, .t (tI s.l.length)), (31, .t (tI k))], [(19, .mp (q2N done))]⟩
  | 0, k, done, h, hR => by
    refine Zd fun K hK => ?_
    have h2 : ¬ k < s.l.length := by omega
    have h3 : k = s.l.length := by omega
    simp [h2]
    subst h3
    rw [List.drop_of_length_le (Nat.le_refl _)] at hR
    exact h0 _ hR.symm
  | kk + 1, k, done, h, hR => by
    refine Zd fun K hK => ?_
    have h2 : k < s.l.length := by omega
    rw [List.drop_eq_getElem_cons h2] at hR
    simp only [q0V] at hR
    have hfit := qGB done
    generalize hx : s.l[k] = n at hR
    by_cases b1 : n < 0
    · rw [if_pos (show Na c done n = true by simp [Na, b1])] at hR
      simp (disch := omega) [h2, Aw, A0, Bc (0 : Int), Aa, hx, b1]
      exact h1 hR.symm
    by_cases b2 : (c.nodes.l.length : Int) ≤ n
    · rw [if_pos (show Na c done n = true by simp [Na, b2])] at hR
      simp (disch := omega) [h2, Aw, A0, Bc (0 : Int), Aa, hx, b1, b2, tC, Ac, Af]
      exact h1 hR.symm
    have hj : n.toNat < c.nodes.l.length := by omega
    have hk : Aq c n.toNat = c.nodes.l[n.toNat].k := by simp [Aq, hj]
    by_cases b3 : c.nodes.l[n.toNat].k = 14
    case neg =>
      rw [if_pos (show Na c done n = true by simp [Na, hk, b3])] at hR
      simp (disch := omega) [h2, Aw, A0, Bc (0 : Int), Aa, hx, b1, b2, tC, Ac, Af, D8 Nd.d, Bh, C4, hj, b3]
      exact ⟨by omega, h1 hR.symm⟩
    by_cases b4 : n ∈ done
    · rw [if_pos (show Na c done n = true by simp [Na, b4])] at hR
      simp (disch := omega) [h2, Aw, A0, Bc (0 : Int), Aa, hx, b1, b2, tC, Ac, Af, D8 Nd.d, Bh, C4, hj, b3, KT.fits, hfit, q5g, b4]
      exact ⟨by omega, h1 hR.symm⟩
    rw [if_neg (show ¬ Na c done n = true by simp [Na, b1, b2, hk, b3, b4])] at hR
    simp (disch := omega) [h2, Aw, A0, Bc (0 : Int), Aa, hx, b1, b2, tC, Ac, Af, D8 Nd.d, Bh, C4, hj, b3, KT.fits, hfit, q5g, b4, qB5, A7]
    refine ⟨by omega, ?_⟩
    rw [hK]
    have := q9e c hn chs a21 a22 s hs R h0 h1 kk (k + 1) (done ++ [n]) (by omega) hR
    simpa [Aw, tC, Ac] using this
theorem q7x {Q : AX → St → Prop} (c : B9) (hn : c.nodes.l.length ≤ 1000000000) (chs : Sl (Sl Int)) (hl : chs.l.length ≤ 1000000000) (hs : ∀ s ∈ chs.l, s.l.length ≤ 1000000000) (R : Option (List Int))
    (h0 : ∀ d, R = some d → Q (.exit 0) ⟨[(2, .t (.ip (tC c) 0)), (6, .lm 19), (20, .t (Bn chs)), (21, .t (tI chs.l.length)), (22, .t (tI chs.l.length)), (23, .t (tB false))], [(19, .mp (q2N d))]⟩)
    (h1 : R = none → Q .ret ⟨[(4, .t (tI 1))], []⟩) : ∀ (kk k : Nat) (done : List Int), kk + k = chs.l.length → Su c done (chs.l.drop k) = R →
    run Tryz.prog Γ Ss Q ⟨[(2, .t (.ip (tC c) 0)), (6, .lm 19), (20, .t (Bn chs)), (21, .t (tI chs.l.length)), (22, .t (tI k))], [(19, .mp (q2N done))]⟩
  | 0, k, done, h, hR => by
    refine Ze fun K hK => ?_
    have h2 : ¬ k < chs.l.length := by omega
    have h3 : k = chs.l.length := by omega
    simp [h2]
    subst h3
    rw [List.drop_of_length_le (Nat.le_refl _)] at hR
    exact h0 _ hR.symm
  | kk + 1, k, done, h, hR => by
    refine Ze fun K hK => ?_
    have h2 : k < chs.l.length := by omega
    have hsl := hs _ (List.getElem_mem h2)
    rw [List.drop_eq_getElem_cons h2] at hR
    simp only [Su] at hR
    by_cases he : chs.l[k].l = []
    · rw [if_pos he] at hR
      simp (disch := omega) [h2, Bn, A0, Bc Sl.d, Aa, Aw, he, Dh]
      exact h1 hR.symm
    rw [if_neg he] at hR
    have he' : ¬ chs.l[k].l.length = 0 := fun e => he (List.eq_nil_of_length_eq_zero e)
    simp (disch := omega) [h2, Bn, A0, Bc Sl.d, Aa, Aw, he, he']
    refine q9e c hn (.sl (Ae Aw chs.l) chs.cap chs.nl) (tI chs.l.length) (tI k) chs.l[k] hsl (q0V c done chs.l[k].l) (fun d hd => ?_) (fun hd => ?_) chs.l[k].l.length 0 done (by omega) rfl
    · rw [hd] at hR
      simp (disch := omega) [A7]
      rw [hK]
      have := q7x c hn chs hl hs R h0 h1 kk (k + 1) d (by omega) hR
      simpa [Bn] using this
    · rw [hd] at hR
      simp
      exact h1 hR.symm
def Vr (c : B9) (chs : List (Sl Int)) : Int :=
  if Ei c ≠ 0 then Ei c else if 64 < chs.length then 3 else match Su c [] chs with
    | none => 1
    | some d => if d.length ≠ (A5 c).length then 8 else 0
theorem qCz (hΓ : GOk Γ) (c : B9) (hc : COk c) (chs : Sl (Sl Int)) (hl : chs.l.length ≤ 1000000000) (hs : ∀ s ∈ chs.l, s.l.length ≤ 1000000000) : Ab Tryz.prog Γ 82 [.agg (tC c), Bn chs] (tI (Vr c chs.l)) := by
  refine Ad q8L rfl ?_
  simp [q3n, tC, Ac, Ah, Am, Aw]
  refine A6 (qEK hΓ c hc) rfl ?_
  by_cases h1 : Ei c = 0
  case neg =>
    have : Vr c chs.l = Ei c := by unfold Vr; rw [if_pos h1]
    simp [h1, Ij, this]
  have hp : Vr c chs.l = if 64 < chs.l.length then 3 else match Su c [] chs.l with
    | none => 1
    | some d => if d.length ≠ (A5 c).length then 8 else 0 := by unfold Vr; rw [if_neg (show ¬ (Ei c ≠ 0) by simp [h1])]
  by_cases h2 : 64 < chs.l.length
  · rw [if_pos h2] at hp
    have h2' : (64 : Int) < chs.l.length := by omega
    simp [h1, Bn, A0, h2', Ij, hp]
  rw [if_neg h2] at hp
  have h2' : ¬ (64 : Int) < chs.l.length := by omega
  simp [h1, Bn, A0, h2']
  refine q7x c hc.nodes chs hl hs (Su c [] chs.l) (fun d hd => ?_) (fun hd => ?_) chs.l.length 0 [] (by omega) rfl
  case refine_2 =>
    rw [hd] at hp
    simp [Ij, hp]
  rw [hd] at hp
  simp only at hp
  simp [qGC, tC, Ac, Ah, Am, Aw]
  refine A8 (D9 c hc) rfl ?_
  by_cases h3 : d.length = (A5 c).length
  · rw [if_neg (show ¬ (d.length ≠ (A5 c).length) by simp [h3])] at hp
    simp [A0, h3, Ij, hp]
  · rw [if_pos h3] at hp
    have h3' : ¬ (d.length : Int) = (A5 c).length := by omega
    simp [A0, h3, h3', Ij, hp]
abbrev Pnt := Int × Int
def qHW (l : List (Int × Pnt)) (n : Int) : Pnt := match l.find? (fun p => p.1 == n) with | some p => p.2 | none => (0, 0)
def qJk (l : List (Int × Pnt)) : Prop := ∀ p ∈ l, -1000000 ≤ p.2.1 ∧ p.2.1 ≤ 1000000 ∧ -1000000 ≤ p.2.2 ∧ p.2.2 ≤ 1000000
theorem qJk.at {l : List (Int × Pnt)} (h : qJk l) (n : Int) : -1000000 ≤ (qHW l n).1 ∧ (qHW l n).1 ≤ 1000000 ∧ -1000000 ≤ (qHW l n).2 ∧ (qHW l n).2 ≤ 1000000 := by
  unfold qHW
  split
  · rename_i p hp
    exact h p (List.mem_of_find?_eq_some hp)
  · simp
theorem qBt (c : B9) : (A5 c).Nodup := (Dz _ _ _).2
theorem qER (c : B9) : (A5 c).length ≤ c.nodes.l.length := Xf _ _ _
def q0s {α : Type} (s : Sl α) : Prop := (s.nl = some true → s.l = []) ∧ (s.nl = none → s.l ≠ []) ∧ s.l.length ≤ 1000000
def cpS (s : Sl Int) : Sl Int := ⟨s.l, some s.l.length, if s.nl = some true then some true else none⟩
theorem q3o (s : Sl Int) (hs : q0s s) : Ab Tryz.prog Γ 86 [Aw s] (if s.nl = some true then .sl [] (some 0) (some true) else .sl (Ao s.l) none none) := by
  refine Ad q3L rfl ?_
  obtain ⟨l, cap, nl⟩ := s
  obtain ⟨h1, h2, h3⟩ := hs
  simp only at h1 h2 h3
  rcases nl with _ | _ | _
  · have h4 : Ao l ≠ [] := by simpa [Ae] using h2 rfl
    simp (disch := omega) [Hv, Hw, Aa, A0, h4, Bj, Aw]
    omega
  · simp (disch := omega) [Hv, Hw, Aa, A0, Bj, Aw]
    omega
  · have := h1 rfl
    subst this
    simp [Hv, Hw, Aw]
theorem q2O (s : Sl Int) (hs : q0s s) : Ai Tryz.prog Γ 136 [Aw s] (Aw (cpS s)) := by
  refine Ap q1Y rfl ?_
  have e1 := q3o (Γ := Γ) s hs
  obtain ⟨l, cap, nl⟩ := s
  obtain ⟨h1, h2, h3⟩ := hs
  simp only at h1 h2 h3
  simp only at e1
  simp [S9, Aw]
  refine A6 e1 rfl ?_
  rcases nl with _ | _ | _
  · simp
    refine A8 (Lr (Ao l) none none Aa) rfl ?_
    simp [Fo, cpS, A0]
  · simp
    refine A8 (Lr (Ao l) none none Aa) rfl ?_
    simp [Fo, cpS, A0]
  · have := h1 rfl
    subst this
    simp
    refine A8 (Lr [] (some 0) (some true) (by simp)) rfl ?_
    simp [Fo, cpS, A0, Dh]
theorem q6Z (l : List (List UInt8)) (cap : Option Nat) (nl : Option Bool) (hq : nl ≠ some true) (h : l ≠ []) (hl : l.length ≤ 1000000) : Ai Tryz.prog Γ 134 [.sl (Ae tS l) cap nl] (.sl (Ae tS l) (some l.length) none) := by
  refine Ap Zb rfl ?_
  have h4 : Ae tS l ≠ [] := by simpa [Ae] using h
  have e1 : Ai Tryz.prog Γ 163 [.sl (Ae tS l) cap nl] (.sl (Ae tS l) none none) := by
    refine Ap q1Z rfl ?_
    rcases nl with _ | _ | _
    · simp (disch := omega) [Jg, Jh, Aa, A0, h4, Bj]
      omega
    · simp (disch := omega) [Jg, Jh, Aa, A0, h4, Bj]
      omega
    · exact absurd rfl hq
  have e2 : Ai Tryz.prog Γ 89 [.sl (Ae tS l) none none] (.sl (Ae tS l) (some l.length) none) := by
    refine Ap Sm rfl ?_
    simp [Jx, Jy, Aa, A0]
  simp [Nq]
  refine A8 e1 rfl ?_
  simp
  refine A8 e2 rfl ?_
  simp [Nr]
theorem q8M : Ai Tryz.prog Γ 135 [.sl [] (some 0) (some true)] (.sl [] (some 0) (some true)) := by
  refine Ap Uk rfl ?_
  have e1 : Ai Tryz.prog Γ 165 [.sl [] (some 0) (some true)] (.sl [] (some 0) (some true)) := by
    refine Ap Xo rfl ?_
    simp [M9, Mc]
  have e2 : Ai Tryz.prog Γ 164 [.sl [] (some 0) (some true)] (.sl [] (some 0) (some true)) := by
    refine Ap Zc rfl ?_
    simp [Ns, Nu]
  simp [Iu]
  refine A8 e1 rfl ?_
  simp
  refine A8 e2 rfl ?_
  simp [Iw]
theorem q9f (l : List Nd) (cap : Option Nat) (nl : Option Bool) (hq : nl ≠ some true) (h : l ≠ []) (hl : l.length ≤ 1000000) : F4 Tryz.prog Γ 133 [] [.t (.sl (As C4 l) cap nl)] (.ls 4007 0 l.length (some l.length)) [(4007, .sl 104 4 (As C4 l))] := by
  refine G5 W6 rfl ?_
  have h4 : As C4 l ≠ [] := by simpa [As] using h
  have e1 : F4 Tryz.prog Γ 162 [] [.t (.sl (As C4 l) cap nl)] (.ls 7 0 l.length none) [(7, .sl 104 4 (As C4 l))] := by
    refine G5 Zt rfl ?_
    rcases nl with _ | _ | _
    · simp (disch := omega) [Hn, Ho, Bh, Af, h4, Bj]
      omega
    · simp (disch := omega) [Hn, Ho, Bh, Af, h4, Bj]
      omega
    · exact absurd rfl hq
  have e2 : F4 Tryz.prog Γ 88 [(1000000, .sl 104 4 (As C4 l))] [.ls 1000000 0 l.length none] (.ls 1000000 0 l.length (some l.length)) [(1000000, .sl 104 4 (As C4 l))] := by
    refine G5 Oo rfl ?_
    simp [Ih, Ii, Bh, Af]
  simp [L0]
  refine ⟨_, _, e1, ?_⟩
  simp
  refine ⟨_, _, e2, ?_⟩
  simp [L1]
theorem q4L (s : Sl Int) (hs : q0s s) : Ai Tryz.prog Γ 93 [tV s] (if s.nl = some true then .sl [] (some 0) (some true) else .sl (Av s.l) none none) := by
  refine Ap Z5 rfl ?_
  obtain ⟨l, cap, nl⟩ := s
  obtain ⟨h1, h2, h3⟩ := hs
  simp only at h1 h2 h3
  rcases nl with _ | _ | _
  · have h4 : Av l ≠ [] := by simpa [Ae] using h2 rfl
    simp (disch := omega) [Ef, Eg, Aa, A0, h4, Bj, tV]
    omega
  · simp (disch := omega) [Ef, Eg, Aa, A0, Bj, tV]
    omega
  · have := h1 rfl
    subst this
    simp [Ef, Eg, tV]
theorem qHX {w : World} {X : Nat → Prop} {cap : Option Nat} {v : Value} (h : TR w X (.sl [] cap none) v) : TR w X (.sl [] cap (some true)) v ∨ TR w X (.sl [] cap (some false)) v := by
  cases h with
  | nil _ _ a c hc hn hz =>
    cases a with
    | none => exact .inl (.nil cap (some true) none c hc (fun b hb => by cases hb; rfl) hz)
    | some a => exact .inr (.nil cap (some false) (some a) c hc (fun b hb => by cases hb; rfl) hz)
  | sl _ _ _ s b off c f hcell hlen hrel hone hx hle hc hq =>
    exact .inr (.sl [] cap (some false) s b off c f hcell hlen hrel hone hx hle hc (fun q hq => by cases hq; rfl))
theorem qJ1 {w : World} {X : Nat → Prop} {es : List (List T)} {cap : Option Nat} {nl : Option Bool} {v : Value} (h : TR w X (.sl es cap nl) v) : TR w X (.sl es none none) v := by
  cases h with
  | nil _ _ a c hc hn hz => exact .nil none none a c (fun n h => nomatch h) (fun n h => nomatch h) hz
  | sl _ _ _ s b off c f hcell hlen hrel hone hx hle hc hq => exact .sl es none none s b off c f hcell hlen hrel hone hx hle (fun n h => nomatch h) (fun n h => nomatch h)
theorem qB6 {P : Program} {f : FuncId} {args : List T} {es : List (List T)} {cap : Option Nat} {nl : Option Bool} (h : Ai P Γ f args (.sl es cap nl)) : Ai P Γ f args (.sl es none none) :=
  fun w X vs hg hx hr => (h w X vs hg hx hr).mono fun v w' ⟨hb, ht⟩ => ⟨hb, qJ1 ht⟩
theorem qES {P : Program} {f : FuncId} {cap : Option Nat} {r : T} (h1 : Ai P Γ f [.sl [] cap (some true)] r) (h2 : Ai P Γ f [.sl [] cap (some false)] r) : Ai P Γ f [.sl [] cap none] r :=
  fun w X vs hg hx hr => by
    obtain ⟨x, ys, rfl, hx1, hy⟩ := hr.cons_inv
    rcases qHX hx1 with h | h
    · exact h1 w X _ hg hx (Gq.cons h hy)
    · exact h2 w X _ hg hx (Gq.cons h hy)
def Ik (s : Sl Int) : Sl Int := if s.nl = some true then ⟨[], some 0, some true⟩ else ⟨s.l, none, none⟩
theorem q4M (s : Sl Int) (h1 : s.nl = some true → s.l = []) (h2 : s.l.length ≤ 1000000) : Ai Tryz.prog Γ 93 [tV s] (tV (Ik s)) := by
  obtain ⟨l, cap, nl⟩ := s
  simp only at h1 h2
  by_cases h3 : nl = none ∧ l = []
  · obtain ⟨rfl, rfl⟩ := h3
    have a1 := q4L (Γ := Γ) ⟨[], cap, some true⟩ ⟨fun _ => rfl, (fun h => nomatch h), Nat.zero_le _⟩
    have a2 := q4L (Γ := Γ) ⟨[], cap, some false⟩ ⟨(fun h => nomatch h), (fun h => nomatch h), Nat.zero_le _⟩
    exact qES (qB6 a1) (qB6 a2)
  · have := q4L (Γ := Γ) ⟨l, cap, nl⟩ ⟨h1, fun a b => h3 ⟨a, b⟩, h2⟩
    unfold Ik
    by_cases hn : nl = some true
    · have hl := h1 hn
      subst hn
      subst hl
      simpa [tV, Dh] using this
    · simpa [tV, hn] using this
theorem qD0 (s : Sl Int) (h1 : s.nl = some true → s.l = []) : (Ik s).l = s.l := by
  unfold Ik
  split
  · rename_i h; exact (h1 h).symm
  · rfl
end Go.Lg
namespace Go.Lg
open Go
section
variable {P : Program} {Γ : Tables} {Q : AX → St → Prop} {s : St}
/- probecard/shifts.Depth (function 39) -/
abbrev q2P : IC := .gh (.seq (.reg [od 9 (.bin .lss (tm 8) (tm 7))] [kp [3, 6, 7, 8, 9] []]) (.seq (.cond (tm 9) .skip (.exit 0)) (.seq (.block 1 (.seq (.reg [od 10 (ia 1 6 8), od 11 (ld 1 10), om 5 11] [kp [3, 5, 6, 7, 8] []]) (.reg [om 12 3, om 13
 5, od 14 (le 0 13), od 15 (.mmx true [(tm 12), (tm 14)]), om 3 15] [kp [3, 6, 7, 8] []]))) (.reg [od 16 (.bin .add (tm 8) (ki 1)), om 8 16] [kp [3, 6, 7, 8] []])))) [kp [3, 6, 7, 8] []]
def P0 : IC := .loop q2P
abbrev q2Q : IC := (.seq (.reg [od 2 (.mv (ki 0))] [kp [0] []]) (.seq (.reg [od 3 (.mv (ki 0))] [kp [0, 3] []]) (.seq (.seq (.reg [om 6 0, od 7 (le 0 6), od 8 (.mv (ki 0))] [kp [3, 6, 7, 8] []]) (.block 0 P0)) (.seq (.reg [om 17 3, om 2
 17] [kp [2] []]) .ret))))
theorem X4 (h : ∀ K : St → Prop, K = run P Γ P0 Q → run P Γ q2P (Ax K Q) s) : run P Γ P0 Q s := Aj h
def q2R : List RV := [.tmp 2]
/- probecard/shifts.values (function 101) -/
abbrev Ul : IC := (.seq (.reg [od 4 (.mv (ki 0))] [kp [0, 1] []]) (.seq (.seq (.reg [om 5 0, od 6 (le 0 5), om 7 1, od 8 (.bin .neq (tm 6) (tm 7))] [kp [0, 8] []]) (.cond (tm 8) (.seq (.reg [od 4 (.mv (ki 8))] [kp [4] []]) .ret) .skip)) (.seq (.seq
 (.reg [om 9 0, od 10 (.call 76 [(tm 9), (.func 144)])] [kp [10] []]) (.cond (tm 10) (.seq (.reg [od 4 (.mv (ki 1))] [kp [4] []]) .ret) .skip)) (.seq (.reg [od 4 (.mv (ki 0))] [kp [4] []]) .ret))))
def Nb : List RV := [.tmp 4]
/- probecard/shifts.values$1 (function 144) -/
abbrev Zf : IC := (.seq (.reg [od 2 (.mv kF)] [kp [0] []]) (.seq (.reg [om 3 0, od 4 (.bin .gtr (tm 3) (ku 3)), om 2 4] [kp [2] []]) .ret))
def Zg : List RV := [.tmp 2]
/- probecard/shifts.loads (function 102) -/
abbrev q2S : IC := .gh (.seq (.reg [od 22 (.bin .lss (tm 21) (tm 20))] [kp [1, 2, 7, 19, 20, 21, 22] [17]]) (.seq (.cond (tm 22) .skip (.exit 0)) (.seq (.block 1 (.seq (.reg [om 23 21, od 24 (ia 1 19 21), od 25 (ld 1 24), om 8 23, om 9 25] [kp [1, 2,
 7, 8, 9, 19, 20, 21] [17]]) (.reg [om 26 7, om 27 9, om 28 2, om 29 8, od 30 (ia 1 28 29), od 31 (ld 1 30), od 32 (.call 73 [(tm 31)]), on (.mup (.int .i64) (tm 26) (tm 27) (tm 32))] [kp [1, 2, 7, 19, 20, 21] [17]]))) (.reg [od 33
 (.bin .add (tm 21) (ki 1)), om 21 33] [kp [1, 2, 7, 19, 20, 21] [17]])))) [kp [1, 2, 7, 19, 20, 21] [17]]
def P1 : IC := .loop q2S
abbrev q2T : IC := .gh (.seq (.reg [od 46 (.bin .lss (tm 45) (tm 44))] [kp [1, 7, 10, 11, 12, 13, 36, 37, 43, 44, 45, 46] [17, 42, 71]]) (.seq (.cond (tm 46) .skip (.exit 4)) (.seq (.block 5 (.seq (.reg [om 47 45, od 48 (ia 1 43 45), od 49 (ld 1 48),
 om 14 47, om 15 49] [kp [1, 7, 10, 11, 12, 13, 14, 15, 36, 37, 43, 44, 45] [17, 42, 71]]) (.seq (.reg [om 50 10, od 51 (.bin .sub (tm 50) (ki 1)), om 52 12, od 53 (.bin .sub (tm 51) (tm 52)), om 16 53] [kp [1, 7, 10, 11, 12, 13,
 14, 15, 16, 36, 37, 43, 44, 45] [17, 42, 71]]) (.seq (.reg [om 54 16, om 55 15, od 56 (le 0 55), od 57 (.bin .lss (tm 54) (tm 56))] [kp [1, 7, 10, 11, 12, 13, 14, 15, 16, 36, 37, 43, 44, 45, 57] [17, 42, 71]]) (.cond (tm 57) (.reg
 [om 58 13, om 59 14, om 60 7, om 61 15, om 62 16, od 63 (ia 1 61 62), od 64 (ld 1 63), od 65 (.lkup (.int .i64) (.int .u8 0) false (tm 60) (tm 64)), od 66 (ia 1 58 59), on (.store 1 (tm 66) (tm 65))] [kp [1, 7, 10, 11, 12, 13, 36,
 37, 43, 44, 45] [17, 42, 71]]) .skip))))) (.reg [od 67 (.bin .add (tm 45) (ki 1)), om 45 67] [kp [1, 7, 10, 11, 12, 13, 36, 37, 43, 44, 45] [17, 42, 71]])))) [kp [1, 7, 10, 11, 12, 13, 36, 37, 43, 44, 45] [17, 42, 71]]
def P2 : IC := .loop q2T
abbrev q2U : IC := .gh (.seq (.reg [od 38 (.bin .lss (tm 37) (tm 36))] [kp [1, 7, 10, 11, 36, 37, 38] [17, 71]]) (.seq (.cond (tm 38) .skip (.exit 2)) (.seq (.block 3 (.seq (.reg [om 39 37, om 12 39] [kp [1, 7, 10, 11, 12, 36, 37] [17, 71]]) (.seq
 (.reg [om 40 1, od 41 (le 0 40), od 42 (.mk 68 1 [(.int .u8 0)] (tm 41) (tm 41)), om 13 42] [kp [1, 7, 10, 11, 12, 13, 36, 37] [17, 42, 71]]) (.seq (.seq (.reg [om 43 1, od 44 (le 0 43), od 45 (.mv (ki 0))] [kp [1, 7, 10, 11, 12,
 13, 36, 37, 43, 44, 45] [17, 42, 71]]) (.gh (.block 4 P2) [.frz 42])) (.reg [om 68 11, om 69 13, od 70 (.bsl true 37 1 [(tm 69)]), od 71 (.app false 37 1 (tm 68) (tm 70)), om 11 71] [kp [1, 7, 10, 11, 36, 37] [17,
 71]]))))) (.reg [od 72 (.bin .add (tm 37) (ki 1)), om 37 72] [kp [1, 7, 10, 11, 36, 37] [17, 71]])))) [kp [1, 7, 10, 11, 36, 37] [17, 71]]
def P3 : IC := .loop q2U
abbrev q2V : IC := (.seq (.reg [od 3 (.box true (tm 0)), od 6 (.mv kN)] [kp [1, 2, 3] []]) (.seq (.reg [od 17 (.mkmap), om 7 17] [kp [1, 2, 3, 7] [17]]) (.seq (.seq (.reg [od 18 (lG 4 3), od 19 (.call 27 [(tm 18)]), od 20 (le 0 19), od 21 (.mv (ki
 0))] [kp [1, 2, 7, 19, 20, 21] [17]]) (.block 0 P1)) (.seq (.reg [om 34 1, od 35 (.call 39 [(tm 34)]), om 10 35] [kp [1, 7, 10] [17]]) (.seq (.reg [od 11 (.mv kN)] [.nl 11 71 37 1, kp [1, 7, 10, 11] [17, 71]]) (.seq
 (.seq (.reg [om 36 10, od 37 (.mv (ki 0))] [kp [1, 7, 10, 11, 36, 37] [17, 71]]) (.gh (.block 2 P3) [.frz 71])) (.seq (.reg [om 73 11, od 74 (.call 104 [(tm 73)]), om 6 74] [kp [6] []]) .ret)))))))
theorem X5 (h : ∀ K : St → Prop, K = run P Γ P1 Q → run P Γ q2S (Ax K Q) s) : run P Γ P1 Q s := Aj h
theorem X6 (h : ∀ K : St → Prop, K = run P Γ P2 Q → run P Γ q2T (Ax K Q) s) : run P Γ P2 Q s := Aj h
theorem X7 (h : ∀ K : St → Prop, K = run P Γ P3 Q → run P Γ q2U (Ax K Q) s) : run P Γ P3 Q s := Aj h
def q2W : List RV := [.tmp 6]
/- probecard/shifts.Loads (function 38) -/
abbrev q2X : IC := (.seq (.reg [od 3 (.box true (tm 0)), od 6 (.mv kN), od 7 (.mv (ki 0))] [kp [1, 2, 3] []]) (.seq (.seq (.reg [od 12 (lG 4 3), om 13 1, od 14 (.call 29 [(tm 12), (tm 13)]), om 11 14, od 15 (ex 11 0), od 16 (ex 11 1), od 8 (.alloc
 false [(.slice none 0 0), (.slice none 0 0), (.slice none 0 0), (.slice none 0 0), (.slice none 0 0), (.int .i64 0), (.slice none 0 0), (.slice none 0 0)]), on (.store 8 (tm 8) (tm 15)), om 9 16] [kp [1, 2, 3, 9] []]) (.seq (.reg
 [om 17 9, od 18 (.bin .neq (tm 17) (ki 0))] [kp [1, 2, 3, 9, 18] []]) (.cond (tm 18) (.seq (.reg [om 19 9, od 6 (.mv kN), om 7 19] [kp [6, 7] []]) .ret) .skip))) (.seq (.seq (.reg [om 20 2, od 21 (lG 4 3), od 22 (.call 27 [(tm
 21)]), od 23 (le 0 22), od 24 (.call 101 [(tm 20), (tm 23)]), om 10 24] [kp [1, 2, 3, 10] []]) (.seq (.reg [om 25 10, od 26 (.bin .neq (tm 25) (ki 0))] [kp [1, 2, 3, 10, 26] []]) (.cond (tm 26) (.seq (.reg [om 27 10, od 6 (.mv kN),
 om 7 27] [kp [6, 7] []]) .ret) .skip))) (.seq (.reg [od 28 (lG 4 3), om 29 1, om 30 2, od 31 (.call 102 [(tm 28), (tm 29), (tm 30)]), om 6 31, od 7 (.mv (ki 0))] [kp [6, 7] []]) .ret))))
def P4 : List RV := [.tmp 6, .tmp 7]
/- probecard/shifts.Test (function 42) -/
abbrev q3p : IC := .gh (.seq (.reg [od 67 (.bin .lss (tm 66) (tm 65))] [kp [1, 5, 12, 13, 14, 15, 64, 65, 66, 67] [56, 59, 76]]) (.seq (.cond (tm 67) .skip (.exit 0)) (.seq (.block 1 (.seq (.reg [od 68 (ia 1 64 66), od 69 (ld 1 68), om 17 69] [kp [1,
 5, 12, 13, 14, 15, 17, 64, 65, 66] [56, 59, 76]]) (.reg [om 70 15, om 71 14, om 72 12, om 73 17, od 74 (.callv (tm 71) [(tm 72), (ku 1), (tm 73)]), od 75 (.bsl true 37 1 [(tm 74)]), od 76 (.app false 37 1 (tm 70) (tm 75)), om 15
 76] [kp [1, 5, 12, 13, 14, 15, 64, 65, 66] [56, 59, 76]]))) (.reg [od 77 (.bin .add (tm 66) (ki 1)), om 66 77] [kp [1, 5, 12, 13, 14, 15, 64, 65, 66] [56, 59, 76]])))) [kp [1, 5, 12, 13, 14, 15, 64, 65, 66] [56, 59, 76]]
def Sv : IC := .loop q3p
abbrev q3q : IC := .gh (.seq (.reg [od 89 (.bin .lss (tm 88) (tm 87))] [kp [12, 13, 14, 15, 87, 88, 89] [56, 59, 76]]) (.seq (.cond (tm 89) .skip (.exit 2)) (.seq (.block 3 (.reg [om 90 15, om 91 14, om 92 12, om 93 13, od 94 (.callv (tm 91) [(tm
 92), (ku 1), (tm 93)]), od 95 (.bsl true 37 1 [(tm 94)]), oz 96 (.app false 37 1 (tm 90) (tm 95)) 76, om 15 96] [kp [12, 13, 14, 15, 87, 88] [56, 59, 76]])) (.reg [od 97 (.bin .add (tm 88) (ki 1)), om 88 97] [kp [12, 13, 14, 15,
 87, 88] [56, 59, 76]])))) [kp [12, 13, 14, 15, 87, 88] [56, 59, 76]]
def Sz : IC := .loop q3q
abbrev q3r : IC := (.seq (.reg [od 3 (.box true (tm 0)), od 5 (.box true (tm 2)), od 6 (.mv kN), od 7 (.mv (ki 0))] [kp [1, 3, 5] []]) (.seq (.seq (.reg [od 19 (lG 4 3), om 20 1, od 21 (.call 29 [(tm 19), (tm 20)]), om 18 21, od 22 (ex 18 0), od 23
 (ex 18 1), od 8 (.alloc false [(.slice none 0 0), (.slice none 0 0), (.slice none 0 0), (.slice none 0 0), (.slice none 0 0), (.int .i64 0), (.slice none 0 0), (.slice none 0 0)]), on (.store 8 (tm 8) (tm 22)), om 9 23] [kp [1, 3,
 5, 9] []]) (.seq (.reg [om 24 9, od 25 (.bin .neq (tm 24) (ki 0))] [kp [1, 3, 5, 9, 25] []]) (.cond (tm 25) (.seq (.reg [om 26 9, od 6 (.mv kN), om 7 26] [kp [6, 7] []]) .ret) .skip))) (.seq (.reg [od 27 (lG 4 3), od 28 (.call 41
 [(tm 27)]), od 29 (le 0 28), od 30 (lG 4 3), od 31 (.call 27 [(tm 30)]), od 32 (le 0 31), om 10 29, om 11 32] [kp [1, 3, 5, 10, 11] []]) (.seq (.seq (.reg [od 33 (fa 0 5), od 34 (ld 1 33), od 35 (le 0 34), om 36 10, od 37 (.bin
 .neq (tm 35) (tm 36)), om 38 37, oF 39 (fa 1 5) 38, oF 40 (ld 1 39) 38, oF 41 (le 0 40) 38, oF 42 (.mv (tm 11)) 38, oF 43 (.bin .neq (tm 41) (tm 42)) 38, od 44 (.pick (tm 38) kT (tm 43))] [kp [1, 3, 5, 10, 11, 44] []]) (.cond (tm
 44) (.seq (.reg [od 6 (.mv kN), od 7 (.mv (ki 8))] [kp [6, 7] []]) .ret) .skip)) (.seq (.seq (.reg [od 45 (fa 0 5), od 46 (ld 1 45), om 47 10, od 48 (.call 101 [(tm 46), (tm 47)]), od 49 (fa 1 5), od 50 (ld 1 49), om 51 11, od 52
 (.call 101 [(tm 50), (tm 51)]), od 53 (.mmx true [(tm 48), (tm 52)]), od 54 (.bin .neq (tm 53) (ki 0))] [kp [1, 3, 5, 10, 54] []]) (.cond (tm 54) (.seq (.reg [od 6 (.mv kN), od 7 (.mv (ki 1))] [kp [6, 7] []]) .ret) .skip)) (.seq
 (.reg [om 55 10, od 56 (.mk 68 1 [(.int .u8 0)] (tm 55) (tm 55)), om 12 56] [.frz 56, kp [1, 3, 5, 12] [56]]) (.seq (.reg [om 57 1, od 58 (le 0 57), od 59 (.mk 68 1 [(.int .u8 0)] (tm 58) (tm 58)), om 13 59] [.frz 59, kp [1, 3, 5,
 12, 13] [56, 59]]) (.seq (.reg [od 14 (.mv (.func 103))] [kp [1, 3, 5, 12, 13, 14] [56, 59]]) (.seq (.reg [od 15 (.mv kN)] [.nl 15 76 37 1, kp [1, 3, 5, 12, 13, 14, 15] [56, 59, 76]]) (.seq (.seq (.reg [od 60 (lG 4 3), om 61 1, od
 62 (fa 1 5), od 63 (ld 1 62), od 64 (.call 102 [(tm 60), (tm 61), (tm 63)]), od 65 (le 0 64), od 66 (.mv (ki 0))] [kp [1, 5, 12, 13, 14, 15, 64, 65, 66] [56, 59, 76]]) (.block 0 Sv)) (.seq (.reg [om 78 15, om 79 14, od
 80 (fa 0 5), od 81 (ld 1 80), om 82 13, od 83 (.callv (tm 79) [(tm 81), (ku 0), (tm 82)]), od 84 (.bsl true 37 1 [(tm 83)]), oz 85 (.app false 37 1 (tm 78) (tm 84)) 76, om 15 85] [kp [1, 12, 13, 14, 15] [56, 59, 76]]) (.seq (.seq
 (.reg [om 86 1, od 87 (.call 39 [(tm 86)]), od 88 (.mv (ki 0))] [kp [12, 13, 14, 15, 87, 88] [56, 59, 76]]) (.gh (.block 2 Sz) [.frz 76])) (.seq (.reg [om 98 15, od 99 (.call 104 [(tm 98)]), om 6 99, od 7 (.mv (ki 0))]
 [kp [6, 7] []]) .ret)))))))))))))
theorem Zh (h : ∀ K : St → Prop, K = run P Γ Sv Q → run P Γ q3p (Ax K Q) s) : run P Γ Sv Q s := Aj h
theorem Zi (h : ∀ K : St → Prop, K = run P Γ Sz Q → run P Γ q3q (Ax K Q) s) : run P Γ Sz Q s := Aj h
def Gn : List RV := [.tmp 6, .tmp 7]
/- probecard/shifts.Test$1 (function 103) -/
abbrev q1b : IC := (.seq (.reg [od 6 (.mv kN)] [kp [0, 1, 2] []]) (.seq (.reg [om 7 0, om 8 1, od 9 (.bsl true 68 1 [(tm 8)]), om 10 2, od 11 (.bsl true 37 1 [(tm 7), (tm 9), (tm 10)]), od 12 (.call 91 [(tm 11)]), od 13 (.call 74 [(tm 12)]), om 6 13]
 [kp [6] []]) .ret))
def q1c : List RV := [.tmp 6]
/- probecard/shifts.Collect (function 43) -/
abbrev q0W : IC := .gh (.seq (.reg [od 57 (.bin .lss (tm 56) (tm 55))] [kp [2, 3, 6, 10, 11, 12, 13, 14, 47, 48, 49, 55, 56, 57] [6, 46, 106]]) (.seq (.cond (tm 57) .skip (.exit 2)) (.seq (.block 3 (.seq (.reg [om 58 56, om 15 58] [kp [2, 3, 6, 10,
 11, 12, 13, 14, 15, 47, 48, 49, 55, 56] [6, 46, 106]]) (.reg [om 59 12, om 60 14, om 61 14, od 62 (le 0 61), od 63 (.bin .sub (tm 62) (ki 1)), om 64 15, od 65 (.bin .sub (tm 63) (tm 64)), od 66 (ia 1 60 65), od 67 (ld 1 66), om 68
 2, om 69 10, od 70 (.bin .add (tm 69) (ki 1)), om 71 15, od 72 (.bin .add (tm 70) (tm 71)), od 73 (ia 2 68 72), od 74 (fa 0 73), od 75 (ld 1 74), om 76 11, om 77 13, od 78 (.bin .add (tm 76) (tm 77)), od 79 (ia 1 75 78), od 80 (ld
 1 79), on (.mup (.int .i64) (tm 59) (tm 67) (tm 80))] [kp [2, 3, 6, 10, 11, 12, 13, 14, 47, 48, 49, 55, 56] [6, 46, 106]]))) (.reg [od 81 (.bin .add (tm 56) (ki 1)), om 56 81] [kp [2, 3, 6, 10, 11, 12, 13, 14, 47, 48, 49, 55, 56]
 [6, 46, 106]])))) [kp [2, 3, 6, 10, 11, 12, 13, 14, 47, 48, 49, 55, 56] [6, 46, 106]]
def L6 : IC := .loop q0W
abbrev q0X : IC := .gh (.seq (.reg [od 50 (.bin .lss (tm 49) (tm 48))] [kp [2, 3, 6, 10, 11, 12, 47, 48, 49, 50] [6, 46, 106]]) (.seq (.cond (tm 50) .skip (.exit 0)) (.seq (.block 1 (.seq (.reg [om 51 49, od 52 (ia 1 47 49), od 53 (ld 1 52), om 13
 51, om 14 53] [kp [2, 3, 6, 10, 11, 12, 13, 14, 47, 48, 49] [6, 46, 106]]) (.seq (.reg [om 54 14, od 55 (le 0 54), od 56 (.mv (ki 0))] [kp [2, 3, 6, 10, 11, 12, 13, 14, 47, 48, 49, 55, 56] [6, 46, 106]]) (.block 2
 L6)))) (.reg [od 82 (.bin .add (tm 49) (ki 1)), om 49 82] [kp [2, 3, 6, 10, 11, 12, 47, 48, 49] [6, 46, 106]])))) [kp [2, 3, 6, 10, 11, 12, 47, 48, 49] [6, 46, 106]]
def L8 : IC := .loop q0X
abbrev q0Y : IC := .gh (.seq (.reg [od 97 (.bin .lss (tm 96) (tm 95))] [kp [6, 12, 16, 94, 95, 96, 97] [6, 16, 46, 106]]) (.seq (.cond (tm 97) .skip (.exit 4)) (.seq (.block 5 (.seq (.reg [od 98 (ia 1 94 96), od 99 (ld 1 98), om 18 99] [kp [6, 12,
 16, 18, 94, 95, 96] [6, 16, 46, 106]]) (.reg [od 100 (fa 1 16), od 101 (ld 1 100), om 102 12, om 103 18, od 104 (.lkup (.int .i64) (.int .u8 0) false (tm 102) (tm 103)), od 105 (.bsl true 68 1 [(tm 104)]), od 106 (.app false 68 1
 (tm 101) (tm 105)), od 107 (fa 1 16), on (.store 1 (tm 107) (tm 106))] [kp [6, 12, 16, 94, 95, 96] [6, 16, 46, 106]]))) (.reg [od 108 (.bin .add (tm 96) (ki 1)), om 96 108] [kp [6, 12, 16, 94, 95, 96] [6, 16, 46, 106]])))) [kp [6,
 12, 16, 94, 95, 96] [6, 16, 46, 106]]
def L9 : IC := .loop q0Y
abbrev q0Z : IC := (.seq (.reg [od 3 (.box true (tm 0)), od 6 (.alloc false [(.slice none 0 0), (.slice none 0 0)]), od 7 (.mv (ki 0))] [kp [1, 2, 3, 6] [6, 106]]) (.seq (.reg [od 20 (lG 4 3), om 21 1, od 22 (.call 29 [(tm 20), (tm 21)]), om 19 22,
 od 23 (ex 19 0), od 24 (ex 19 1), od 8 (.alloc false [(.slice none 0 0), (.slice none 0 0), (.slice none 0 0), (.slice none 0 0), (.slice none 0 0), (.int .i64 0), (.slice none 0 0), (.slice none 0 0)]), on (.store 8 (tm 8) (tm
 23)), om 9 24] [.frz 8, kp [1, 2, 3, 6, 8, 9] [6, 8, 106]]) (.seq (.seq (.reg [om 25 9, od 26 (.bin .neq (tm 25) (ki 0))] [kp [1, 2, 3, 6, 8, 9, 26] [6, 8, 106]]) (.cond (tm 26) (.seq (.reg [od 27 (.build [(1, kN), (1, kN)]), om 28
 9, on (.store 2 (tm 6) (tm 27)), om 7 28] [kp [6, 7] [6, 106]]) .ret) .skip)) (.seq (.reg [om 29 1, od 30 (.call 39 [(tm 29)]), om 10 30] [kp [1, 2, 3, 6, 8, 10] [6, 8, 106]]) (.seq (.seq (.reg [om 31 2, od 32 (le 0 31), om 33 10,
 od 34 (.bin .mul (ki 2) (tm 33)), od 35 (.bin .add (tm 34) (ki 1)), od 36 (.bin .neq (tm 32) (tm 35)), om 37 36, oF 38 (.mv (tm 2)) 37, oF 39 (.mkf 106 [(tm 8)]) 37, oF 40 (.call 105 [(tm 38), (tm 39)]) 37, od 41 (.pick (tm 37) kT
 (tm 40))] [kp [1, 2, 3, 6, 10, 41] [6, 106]]) (.cond (tm 41) (.seq (.reg [od 42 (.build [(1, kN), (1, kN)]), on (.store 2 (tm 6) (tm 42)), od 7 (.mv (ki 8))] [kp [6, 7] [6, 106]]) .ret) .skip)) (.seq (.reg [od 43 (fa 3 3), od 44
 (ld 1 43), od 45 (le 0 44), om 11 45] [kp [1, 2, 3, 6, 10, 11] [6, 106]]) (.seq (.reg [od 46 (.mkmap), om 12 46] [kp [1, 2, 3, 6, 10, 11, 12] [6, 46, 106]]) (.seq (.seq (.reg [om 47 1, od 48 (le 0 47), od 49 (.mv (ki 0))] [kp [2,
 3, 6, 10, 11, 12, 47, 48, 49] [6, 46, 106]]) (.block 0 L8)) (.seq (.reg [om 83 2, om 84 10, od 85 (ia 2 83 84), od 86 (fa 0 85), od 87 (ld 1 86), om 88 11, od 89 (.slice 1 (tm 87) none (some (tm 88)) none), od 90
 (.call 93 [(tm 89)]), od 91 (.call 74 [(tm 90)]), od 92 (.build [(1, (tm 91)), (1, kN)]), od 16 (.alloc false [(.slice none 0 0), (.slice none 0 0)]), on (.store 2 (tm 16) (tm 92))] [.nlb 16 1 106 68 1, kp [3, 6, 12, 16] [6, 16,
 46, 106]]) (.seq (.seq (.reg [od 93 (lG 4 3), od 94 (.call 27 [(tm 93)]), od 95 (le 0 94), od 96 (.mv (ki 0))] [kp [6, 12, 16, 94, 95, 96] [6, 16, 46, 106]]) (.gh (.block 4 L9) [.frz 106])) (.seq (.reg [od 109 (fa 1
 16), od 110 (ld 1 109), od 111 (.call 74 [(tm 110)]), od 112 (fa 1 16), on (.store 1 (tm 112) (tm 111))] [kp [6, 16] [6, 16, 106]]) (.seq (.reg [od 113 (lG 2 16), on (.store 2 (tm 6) (tm 113)), od 7 (.mv (ki 0))] [kp [6, 7] [6,
 106]]) .ret))))))))))))
theorem Tz (h : ∀ K : St → Prop, K = run P Γ L6 Q → run P Γ q0W (Ax K Q) s) : run P Γ L6 Q s := Aj h
theorem U0 (h : ∀ K : St → Prop, K = run P Γ L8 Q → run P Γ q0X (Ax K Q) s) : run P Γ L8 Q s := Aj h
theorem U1 (h : ∀ K : St → Prop, K = run P Γ L9 Q → run P Γ q0Y (Ax K Q) s) : run P Γ L9 Q s := Aj h
def q0a : List RV := [.cell 6 2 true, .tmp 7]
/- probecard/shifts.Collect$1 (function 106) -/
abbrev O5 : IC := (.seq (.reg [od 2 (.box true (tm 0)), od 3 (.mv kF)] [kp [1, 2] []]) (.seq (.reg [od 4 (fa 0 2), od 5 (ld 1 4), od 6 (le 0 5), od 7 (fa 0 1), od 8 (fa 3 7), od 9 (ld 1 8), od 10 (le 0 9), od 11 (.bin .neq (tm 6) (tm 10)), om 3 11]
 [kp [3] []]) .ret))
def O6 : List RV := [.tmp 3]
/- slices.Clip[[][]probecard/api.Value,[]probecard/api.Value] (function 104) -/
abbrev Nv : IC := (.seq (.reg [od 2 (.mv kN)] [kp [0] []]) (.seq (.reg [om 3 0, om 4 0, od 5 (le 0 4), om 6 0, od 7 (le 0 6), od 8 (.slice 1 (tm 3) none (some (tm 5)) (some (tm 7))), om 2 8] [kp [2] []]) .ret))
def Nw : List RV := [.tmp 2]
/- slices.ContainsFunc[[]probecard/api.Response,probecard/api.Response] (function 105) -/
abbrev G1 : IC := (.seq (.reg [od 4 (.mv kF)] [kp [0, 1] []]) (.seq (.reg [om 5 0, om 6 1, od 7 (.call 145 [(tm 5), (tm 6)]), od 8 (.bin .geq (tm 7) (ki 0)), om 4 8] [kp [4] []]) .ret))
def G2 : List RV := [.tmp 4]
/- slices.IndexFunc[[]probecard/api.Response,probecard/api.Response] (function 145) -/
abbrev He : IC := .gh (.seq (.reg [od 9 (.bin .lss (tm 8) (tm 7))] [kp [0, 1, 7, 8, 9] []]) (.seq (.cond (tm 9) .skip (.exit 0)) (.seq (.block 1 (.seq (.reg [om 10 8, om 5 10] [kp [0, 1, 5, 7, 8] []]) (.seq (.reg [om 11 1, om 12 0, om 13 5, od 14
 (ia 2 12 13), od 15 (lG 2 14), od 16 (.callv (tm 11) [(tm 15)])] [kp [0, 1, 5, 7, 8, 16] []]) (.cond (tm 16) (.seq (.reg [om 17 5, om 4 17] [kp [4] []]) .ret) .skip)))) (.reg [od 18 (.bin .add (tm 8) (ki 1)), om 8 18] [kp [0, 1, 7,
 8] []])))) [kp [0, 1, 7, 8] []]
def D1 : IC := .loop He
abbrev Hf : IC := (.seq (.reg [od 4 (.mv (ki 0))] [kp [0, 1] []]) (.seq (.seq (.reg [om 6 0, od 7 (le 0 6), od 8 (.mv (ki 0))] [kp [0, 1, 7, 8] []]) (.block 0 D1)) (.seq (.reg [od 4 (.mv (.const (.int .i64 (-1))))] [kp
 [4] []]) .ret)))
theorem F9 (h : ∀ K : St → Prop, K = run P Γ D1 Q → run P Γ He (Ax K Q) s) : run P Γ D1 Q s := Aj h
def E8 : List RV := [.tmp 4]
/- probecard/probecardlaw35.row (function 98) -/
end
end Go.Lg
namespace Go.Lg
open Go Go.Proofs
theorem q7I : B1 Tryz.prog 39 q2Q 18 1 q2R = true := by kernel_rfl
theorem q6a : B1 Tryz.prog 101 Ul 11 2 Nb = true := by kernel_rfl
theorem q4f : B1 Tryz.prog 144 Zf 5 1 Zg = true := by kernel_rfl
theorem q7J : B1 Tryz.prog 102 q2V 75 3 q2W = true := by kernel_rfl
theorem q7K : B1 Tryz.prog 38 q2X 32 3 P4 = true := by kernel_rfl
theorem q8N : B1 Tryz.prog 42 q3r 100 3 Gn = true := by kernel_rfl
theorem q6b : B1 Tryz.prog 103 q1b 14 3 q1c = true := by kernel_rfl
theorem q5h : B1 Tryz.prog 43 q0Z 114 3 q0a = true := by kernel_rfl
theorem q3s : B1 Tryz.prog 106 O5 12 2 O6 = true := by kernel_rfl
theorem Zj : B1 Tryz.prog 104 Nv 9 1 Nw = true := by kernel_rfl
theorem O7 : B1 Tryz.prog 105 G1 9 2 G2 = true := by kernel_rfl
theorem Qj : B1 Tryz.prog 145 Hf 19 2 E8 = true := by kernel_rfl
end Go.Lg
namespace Go.Lg
open Go
section
variable {P : Program} {Γ : Tables} {Q : AX → St → Prop} {s : St}
/- probecard/probecardlaw34.ScansModes (function 5) -/
abbrev q2Y : IC := .gh (.seq (.seq (.reg [om 9 8, om 10 1, od 11 (.bin .lss (tm 9) (tm 10))] [kp [0, 1, 2, 7, 8, 11] [19, 31]]) (.cond (tm 11) .skip (.exit 0))) (.seq (.block 1 (.seq (.reg [om 14 0, od 15 (le 0 14), od 16 (.bin .eql (tm 15) (ki 0))]
 [kp [0, 1, 2, 7, 8, 16] [19, 31]]) (.cond (tm 16) (.reg [om 17 7, od 18 (.bsl true 68 1 [(ku 2)]), od 19 (.app false 68 1 (tm 17) (tm 18)), om 7 19] [kp [0, 1, 2, 7, 8] [19, 31]]) (.reg [om 20 7, om 21 0, om 22 8, om 23 0, od 24
 (le 0 23), od 25 (.bin .rem (tm 22) (tm 24)), od 26 (ia 1 21 25), od 27 (ld 1 26), om 28 2, od 29 (.bin .rem (tm 27) (tm 28)), od 30 (.bsl true 68 1 [(tm 29)]), od 31 (.app false 68 1 (tm 20) (tm 30)), om 7 31] [kp [0, 1, 2, 7, 8]
 [19, 31]])))) (.reg [om 12 8, od 13 (.bin .add (tm 12) (ki 1)), om 8 13] [kp [0, 1, 2, 7, 8] [19, 31]]))) [kp [0, 1, 2, 7, 8] [19, 31]]
def W7 : IC := .loop q2Y
abbrev q2Z : IC := (.seq (.reg [od 6 (.mv kN)] [kp [0, 1, 2] []]) (.seq (.reg [od 7 (.mv kN)] [kp [0, 1, 2, 7] [19, 31]]) (.seq (.seq (.reg [od 8 (.mv (ki 0))] [kp [0, 1, 2, 7, 8] [19, 31]]) (.block 0 W7)) (.seq (.reg [om 32 7, om 6 32]
 [kp [6] [19, 31]]) .ret))))
theorem q4g (h : ∀ K : St → Prop, K = run P Γ W7 Q → run P Γ q2Y (Ax K Q) s) : run P Γ W7 Q s := Aj h
def q2a : List RV := [.tmp 6]
/- (probecard/probecardlaw06.P).Of (function 14) -/
abbrev q3t : IC := (.seq (.reg [od 2 (.box true (tm 0)), od 3 (.box true (tm 1)), od 4 (.alloc false [(.slice none 0 0), (.slice none 0 0)])] [kp [2, 3, 4] [4]]) (.seq (.reg [od 5 (fa 0 2), od 6 (.ldT 1 false (tm 5)), od 7 (.ldT 4 true (tm 3)), od 8
 (.call 52 [(tm 7), (ku 0)]), od 9 (.call 51 [(tm 6), (tm 8), (ku 4)]), od 10 (fa 1 2), od 11 (.ldT 1 false (tm 10)), od 12 (.ldT 4 true (tm 3)), od 13 (.call 52 [(tm 12), (ku 14)]), od 14 (.call 51 [(tm 11), (tm 13), (ku 3)]), od
 15 (.build [(1, (tm 9)), (1, (tm 14))]), on (.stR 4 2 (tm 4) (tm 15))] [kp [4] [4]]) .ret))
def q3u : List RV := [.cell 4 2 true]
end
end Go.Lg
namespace Go.Lg
open Go Go.Proofs
theorem q7L : B1 Tryz.prog 51 q2Z 33 3 q2a = true := by kernel_rfl
theorem q8O : B1 Tryz.prog 14 q3t 16 2 q3u = true := by kernel_rfl
end Go.Lg
namespace Go.Lg
open Go Go.Proofs
variable {Γ : Tables}
theorem q0b {f : FuncId} {as' : List AV} {ts : List T} {res : T} {K : T → Prop} (h : Ai Tryz.prog Γ f ts res) (ht : Bd (as'.map toT) = some ts) (hk : K res) : qEA Tryz.prog Γ f as' K ⟨⟩ := ⟨ts, res, ht, .inl h, hk⟩
theorem qD1 {α : Type} {f : α → List T} {l : List α} {n : Nat} {x : α} : (As f l).set n (f x) = As f (l.set n x) := by simp [As, List.map_set]
theorem gN {l : List Nd} {i : Nat} (h : i < l.length) : (As C4 l)[i]?.getD [] = C4 (l.getD i Nd.d) := by
  rw [D8 Nd.d h]; rfl
def q0t (x : Nd) : Nd := ⟨x.k, cpS x.inn, x.mem, x.bit⟩
def cpL : Nat → Nat → List Nd → List Nd
  | 0, _, L => L
  | k + 1, i, L => cpL k (i + 1) (L.set i (q0t (L.getD i Nd.d)))
theorem qHY : ∀ (k i : Nat) (L : List Nd), i + k = L.length → cpL k i L = L.take i ++ (L.drop i).map q0t
  | 0, i, L, h => by rw [List.drop_of_length_le (by omega), List.take_of_length_le (by omega)]; simp [cpL]
  | k + 1, i, L, h => by
    have hi : i < L.length := by omega
    simp only [cpL]
    rw [qHY k (i + 1) _ (by simp; omega), List.drop_eq_getElem_cons hi]
    have e : L.getD i Nd.d = L[i] := by simp [List.getD_eq_getElem?_getD, hi]
    rw [e]
    have h1 : (L.set i (q0t L[i])).take (i + 1) = L.take i ++ [q0t L[i]] := by
      rw [List.take_add_one, List.take_set_of_le (Nat.le_refl i)]
      simp [hi]
    rw [h1, List.drop_set_of_lt (by omega), List.map_cons, List.append_assoc]
    rfl
def cpH (n : Nat) (nm mm oo : T) (L : List Nd) : List (Nat × Bl) :=
  [(2, .bx [.t (.sl [] (some 0) (some true)), .t (.sl [] (some 0) (some true)), .t (.sl [] (some 0) (some true)), .t (.sl [] (some 0) (some true))]), (3, .bx [.ls 14007 0 n (some n), .t nm, .t mm, .t oo]), (14007, .sl 104 4 (As C4 L))]
theorem qB7 {Q : AX → St → Prop} (n : Nat) (hn : n ≤ 1000000) (nm mm oo : T) (R : List Nd)
    (h0 : Q (.exit 0) ⟨[(2, .lp 2 0 0), (3, .lp 3 0 0), (22, .ls 14007 0 n (some n)), (23, .t (tI n)), (24, .t (tI n)), (25, .t (tB false))], cpH n nm mm oo R⟩) :
    ∀ (k i : Nat) (L : List Nd), k + i = n → L.length = n → (∀ j, i ≤ j → j < n → q0s (L.getD j Nd.d).inn) → cpL k i L = R →
    run Tryz.prog Γ N9 Q ⟨[(2, .lp 2 0 0), (3, .lp 3 0 0), (22, .ls 14007 0 n (some n)), (23, .t (tI n)), (24, .t (tI i))], cpH n nm mm oo L⟩
  | 0, i, L, h, hl, hs, hR => by
    refine Vq fun K hK => ?_
    have h3 : i = n := by omega
    subst h3
    simp only [cpL] at hR
    subst hR
    simp [cpH]
    simpa [cpH] using h0
  | k + 1, i, L, h, hl, hs, hR => by
    refine Vq fun K hK => ?_
    have h2 : i < n := by omega
    have hi : i < L.length := by omega
    simp only [cpL] at hR
    have e := gN hi
    have hx : q0s (L.getD i Nd.d).inn := hs i (Nat.le_refl i) h2
    have e1 := q2O (Γ := Γ) _ hx
    have ih := qB7 n hn nm mm oo R h0 k (i + 1) (L.set i (q0t (L.getD i Nd.d))) (by omega) (by simp [hl]) (fun j hj hjn => by
      have : (L.set i (q0t (L.getD i Nd.d))).getD j Nd.d = L.getD j Nd.d := by
        rw [List.getD_eq_getElem?_getD, List.getElem?_set, if_neg (by omega), ← List.getD_eq_getElem?_getD]
      rw [this]
      exact hs j (by omega) hjn) hR
    generalize L.getD i Nd.d = x at *
    have e' : ∀ h : i < (As C4 L).length, (As C4 L)[i] = C4 x := fun h => by rw [← e]; simp [hi, Af]
    have hset : (As C4 L).set i [tK x.k, Aw (cpS x.inn), tI x.mem, tI x.bit] = As C4 (L.set i (q0t x)) := qD1 (f := C4) (x := q0t x)
    simp only [Aw] at e1 hset
    simp (disch := omega) [cpH, h2, Af, Bh, e, e', hl, A7, C4, Aw]
    refine q0b e1 rfl ?_
    simp (disch := omega) [cpH, h2, hi, Af, Bh, e, e', hl, A7, C4, Aw, hset]
    rw [hK]
    simpa [cpH] using ih
def qHZ (c : B9) : B9 := ⟨⟨c.nodes.l.map q0t, some c.nodes.l.length, none⟩, ⟨c.names.l, some c.names.l.length, none⟩, ⟨[], some 0, some true⟩, cpS c.outs⟩
structure qKh (c : B9) : Prop where
  n0 : c.nodes.l ≠ []
  n1 : c.nodes.l.length ≤ 1000000
  nn : c.nodes.nl ≠ some true
  m0 : c.names.l ≠ []
  m1 : c.names.l.length ≤ 1000000
  mn : c.names.nl ≠ some true
  mems : c.mems = ⟨[], some 0, some true⟩
  inn : ∀ x ∈ c.nodes.l, q0s x.inn
  outs : q0s c.outs
theorem qGD (c : B9) (hc : qKh c) : Ai Tryz.prog Γ 83 [.agg (tC c)] (.agg (tC (qHZ c))) := by
  refine Ap q6Y rfl ?_
  have e1 := q9f (Γ := Γ) c.nodes.l c.nodes.cap c.nodes.nl hc.nn hc.n0 hc.n1
  have e2 := q6Z (Γ := Γ) c.names.l c.names.cap c.names.nl hc.mn hc.m0 hc.m1
  have e3 := q8M (Γ := Γ)
  have e4 := q2O (Γ := Γ) c.outs hc.outs
  have hcp : cpL c.nodes.l.length 0 c.nodes.l = c.nodes.l.map q0t := by rw [qHY _ _ _ (by omega)]; simp
  have hn1 := hc.n1
  have g1 := fun Q nm mm oo h0 => qB7 (Γ := Γ) (Q := Q) c.nodes.l.length hc.n1 nm mm oo _ h0 c.nodes.l.length 0 c.nodes.l (by omega) rfl (fun j _ hj => hc.inn _ (by rw [List.getD_eq_getElem?_getD, List.getElem?_eq_getElem hj]; exact List.getElem_mem hj)) hcp
  have hml : (As C4 (c.nodes.l.map q0t)).take c.nodes.l.length = As C4 (c.nodes.l.map q0t) := List.take_of_length_le (by simp [As])
  simp [q1W, tC, Ac, Ah, Am, Aw, hc.mems]
  refine ⟨_, _, e1, ?_⟩
  simp
  refine q0b e2 rfl ?_
  simp
  refine q0b e3 rfl ?_
  simp
  simp [Aw] at e4
  refine q0b e4 rfl ?_
  simp
  simp [cpH] at g1
  refine g1 _ _ _ _ ?_
  simp [St.freeze, Bl.closed, D3, frz1, frz0, Eo, del, Ak, hml]
  refine q3k fun K hK => ?_
  simp [q1X, qHZ, Af, Dh, show As tMm [] = [] from rfl]
theorem qKi (seen : List (List UInt8)) (nodes : List Nd) (names : List (List UInt8)) (ol : List Int) (oc : Option Nat) (on : Option Bool) (x : Nd) (nm : List UInt8) (hn : nodes.length ≤ 1000000) (hm : names.length ≤ 1000000) (hs : nm ∉ seen) (hl : nm.length ≤ 32) :
    F4 Tryz.prog Γ 84 [(1000000, .mp (Ry seen)), (1000001, .bx [.t (.sl (As C4 nodes) (some nodes.length) none), .t (.sl (Ae tS names) (some names.length) none), .t (.sl [] (some 0) (some true)), .t (.sl (Ao ol) oc on), .lm 1000000, .t (tB false)])] [.lp 1000001 0 0, .ag ((C4 x).map .t), .t (tS nm)] (.t (tI nodes.length))
      [(40, .sl 104 4 (As C4 (nodes ++ [x]))), (52, .sl 9 1 (Ae tS (names ++ [nm]))), (1000000, .mp (Ry (seen ++ [nm]))), (1000001, .bx [.ls 40 0 (nodes.length + 1) none, .ls 52 0 (names.length + 1) none, .t (.sl [] (some 0) (some true)), .t (.sl (Ao ol) oc on), .lm 1000000, .t (tB false)])] := by
  refine G5 Jz rfl ?_
  have q1 : As C4 nodes ++ [[tK x.k, .sl (Ao x.inn.l) x.inn.cap x.inn.nl, tI x.mem, tI x.bit]] = As C4 (nodes ++ [x]) := Q5 (f := C4) (x := x)
  have q2 : Ae tS names ++ [[.v (sV nm)]] = Ae tS (names ++ [nm]) := By
  have w1 : Ec 4 [[tK x.k, .sl (Ao x.inn.l) x.inn.cap x.inn.nl, tI x.mem, tI x.bit]] := by intro e he; simp at he; subst he; rfl
  have w2 : Ec 1 [[T.v (sV nm)]] := by intro e he; simp at he; subst he; rfl
  have t1 : (As C4 nodes).take nodes.length = As C4 nodes := Uy
  have t2 : (Ae tS names).take names.length = Ae tS names := Bf
  have f1 := Z0 nm seen
  rw [if_neg hs] at f1
  have f2 := Xu nm seen hs
  have f3 := q1D seen
  have h32 : ¬ 32 < nm.length := by omega
  have h32' : ¬ (32 : Int) < nm.length := by omega
  have hfit : KT.str.fits (sV nm) = true := rfl
  simp only [sV] at q2 w2 f1 f2 hfit
  simp [H9, C4, Aw, tS, sV]
  refine Hm fun K hK => ?_
  simp (maxSteps := 1000000) (disch := omega) [f1, f2, f3, hfit, h32, h32', q1, q2, w1, w2, t1, t2, Af, A0, Bh, Aa, A7]
  simp (disch := omega) [Ha, A7, hn, hm]
  omega
theorem qKj (seen : List (List UInt8)) (nodes : List Nd) (names : List (List UInt8)) (ol : List Int) (oc : Option Nat) (on : Option Bool) (x : Nd) (nm : List UInt8) (hn : nodes.length ≤ 1000000) (hm : names.length ≤ 1000000) (hs : nm ∉ seen) (hl : nm.length ≤ 32) :
    F4 Tryz.prog Γ 84 [(1000000, .mp (Ry seen)), (1000001, .bx [.ls 1000003 0 nodes.length none, .ls 1000004 0 names.length none, .t (.sl [] (some 0) (some true)), .t (.sl (Ao ol) oc on), .lm 1000000, .t (tB false)]), (1000003, .sl 104 4 (As C4 nodes)), (1000004, .sl 9 1 (Ae tS names))] [.lp 1000001 0 0, .ag ((C4 x).map .t), .t (tS nm)] (.t (tI nodes.length))
      [(40, .sl 104 4 (As C4 (nodes ++ [x]))), (52, .sl 9 1 (Ae tS (names ++ [nm]))), (1000000, .mp (Ry (seen ++ [nm]))), (1000001, .bx [.ls 40 0 (nodes.length + 1) none, .ls 52 0 (names.length + 1) none, .t (.sl [] (some 0) (some true)), .t (.sl (Ao ol) oc on), .lm 1000000, .t (tB false)])] := by
  refine G5 Jz rfl ?_
  have q1 : As C4 nodes ++ [[tK x.k, .sl (Ao x.inn.l) x.inn.cap x.inn.nl, tI x.mem, tI x.bit]] = As C4 (nodes ++ [x]) := Q5 (f := C4) (x := x)
  have q2 : Ae tS names ++ [[.v (sV nm)]] = Ae tS (names ++ [nm]) := By
  have w1 : Ec 4 [[tK x.k, .sl (Ao x.inn.l) x.inn.cap x.inn.nl, tI x.mem, tI x.bit]] := by intro e he; simp at he; subst he; rfl
  have w2 : Ec 1 [[T.v (sV nm)]] := by intro e he; simp at he; subst he; rfl
  have t1 : (As C4 nodes).take nodes.length = As C4 nodes := Uy
  have t2 : (Ae tS names).take names.length = Ae tS names := Bf
  have f1 := Z0 nm seen
  rw [if_neg hs] at f1
  have f2 := Xu nm seen hs
  have f3 := q1D seen
  have h32 : ¬ 32 < nm.length := by omega
  have h32' : ¬ (32 : Int) < nm.length := by omega
  have hfit : KT.str.fits (sV nm) = true := rfl
  simp only [sV] at q2 w2 f1 f2 hfit
  simp [H9, C4, Aw, tS, sV]
  refine Hm fun K hK => ?_
  simp (maxSteps := 1000000) (disch := omega) [f1, f2, f3, hfit, h32, h32', q1, q2, w1, w2, t1, t2, Af, A0, Bh, Aa, A7]
  simp (disch := omega) [Ha, A7, hn, hm]
  omega
theorem qHa (seen : List (List UInt8)) (nodes : List Nd) (names : List (List UInt8)) (ol : List Int) (x : Nd) (nm : List UInt8) (hn : nodes.length ≤ 1000000) (hm : names.length ≤ 1000000) (hs : nm ∉ seen) (hl : nm.length ≤ 32) :
    F4 Tryz.prog Γ 84 [(1000000, .mp (Ry seen)), (1000001, .bx [.ls 1000003 0 nodes.length none, .ls 1000004 0 names.length none, .t (.sl [] (some 0) (some true)), .ls 1000002 0 ol.length none, .lm 1000000, .t (tB false)]), (1000002, .sl 3 1 (Ao ol)), (1000003, .sl 104 4 (As C4 nodes)), (1000004, .sl 9 1 (Ae tS names))] [.lp 1000001 0 0, .ag ((C4 x).map .t), .t (tS nm)] (.t (tI nodes.length))
      [(40, .sl 104 4 (As C4 (nodes ++ [x]))), (52, .sl 9 1 (Ae tS (names ++ [nm]))), (1000000, .mp (Ry (seen ++ [nm]))), (1000001, .bx [.ls 40 0 (nodes.length + 1) none, .ls 52 0 (names.length + 1) none, .t (.sl [] (some 0) (some true)), .ls 1000002 0 ol.length none, .lm 1000000, .t (tB false)]), (1000002, .sl 3 1 (Ao ol))] := by
  refine G5 Jz rfl ?_
  have q1 : As C4 nodes ++ [[tK x.k, .sl (Ao x.inn.l) x.inn.cap x.inn.nl, tI x.mem, tI x.bit]] = As C4 (nodes ++ [x]) := Q5 (f := C4) (x := x)
  have q2 : Ae tS names ++ [[.v (sV nm)]] = Ae tS (names ++ [nm]) := By
  have w1 : Ec 4 [[tK x.k, .sl (Ao x.inn.l) x.inn.cap x.inn.nl, tI x.mem, tI x.bit]] := by intro e he; simp at he; subst he; rfl
  have w2 : Ec 1 [[T.v (sV nm)]] := by intro e he; simp at he; subst he; rfl
  have t1 : (As C4 nodes).take nodes.length = As C4 nodes := Uy
  have t2 : (Ae tS names).take names.length = Ae tS names := Bf
  have f1 := Z0 nm seen
  rw [if_neg hs] at f1
  have f2 := Xu nm seen hs
  have f3 := q1D seen
  have h32 : ¬ 32 < nm.length := by omega
  have h32' : ¬ (32 : Int) < nm.length := by omega
  have hfit : KT.str.fits (sV nm) = true := rfl
  simp only [sV] at q2 w2 f1 f2 hfit
  simp [H9, C4, Aw, tS, sV]
  refine Hm fun K hK => ?_
  simp (maxSteps := 1000000) (disch := omega) [f1, f2, f3, hfit, h32, h32', q1, q2, w1, w2, t1, t2, Af, A0, Bh, Aa, A7]
  simp (disch := omega) [Ha, A7, hn, hm]
  omega
def qBu (l : List (Int × Int)) : List (Value × T) := l.map fun p => (.int .i64 p.1, tI p.2)
def Ej (l : List (Int × Int)) (n : Int) : Int := match l.find? (fun p => p.1 == n) with | some p => p.2 | none => 0
theorem q9g (l : List (Int × Int)) : Iy (.int .i64) (qBu l) := by
  intro e he; obtain ⟨s, _, rfl⟩ := List.mem_map.1 he; rfl
theorem qB8 (n : Int) : ∀ l : List (Int × Int), (Eh (.int .i64 n) (qBu l)).getD (tI 0) = tI (Ej l n)
  | [] => rfl
  | (a, p) :: l => by
    have ih := qB8 n l
    simp only [qBu, Ej, List.map_cons, Eh, Tf, List.find?_cons] at ih ⊢
    by_cases h : n = a
    · simp [h]
    · have h' : ¬ a = n := fun e => h e.symm
      simp [h, h', ih]
theorem q9h (n a : Int) : ∀ l : List (Int × Int), n ∉ l.map (·.1) → q1k (.int .i64 n) (tI a) (qBu l) = qBu (l ++ [(n, a)])
  | [], _ => rfl
  | (b, p) :: l, h => by
    have ih := q9h n a l (fun hm => h (by simp only [List.map_cons, List.mem_cons]; exact .inr hm))
    have hne : n ≠ b := fun e => h (by simp [e])
    simp only [qBu, List.map_cons, q1k, Tf, List.cons_append] at ih ⊢
    simp [hne, ih]
def Vs : Int → List Int → List (Int × Int)
  | _, [] => []
  | a, n :: l => (n, a) :: Vs n l
def U2 : Int → List Int → Int
  | a, [] => a
  | _, n :: l => U2 n l
theorem q5i : ∀ (l : List Int) (a : Int), (Vs a l).map (·.1) = l
  | [], _ => rfl
  | n :: l, a => by simp only [Vs, List.map_cons, q5i l n]
def q1d : T := .sl [] (some 0) (some true)
def Z8 : List AV := [.t q1d, .t q1d, .t q1d, .t q1d, .t q1d, .t (tI 0), .t q1d, .t q1d]
theorem gi1 {f : Int → T} {l : List Int} {i : Nat} (hi : i < l.length) : (Ae f l)[i]?.getD [] = [f (l.getD i 0)] := by
  rw [Bc 0 hi]; rfl
theorem qHb {Q : AX → St → Prop} (t1 t7 : T) (c : B9) (names : Sl (List UInt8)) (hl : names.l.length ≤ 1000000) (hnd : names.l.Nodup) (N M O : T)
    (h0 : Q (.exit 0) ⟨[(1, .t t1), (2, .t (.ip (tC c) 0)), (4, .lp 4 0 0), (7, .t t7), (8, .lp 46 0 0), (48, .t (Ah names)), (49, .t (tI names.l.length)), (50, .t (tI names.l.length)), (51, .t (tB false))], [(4, .bx Z8), (44, .mp (Ry names.l)), (46, .bx [.t N, .t M, .t q1d, .t O, .lm 44, .t (tB false)])]⟩) :
    ∀ (k i : Nat), k + i = names.l.length →
    run Tryz.prog Γ Oy Q ⟨[(1, .t t1), (2, .t (.ip (tC c) 0)), (4, .lp 4 0 0), (7, .t t7), (8, .lp 46 0 0), (48, .t (Ah names)), (49, .t (tI names.l.length)), (50, .t (tI i))], [(4, .bx Z8), (44, .mp (Ry (names.l.take i))), (46, .bx [.t N, .t M, .t q1d, .t O, .lm 44, .t (tB false)])]⟩
  | 0, i, h => by
    refine X3 fun K hK => ?_
    have h3 : i = names.l.length := by omega
    subst h3
    rw [List.take_of_length_le (Nat.le_refl _)]
    simp [Z8]
    simpa [Z8] using h0
  | k + 1, i, h => by
    refine X3 fun K hK => ?_
    have h2 : i < names.l.length := by omega
    have ih := qHb t1 t7 c names hl hnd N M O h0 k (i + 1) (by omega)
    have ht : names.l.take (i + 1) = names.l.take i ++ [names.l[i]] := by rw [List.take_add_one]; simp [h2]
    have hm : names.l[i] ∉ names.l.take i := fun hm => by
      obtain ⟨j, hj, e⟩ := List.getElem_of_mem hm
      simp at hj e
      have hji : j < i := by omega
      exact List.pairwise_iff_getElem.1 (List.nodup_iff_pairwise_ne.1 hnd) j i (by omega) h2 hji e
    have e := Bc (f := tS) [] h2
    have e2 : names.l[i]?.getD [] = names.l[i] := by simp [h2]
    rw [e2] at e
    rw [ht] at ih
    generalize names.l[i] = x at *
    have e' : ∀ h : i < (Ae tS names.l).length, (Ae tS names.l)[i] = [tS x] := fun h => by rw [← e]; simp [h]
    have f2 := Xu x _ hm
    have f3 := q1D (names.l.take i)
    have hfit : KT.str.fits (sV x) = true := rfl
    simp only [tS, sV] at e e' f2 hfit
    simp [h2, Ah, A0, Aa, e, e', f2, f3, hfit, Z8]
    rw [A7 (by omega) (by omega), hK]
    simpa [Ah, Z8] using ih
def i3E (t2 t7 t65 t66 t67 t93 : T) (L : List Int) (lc : Option Nat) (ln : Option Bool) (last : Int) (i : Nat) : List (Nat × AV) :=
  [(2, .t t2), (4, .lp 4 0 0), (7, .t t7), (8, .lp 46 0 0), (11, .lp 11 0 0), (12, .lm 64), (15, .t (tI last)), (65, .t t65), (66, .t t66), (67, .t t67), (92, .t (.sl (Ao L) lc ln)), (93, .t t93), (94, .t (tI i))]
def i3H (r11 r44 r46 r78 r90 r157 rN rM : Bl) (bef : List (Int × Int)) : List (Nat × Bl) :=
  [(4, .bx Z8), (11, r11), (44, r44), (46, r46), (64, .mp (qBu bef)), (78, r78), (90, r90), (157, r157), (62040, rN), (62052, rM)]
theorem qHc {Q : AX → St → Prop} (t2 t7 t65 t66 t67 : T) (r11 r44 r46 r78 r90 r157 rN rM : Bl) (L : List Int) (hL : L.length ≤ 1000000) (lc : Option Nat) (ln : Option Bool) (hnd : L.Nodup) (R : List (Int × Int)) (z : Int)
    (h0 : Q (.exit 4) ⟨i3E t2 t7 t65 t66 t67 (tI L.length) L lc ln z L.length ++ [(95, .t (tB false))], i3H r11 r44 r46 r78 r90 r157 rN rM R⟩) :
    ∀ (k i : Nat) (last : Int) (bef : List (Int × Int)), k + i = L.length → (∀ n ∈ L.drop i, n ∉ bef.map (·.1)) → bef ++ Vs last (L.drop i) = R → U2 last (L.drop i) = z →
    run Tryz.prog Γ Jt Q ⟨i3E t2 t7 t65 t66 t67 (tI L.length) L lc ln last i, i3H r11 r44 r46 r78 r90 r157 rN rM bef⟩
  | 0, i, last, bef, h, hk, hR, hz => by
    refine I0 fun K hK => ?_
    have h3 : i = L.length := by omega
    subst h3
    rw [List.drop_of_length_le (Nat.le_refl _)] at hR hz
    simp only [Vs, U2, List.append_nil] at hR hz
    subst hR; subst hz
    simp [i3E, i3H, Z8]
    simpa [i3E, i3H, Z8] using h0
  | k + 1, i, last, bef, h, hk, hR, hz => by
    refine I0 fun K hK => ?_
    have h2 : i < L.length := by omega
    have e := gi1 (f := tI) h2
    rw [B2 h2] at e
    have hd : L.drop (i + 1) = (L.drop i).tail := by simp
    rw [List.drop_eq_getElem_cons h2] at hR hz hk
    have hxm := List.pairwise_iff_getElem.1 (List.nodup_iff_pairwise_ne.1 hnd)
    have hnx : ∀ n ∈ L.drop (i + 1), n ≠ L[i] := fun n hn e => by
      obtain ⟨j, hj, rfl⟩ := List.getElem_of_mem hn
      simp at hj e
      exact hxm i (i + 1 + j) h2 (by omega) (by omega) e.symm
    generalize L[i] = x at *
    simp only [Vs, U2] at hR hz
    have hx : x ∉ bef.map (·.1) := hk x List.mem_cons_self
    have ih := qHc t2 t7 t65 t66 t67 r11 r44 r46 r78 r90 r157 rN rM L hL lc ln hnd R z h0 k (i + 1) x (bef ++ [(x, last)]) (by omega) (fun n hn => by
      rw [List.map_append, List.mem_append]
      rintro (h | h)
      · exact hk n (List.mem_cons_of_mem _ hn) h
      · simp at h; exact hnx n hn h) (by rw [List.append_assoc]; exact hR) hz
    have f2 := q9h x last bef hx
    have f3 := q9g bef
    have hfit : (KT.int .i64).fits (.int .i64 x) = true := rfl
    have e' : ∀ h : i < (Ao L).length, (Ao L)[i] = [tI x] := fun h => by rw [← e]; simp [h]
    simp only [i3E, i3H] at ih ⊢
    simp [h2, A0, Aa, e, e', f2, f3, hfit]
    rw [A7 (by omega) (by omega), hK]
    simpa using ih
def i3G (r11 r44 r46 r78 r90 r111 r157 rN rM : Bl) (bef : List (Int × Int)) : List (Nat × Bl) :=
  [(4, .bx Z8), (11, r11), (44, r44), (46, r46), (64, .mp (qBu bef)), (78, r78), (90, r90), (111, r111), (157, r157), (62040, rN), (62052, rM)]
theorem qHd {Q : AX → St → Prop} (t2 t7 t65 t66 t67 : T) (r11 r44 r46 r78 r90 r111 r157 rN rM : Bl) (L : List Int) (hL : L.length ≤ 1000000) (lc : Option Nat) (ln : Option Bool) (hnd : L.Nodup) (R : List (Int × Int)) (z : Int)
    (h0 : Q (.exit 4) ⟨i3E t2 t7 t65 t66 t67 (tI L.length) L lc ln z L.length ++ [(95, .t (tB false))], i3G r11 r44 r46 r78 r90 r111 r157 rN rM R⟩) :
    ∀ (k i : Nat) (last : Int) (bef : List (Int × Int)), k + i = L.length → (∀ n ∈ L.drop i, n ∉ bef.map (·.1)) → bef ++ Vs last (L.drop i) = R → U2 last (L.drop i) = z →
    run Tryz.prog Γ Jt Q ⟨i3E t2 t7 t65 t66 t67 (tI L.length) L lc ln last i, i3G r11 r44 r46 r78 r90 r111 r157 rN rM bef⟩
  | 0, i, last, bef, h, hk, hR, hz => by
    refine I0 fun K hK => ?_
    have h3 : i = L.length := by omega
    subst h3
    rw [List.drop_of_length_le (Nat.le_refl _)] at hR hz
    simp only [Vs, U2, List.append_nil] at hR hz
    subst hR; subst hz
    simp [i3E, i3G, Z8]
    simpa [i3E, i3G, Z8] using h0
  | k + 1, i, last, bef, h, hk, hR, hz => by
    refine I0 fun K hK => ?_
    have h2 : i < L.length := by omega
    have e := gi1 (f := tI) h2
    rw [B2 h2] at e
    have hd : L.drop (i + 1) = (L.drop i).tail := by simp
    rw [List.drop_eq_getElem_cons h2] at hR hz hk
    have hxm := List.pairwise_iff_getElem.1 (List.nodup_iff_pairwise_ne.1 hnd)
    have hnx : ∀ n ∈ L.drop (i + 1), n ≠ L[i] := fun n hn e => by
      obtain ⟨j, hj, rfl⟩ := List.getElem_of_mem hn
      simp at hj e
      exact hxm i (i + 1 + j) h2 (by omega) (by omega) e.symm
    generalize L[i] = x at *
    simp only [Vs, U2] at hR hz
    have hx : x ∉ bef.map (·.1) := hk x List.mem_cons_self
    have ih := qHd t2 t7 t65 t66 t67 r11 r44 r46 r78 r90 r111 r157 rN rM L hL lc ln hnd R z h0 k (i + 1) x (bef ++ [(x, last)]) (by omega) (fun n hn => by
      rw [List.map_append, List.mem_append]
      rintro (h | h)
      · exact hk n (List.mem_cons_of_mem _ hn) h
      · simp at h; exact hnx n hn h) (by rw [List.append_assoc]; exact hR) hz
    have f2 := q9h x last bef hx
    have f3 := q9g bef
    have hfit : (KT.int .i64).fits (.int .i64 x) = true := rfl
    have e' : ∀ h : i < (Ao L).length, (Ao L)[i] = [tI x] := fun h => by rw [← e]; simp [h]
    simp only [i3E, i3G] at ih ⊢
    simp [h2, A0, Aa, e, e', f2, f3, hfit]
    rw [A7 (by omega) (by omega), hK]
    simpa using ih
structure IS where
  nodes : List Nd
  names : List (List UInt8)
  cl : List (Sl Int)
  ins : List Int
  bef : List (Int × Int)
  outs : List Int
def siN (i : Nat) : List UInt8 := [115, 105] ++ Tv i
def smN (i : Nat) : List UInt8 := [115, 109] ++ Tv i
def K0 (i : Nat) (s : Sl Int) (S : IS) : IS :=
  ⟨S.nodes ++ [H5], S.names ++ [siN i], S.cl ++ [⟨s.l, some s.l.length, none⟩], S.ins ++ [(S.nodes.length : Int)], S.bef ++ Vs S.nodes.length s.l, S.outs ++ [U2 S.nodes.length s.l]⟩
def q8P : Nat → List (Sl Int) → IS → IS
  | _, [], S => S
  | i, s :: l, S => q8P (i + 1) l (K0 i s S)
structure ISz (S : IS) : Prop where
  nodes : S.nodes.length ≤ 100000
  names : S.names.length ≤ 100000
  cl : S.cl.length ≤ 100000
  ins : S.ins.length ≤ 100000
  outs : S.outs.length ≤ 100000
structure qMO (i : Nat) (s : Sl Int) (S : IS) : Prop where
  z : ISz S
  nm : siN i ∉ S.names
  i100 : i < 100
  ne : s.l ≠ []
  nl : s.nl ≠ some true
  len : s.l.length ≤ 1000000
  nd : s.l.Nodup
  key : ∀ n ∈ s.l, n ∉ S.bef.map (·.1)
def qHe : Nat → List (Sl Int) → IS → Prop
  | _, [], S => True
  | i, s :: l, S => qMO i s S ∧ qHe (i + 1) l (K0 i s S)
theorem q9i {t : T} : Ec 1 [[t]] = True := eq_true (by intro e he; simp at he; subst he; rfl)
theorem qET (a b : List UInt8) : ByteArray.mk a.toArray ++ ByteArray.mk b.toArray = ByteArray.mk (a ++ b).toArray := by
  ext1; simp [ByteArray.data_append]
theorem qFB {i : Nat} : (siN i).length ≤ 32 := by unfold siN Tv; split <;> simp
theorem qJ2 {i : Nat} : (smN i).length ≤ 32 := by unfold smN Tv; split <;> simp
def i6E (c : B9) (t7 : T) (chs : Sl (Sl Int)) (i : Nat) : List (Nat × AV) :=
  [(2, .t (.ip (tC c) 0)), (4, .lp 4 0 0), (7, .t t7), (8, .lp 46 0 0), (11, .lp 11 0 0), (12, .lm 64), (65, .t (.sl (Ae Aw chs.l) chs.cap chs.nl)), (66, .t (tI chs.l.length)), (67, .t (tI i))]
def r11 (en : Int) (i : Nat) (k : Nat) : Bl := .bx [.t q1d, .t q1d, .t q1d, .t q1d, .ls 78 0 i none, .t (tI en), .ls 90 0 i none, .ls 157 0 k none]
def r46 (n m : Nat) (O : AV) : Bl := .bx [.ls 62040 0 n none, .ls 62052 0 m none, .t q1d, O, .lm 44, .t (tB false)]
def i6R (en : Int) (S : IS) : List (Nat × Bl) :=
  i3G (r11 en S.cl.length 0) (.mp (Ry S.names)) (r46 S.nodes.length S.names.length (.ls 111 0 S.outs.length none)) (.sl 33 1 (Ae Aw S.cl)) (.sl 3 1 (Ao S.ins)) (.sl 3 1 (Ao S.outs)) (.sl 3 1 []) (.sl 104 4 (As C4 S.nodes)) (.sl 9 1 (Ae tS S.names)) S.bef
def i6T (en : Int) (ol : List Int) (oc : Option Nat) (on : Option Bool) (S : IS) : List (Nat × Bl) :=
  i3H (r11 en S.cl.length 0) (.mp (Ry S.names)) (r46 S.nodes.length S.names.length (.t (.sl (Ao ol) oc on))) (.sl 33 1 (Ae Aw S.cl)) (.sl 3 1 (Ao S.ins)) (.sl 3 1 []) (.sl 104 4 (As C4 S.nodes)) (.sl 9 1 (Ae tS S.names)) S.bef
set_option maxHeartbeats 2000000 in
theorem qHf {Q : AX → St → Prop} (c : B9) (t7 : T) (chs : Sl (Sl Int)) (hcl : chs.l.length ≤ 100) (en : Int) (R : IS)
    (h0 : Q (.exit 2) ⟨i6E c t7 chs chs.l.length ++ [(68, .t (tB false))], i6R en R⟩) :
    ∀ (k i : Nat) (S : IS), k + i = chs.l.length → S.ins.length = S.cl.length → qHe i (chs.l.drop i) S → q8P i (chs.l.drop i) S = R →
    run Tryz.prog Γ Ju Q ⟨i6E c t7 chs i, i6R en S⟩
  | 0, i, S, h, hic, hk, hR => by
    refine I1 fun K hK => ?_
    have h3 : i = chs.l.length := by omega
    subst h3
    rw [List.drop_of_length_le (Nat.le_refl _)] at hR
    simp only [q8P] at hR
    subst hR
    simp [i6E, i6R, i3G, Z8]
    simpa [i6E, i6R, i3G, Z8] using h0
  | k + 1, i, S, h, hic, hk, hR => by
    refine I1 fun K hK => ?_
    have h2 : i < chs.l.length := by omega
    rw [List.drop_eq_getElem_cons h2] at hR hk
    have e := Bc (f := Aw) ⟨[], none, none⟩ h2
    have e2 : chs.l[i]?.getD ⟨[], none, none⟩ = chs.l[i] := by simp [h2]
    rw [e2] at e
    generalize chs.l[i] = s at *
    obtain ⟨h1, h5⟩ := hk
    simp only [q8P] at hR
    have ih := qHf c t7 chs hcl en R h0 k (i + 1) (K0 i s S) (by omega) (by simp [K0, hic]) h5 hR
    have e' : ∀ h : i < (Ae Aw chs.l).length, (Ae Aw chs.l)[i] = [Aw s] := fun h => by rw [← e]; simp [h]
    have hz := h1.z
    have hso : q0s s := ⟨fun h => absurd h h1.nl, fun _ => h1.ne, h1.len⟩
    have c1 := q3o (Γ := Γ) s hso
    rw [if_neg h1.nl] at c1
    have c2 := Lr (Γ := Γ) (Ao s.l) none none Aa
    have c3 := q7H (Γ := Γ) i h1.i100
    have z1 := hz.nodes
    have z2 := hz.names
    have c4 := qHa (Γ := Γ) S.names S.nodes S.names S.outs H5 (siN i) (by omega) (by omega) h1.nm qFB
    have tk1 : (Ae Aw S.cl).take S.cl.length = Ae Aw S.cl := Bf
    have q1 : Ae Aw S.cl ++ [[.sl (Ao s.l) (some s.l.length) none]] = Ae Aw (S.cl ++ [⟨s.l, some s.l.length, none⟩]) := By (f := Aw) (x := ⟨s.l, some s.l.length, none⟩)
    simp only [Aw] at c1 e e' q1
    simp [i6E, i6R, i3G, r11, r46, h2, A0, Aa, e, e']
    refine A6 c1 rfl ?_
    simp
    refine A8 c2 rfl ?_
    simp [A0, Aa, tk1, q1, q9i, Z8]
    have hcl2 : S.cl.length ≤ 2147483647 := by have := hz.cl; omega
    refine ⟨hcl2, ?_⟩
    refine A6 c3 rfl ?_
    simp [tS, sV, qET, List.idxOf_cons]
    have hil : 2 + (Tv i).length ≤ 9223372036854775807 := by unfold Tv; split <;> simp
    refine ⟨hil, ?_⟩
    simp [C4, H5, Aw, Dh, tS, sV, siN] at c4
    have g3 := fun Q r11 r44 r46 r78 r90 r111 r157 rN rM h0 => qHd (Γ := Γ) (Q := Q) (.ip (tC c) 0) t7 (.sl (Ae Aw chs.l) chs.cap chs.nl) (tI chs.l.length) (tI i) r11 r44 r46 r78 r90 r111 r157 rN rM s.l h1.len s.cap s.nl h1.nd _ _ h0 s.l.length 0 S.nodes.length S.bef (by omega) h1.key rfl rfl
    simp [i3E, i3G, Z8] at g3
    have q2 : Ao S.ins ++ [[tI S.nodes.length]] = Ao (S.ins ++ [(S.nodes.length : Int)]) := By
    have tk2 : (Ao S.ins).take S.cl.length = Ao S.ins := by rw [← hic]; exact Bf
    have q3 : Ao S.outs ++ [[tI (U2 S.nodes.length s.l)]] = Ao (S.outs ++ [U2 S.nodes.length s.l]) := By
    have tk3 : (Ao S.outs).take S.outs.length = Ao S.outs := Bf
    refine ⟨_, _, c4, ?_⟩
    simp [List.idxOf_cons, q14, q9i, hcl2, tk2, q2, A0]
    refine g3 _ _ _ _ _ _ _ _ _ _ ?_
    simp [q9i, tk3, q3, A0]
    refine ⟨by have := hz.outs; omega, ?_⟩
    rw [A7 (by omega) (by omega), hK]
    simpa [i6E, i6R, i3G, r11, r46, Z8, K0, q1d, H5, siN, hic, Aw] using ih
set_option maxHeartbeats 2000000 in
theorem qJ3 {Q : AX → St → Prop} (c : B9) (t7 : T) (chs : Sl (Sl Int)) (hcl : chs.l.length ≤ 100) (en : Int) (R : IS) (on : Option Bool) (S : IS)
    (h0 : chs.l ≠ [] → Q (.exit 2) ⟨i6E c t7 chs chs.l.length ++ [(68, .t (tB false))], i6R en R⟩)
    (h0t : chs.l = [] → Q (.exit 2) ⟨i6E c t7 chs 0 ++ [(68, .t (tB false))], i6T en S.outs (some S.outs.length) on S⟩)
    (hic : S.ins.length = S.cl.length) (hk : qHe 0 chs.l S) (hR : q8P 0 chs.l S = R) :
    run Tryz.prog Γ Ju Q ⟨i6E c t7 chs 0, i6T en S.outs (some S.outs.length) on S⟩ := by
  by_cases hne : chs.l = []
  · have hh := h0t hne
    refine I1 fun K hK => ?_
    have hl0 : chs.l.length = 0 := by rw [hne]; rfl
    simp [i6E, i6T, i3H, Z8, hl0] at hh ⊢
    simpa [i6E, i6T, i3H, Z8] using hh
  · have h0 := h0 hne
    have hlen : 0 < chs.l.length := List.length_pos_iff.2 hne
    have step := fun S hs h1 h2 => qHf (Γ := Γ) (Q := Q) c t7 chs hcl en R h0 (chs.l.length - 1) 1 S (by omega) hs h1 h2
    refine I1 fun K hK => ?_
    have hdr : chs.l = chs.l[0] :: chs.l.drop 1 := by
      have := List.drop_eq_getElem_cons hlen
      simpa using this
    rw [hdr] at hk hR
    have e := Bc (f := Aw) ⟨[], none, none⟩ hlen
    have e2 : chs.l[0]?.getD ⟨[], none, none⟩ = chs.l[0] := by simp [hlen]
    rw [e2] at e
    generalize chs.l[0] = s at *
    obtain ⟨h1, h5⟩ := hk
    simp only [q8P] at hR
    have ih := step (K0 0 s S) (by simp [K0, hic]) h5 hR
    have e' : ∀ h : 0 < (Ae Aw chs.l).length, (Ae Aw chs.l)[0] = [Aw s] := fun h => by rw [← e]; simp [h]
    have hz := h1.z
    have hso : q0s s := ⟨fun h => absurd h h1.nl, fun _ => h1.ne, h1.len⟩
    have c1 := q3o (Γ := Γ) s hso
    rw [if_neg h1.nl] at c1
    have c2 := Lr (Γ := Γ) (Ao s.l) none none Aa
    have c3 := q7H (Γ := Γ) 0 h1.i100
    have z1 := hz.nodes
    have z2 := hz.names
    have c4 := qKj (Γ := Γ) S.names S.nodes S.names S.outs (some S.outs.length) on H5 (siN 0) (by omega) (by omega) h1.nm qFB
    have tk1 : (Ae Aw S.cl).take S.cl.length = Ae Aw S.cl := Bf
    have q1 : Ae Aw S.cl ++ [[.sl (Ao s.l) (some s.l.length) none]] = Ae Aw (S.cl ++ [⟨s.l, some s.l.length, none⟩]) := By (f := Aw) (x := ⟨s.l, some s.l.length, none⟩)
    have hlen' : chs.l.length ≠ 0 := by omega
    simp only [Aw] at c1 e e' q1
    simp [i6E, i6T, i3H, r11, r46, hlen, A0, Aa, e, e']
    refine A6 c1 rfl ?_
    simp
    refine A8 c2 rfl ?_
    simp [A0, Aa, tk1, q1, q9i, Z8]
    have hcl2 : S.cl.length ≤ 2147483647 := by have := hz.cl; omega
    refine ⟨hcl2, ?_⟩
    refine A6 c3 rfl ?_
    simp [tS, sV, qET, List.idxOf_cons]
    have hil : 2 + (Tv 0).length ≤ 9223372036854775807 := by unfold Tv; split <;> simp
    refine ⟨hil, ?_⟩
    simp [C4, H5, Aw, Dh, tS, sV, siN] at c4
    have g3 := fun Q r11 r44 r46 r78 r90 r157 rN rM h0 => qHc (Γ := Γ) (Q := Q) (.ip (tC c) 0) t7 (.sl (Ae Aw chs.l) chs.cap chs.nl) (tI chs.l.length) (tI 0) r11 r44 r46 r78 r90 r157 rN rM s.l h1.len s.cap s.nl h1.nd _ _ h0 s.l.length 0 S.nodes.length S.bef (by omega) h1.key rfl rfl
    simp [i3E, i3H, Z8] at g3
    have q2 : Ao S.ins ++ [[tI S.nodes.length]] = Ao (S.ins ++ [(S.nodes.length : Int)]) := By
    have tk2 : (Ao S.ins).take S.cl.length = Ao S.ins := by rw [← hic]; exact Bf
    have q3 : Ao S.outs ++ [[tI (U2 S.nodes.length s.l)]] = Ao (S.outs ++ [U2 S.nodes.length s.l]) := By
    have tk3 : (Ao S.outs).take S.outs.length = Ao S.outs := Bf
    refine ⟨_, _, c4, ?_⟩
    simp [List.idxOf_cons, q14, q9i, hcl2, tk2, q2, A0]
    refine g3 _ _ _ _ _ _ _ _ _ ?_
    simp [q9i, tk3, q3, A0, Aa]
    refine ⟨by have := hz.outs; omega, ?_⟩
    rw [A7 (by omega) (by omega), hK]
    simpa [i6E, i6R, i3G, r11, r46, Z8, K0, q1d, H5, siN, hic, Aw] using ih
end Go.Lg
