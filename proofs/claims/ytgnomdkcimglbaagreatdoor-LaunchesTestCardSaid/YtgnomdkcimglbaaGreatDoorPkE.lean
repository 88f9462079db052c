/- A circuit whose gates read earlier nodes has levels. Conditions: none. -/
import Derived.Test.YtgnomdkcimglbaaGreatDoorPkD
import Derived.Test.YtgnomdkcimglbaaGreatDoorPkC
import Derived.Test.YtgnomdkcimglbaaGreatDoorProg
import Derived.KernelRfl
set_option linter.unusedSimpArgs false
set_option linter.unusedVariables false
set_option maxRecDepth 100000
namespace Go.Lg
open Go Go.Proofs
def Rz (i : Nat) (r : M6) : Nat := r.countP fun p => decide (p.1 = (i : Int))
theorem qEw {i : Nat} {r q : M6} : Rz i (r ++ q) = Rz i r + Rz i q := by simp [Rz]
theorem qCF {rows : List M6} {n m i : Nat} {p : Int × Int} (hn : n < rows.length) : Rz i ((H9 rows n p).getD m []) = Rz i (rows.getD m []) + if m = n ∧ p.1 = (i : Int) then 1 else 0 := by
  unfold H9
  simp only [List.getD_eq_getElem?_getD, List.getElem?_set]
  by_cases h : n = m
  · subst h
    simp only [hn, if_true, Option.getD_some, qEw, true_and]
    congr 1
    by_cases h2 : p.1 = (i : Int) <;> simp [Rz, h2]
  · have h' : ¬ m = n := fun e => h e.symm
    simp [h, h']
theorem q6C (c : B9) (j i m : Nat) : ∀ (l : List Int) (k : Nat) (rows : List M6), rows.length = c.nodes.l.length → (∀ p ∈ l, 0 ≤ p ∧ p < c.nodes.l.length) → (Jk c j l k rows).length = c.nodes.l.length ∧ Rz i ((Jk c j l k rows).getD m []) = Rz i (rows.getD m []) + if j = i then l.count (m : Int) else 0
  | [], k, rows, hl, _ => ⟨hl, by simp [Jk]⟩
  | n :: l, k, rows, hl, hp => by
    have hn := hp n List.mem_cons_self
    have ho : Qp c n = false := by simp [Qp]; omega
    simp only [Jk, ho, Bool.false_eq_true, if_false]
    obtain ⟨h1, h2⟩ := q6C c j i m l (k + 1) (H9 rows n.toNat (j, k)) (by rw [q3w]; exact hl) (fun p h => hp p (List.mem_cons_of_mem _ h))
    refine ⟨h1, ?_⟩
    rw [h2, qCF (by omega)]
    by_cases hji : j = i
    · subst hji
      simp only [and_true, if_true, List.count_cons]
      by_cases hm : (m : Int) = n
      · have h5 : m = n.toNat := by omega
        have h6 : (n == (m : Int)) = true := by rw [hm]; simp
        rw [if_pos h5, h6]
        simp only [if_true]; omega
      · have h5 : ¬ m = n.toNat := by omega
        have h6 : (n == (m : Int)) = false := by simp; omega
        rw [if_neg h5, h6]
        simp only [Bool.false_eq_true, if_false]; omega
    · have : ¬ ((j : Int) = i) := by omega
      simp [hji, this]
theorem q4l (c : B9) (i m : Nat) : ∀ (l : List Nd) (s : Nat) (rows : List M6), rows.length = c.nodes.l.length → (∀ x ∈ l, ∀ p ∈ x.inn.l, 0 ≤ p ∧ p < c.nodes.l.length) →
    Rz i ((G5 c l s rows).getD m []) = Rz i (rows.getD m []) + if s ≤ i then ((l.map fun x => x.inn.l.count (m : Int)).getD (i - s) 0) else 0
  | [], s, rows, hl, _ => by simp [G5]
  | x :: l, s, rows, hl, hp => by
    obtain ⟨h1, h2⟩ := q6C c s i m x.inn.l 0 rows hl (hp x List.mem_cons_self)
    simp only [G5]
    rw [q4l c i m l (s + 1) _ h1 (fun y hy => hp y (List.mem_cons_of_mem _ hy)), h2]
    by_cases hsi : s = i
    · subst hsi
      have : ¬ s + 1 ≤ s := by omega
      simp [this]
    · by_cases hlt : s ≤ i
      · have e : i - s = (i - (s + 1)) + 1 := by omega
        have h3 : s + 1 ≤ i := by omega
        simp [hsi, hlt, h3, e]
      · have h3 : ¬ s + 1 ≤ i := by omega
        simp [hsi, hlt, h3]
def Gt (c : B9) (i : Nat) : List Int := (c.nodes.l.getD i Nd.d).inn.l
theorem q5Y (c : B9) (hp : ∀ x ∈ c.nodes.l, ∀ p ∈ x.inn.l, 0 ≤ p ∧ p < c.nodes.l.length) (i m : Nat) (hi : i < c.nodes.l.length) : Rz i (Fo c m) = (Gt c i).count (m : Int) := by
  unfold Fo Ee
  rw [q4l c i m c.nodes.l 0 _ (by simp) hp]
  have h0 : Rz i ((List.replicate c.nodes.l.length ([] : M6)).getD m []) = 0 := by
    simp only [List.getD_eq_getElem?_getD, List.getElem?_replicate]
    split <;> rfl
  rw [h0]
  simp [Gt, hi]
theorem qCt (c : B9) {i : Nat} (hi : i < c.nodes.l.length) : (c.nodes.l.map Df).getD i 0 = if Fj (B7 c i) then ((Gt c i).length : Int) else 0 := by
  simp [B7, Gt, Df, hi]
theorem q5Z {N M : Nat} {c : B9} {n : Nat} : ∀ {r : M6} {s : LS}, s.left.length = N → (∀ p ∈ r, ∃ i : Nat, i < N ∧ p.1 = i) → (∀ i : Nat, i < N → s.left.getD i 0 ≤ 0 → (i : Int) ∈ s.rdy) →
    (∃ e, (r.foldl (Dp c n) s).rdy = s.rdy ++ e) ∧ (r.foldl (Dp c n) s).left.length = N ∧ (∀ i : Nat, i < N → (r.foldl (Dp c n) s).left.getD i 0 = s.left.getD i 0 - if Fj (B7 c i) then (Rz i r : Int) else 0) ∧ (∀ i : Nat, i < N → (r.foldl (Dp c n) s).left.getD i 0 ≤ 0 → (i : Int) ∈ (r.foldl (Dp c n) s).rdy)
  | [], s, hl, _, hb => ⟨⟨[], by simp⟩, hl, fun i hi => by simp [Rz], hb⟩
  | (p1, p2) :: r, s, hl, hr, hb => by
    obtain ⟨j, hj, he⟩ := hr (p1, p2) List.mem_cons_self
    simp only at he; subst he
    have key : (∃ e, (Dp c n s (j, p2)).rdy = s.rdy ++ e) ∧ (Dp c n s (j, p2)).left.length = N ∧ (∀ i : Nat, i < N → (Dp c n s (j, p2)).left.getD i 0 = s.left.getD i 0 - if Fj (B7 c i) then (if j = i then 1 else 0 : Int) else 0) ∧ (∀ i : Nat, i < N → (Dp c n s (j, p2)).left.getD i 0 ≤ 0 → (i : Int) ∈ (Dp c n s (j, p2)).rdy) := by
      unfold Dp
      simp only [Int.toNat_natCast]
      by_cases hc : Fj (B7 c j) = true
      · simp only [hc, if_true]
        refine ⟨?_, by simp [hl], fun i hi => ?_, fun i hi h0 => ?_⟩
        · split
          · exact ⟨_, rfl⟩
          · exact ⟨[], by simp⟩
        · rw [Me (by omega)]
          by_cases hij : i = j
          · subst hij; simp [hc]
          · have : ¬ j = i := fun e => hij e.symm
            simp [hij, this]
        · rw [Me (by omega)] at h0
          by_cases hij : i = j
          · subst hij
            simp only [if_true] at h0
            by_cases h1 : s.left.getD i 0 - 1 = 0
            · rw [if_pos h1]; simp
            · rw [if_neg h1]
              exact hb i hi (by omega)
          · simp only [hij, if_false] at h0
            have := hb i hi h0
            split
            · exact List.mem_append_left _ this
            · exact this
      · simp only [hc]
        refine ⟨⟨[], by simp⟩, hl, fun i hi => ?_, hb⟩
        by_cases hij : j = i
        · subst hij; simp [hc]
        · simp [hij]
    obtain ⟨⟨e1, h1⟩, h2, h3, h4⟩ := key
    obtain ⟨⟨e2, g1⟩, g2, g3, g4⟩ := q5Z (M := M) (n := n) (r := r) h2 (fun q hq => hr q (List.mem_cons_of_mem _ hq)) h4
    simp only [List.foldl_cons]
    refine ⟨⟨e1 ++ e2, by rw [g1, h1, List.append_assoc]⟩, g2, fun i hi => ?_, g4⟩
    rw [g3 i hi, h3 i hi]
    by_cases hc : Fj (B7 c i) = true
    · simp only [hc, if_true]
      have : Rz i ((↑j, p2) :: r) = Rz i r + if j = i then 1 else 0 := by
        by_cases hij : j = i
        · subst hij; simp [Rz]
        · have : ¬ ((j : Int) = i) := by omega
          simp [Rz, hij, this]
      rw [this]
      split <;> omega
    · simp [hc]
structure JI (c : B9) (d : Nat) (s : LS) : Prop where
  li : ∃ M, LI c.nodes.l.length M s
  le : d ≤ s.rdy.length
  a : ∀ i : Nat, i < c.nodes.l.length → s.left.getD i 0 = (c.nodes.l.map Df).getD i 0 - if Fj (B7 c i) then (((s.rdy.take d).map fun x => (Gt c i).count x).sum : Int) else 0
  b : ∀ i : Nat, i < c.nodes.l.length → s.left.getD i 0 ≤ 0 → (i : Int) ∈ s.rdy
theorem JI.next {c : B9} (hp : ∀ x ∈ c.nodes.l, ∀ p ∈ x.inn.l, 0 ≤ p ∧ p < c.nodes.l.length) {d : Nat} {s : LS} (h : JI c d s) (hd : d < s.rdy.length) : JI c (d + 1) ((Fo c (s.rdy.getD d 0).toNat).foldl (Dp c (s.rdy.getD d 0).toNat) s) := by
  obtain ⟨M, hli⟩ := h.li
  have hg : s.rdy.getD d 0 = s.rdy[d] := by simp [hd]
  rw [hg]
  obtain ⟨n, hn, he, _⟩ := hli.rd _ (List.getElem_mem hd)
  rw [he]
  simp only [Int.toNat_natCast]
  have hr : ∀ p ∈ Fo c n, ∃ i : Nat, i < c.nodes.l.length ∧ p.1 = i := by
    intro p hpp
    have hl := Y6 c
    have e : Fo c n = (Ee c)[n]'(by omega) := by simp [Fo, List.getD, List.getElem?_eq_getElem (show n < (Ee c).length by omega)]
    rw [e] at hpp
    exact q3y c _ (List.getElem_mem _) p hpp
  obtain ⟨⟨e, h1⟩, h2, h3, h4⟩ := q5Z (M := M) (c := c) (n := n) (r := Fo c n) hli.ll hr h.b
  refine ⟨⟨_, hli.fold hr⟩, by rw [h1]; simp; omega, fun i hi => ?_, h4⟩
  rw [h3 i hi, h.a i hi, h1]
  by_cases hc : Fj (B7 c i) = true
  · simp only [hc, if_true]
    have ht : (s.rdy ++ e).take (d + 1) = s.rdy.take d ++ [(n : Int)] := by
      rw [List.take_append_of_le_length (by omega), List.take_add_one, List.getElem?_eq_getElem hd, he]
      rfl
    rw [ht, q5Y c hp i n hi]
    simp
    omega
  · simp [hc]
theorem q7f {c : B9} (hp : ∀ x ∈ c.nodes.l, ∀ p ∈ x.inn.l, 0 ≤ p ∧ p < c.nodes.l.length) : ∀ (f d : Nat) (s : LS), JI c d s → c.nodes.l.length < f + d → JI c (Ld c f d s).1 (Ld c f d s).2 ∧ (Ld c f d s).2.rdy.length ≤ (Ld c f d s).1
  | 0, d, s, h, hf => by
    obtain ⟨M, hli⟩ := h.li
    have := hli.len
    exact ⟨h, by simp only [Ld]; omega⟩
  | f + 1, d, s, h, hf => by
    simp only [Ld]
    split
    · rename_i hd
      exact q7f hp f (d + 1) _ (h.next hp hd) (by omega)
    · exact ⟨h, by simp only; omega⟩
theorem q94 : ∀ (L R : List Int), (∀ p ∈ L, p ∈ R) → L.length ≤ (R.map fun x => L.count x).sum
  | [], R, _ => by simp
  | p :: L, R, h => by
    have ih := q94 L R fun q hq => h q (List.mem_cons_of_mem _ hq)
    have hpR := h p List.mem_cons_self
    have key : ∀ R : List Int, (R.map fun x => (p :: L).count x).sum = (R.map fun x => L.count x).sum + R.count p := by
      intro R
      induction R with
      | nil => rfl
      | cons a R ihR =>
        simp only [List.map_cons, List.sum_cons]
        rw [ihR, List.count_cons, List.count_cons]
        by_cases hpa : p = a
        · subst hpa; simp only [BEq.rfl, if_true]; omega
        · have h1 : (p == a) = false := by simpa using hpa
          have h2 : (a == p) = false := by simpa using fun e => hpa e.symm
          rw [h1, h2]; simp only [Bool.false_eq_true, if_false]; omega
    rw [key]
    have := List.count_pos_iff.2 hpR
    simp only [List.length_cons]; omega
theorem q28 : ∀ (l : List Nd) (s i : Nat), s ≤ i → i < s + l.length → (l.map Df).getD (i - s) 0 ≤ 0 → (i : Int) ∈ Dh l s
  | [], s, i, h1, h2, _ => by simp at h2; omega
  | x :: l, s, i, h1, h2, h3 => by
    simp only [List.length_cons] at h2
    by_cases hsi : i = s
    · subst hsi
      simp only [Nat.sub_self, List.map_cons, List.getD_cons_zero] at h3
      have h4 : 0 ≤ Df x := by unfold Df; split <;> omega
      have h5 : Df x = 0 := by omega
      simp [Dh, h5]
    · have e : i - s = (i - (s + 1)) + 1 := by omega
      rw [e, List.map_cons, List.getD_cons_succ] at h3
      have := q28 l (s + 1) i (by omega) (by omega) h3
      simp only [Dh]
      split
      · exact List.mem_cons_of_mem _ this
      · exact this
theorem qAr (c : B9) (h16 : ∀ x ∈ c.nodes.l, x.inn.l.length ≤ 16) (hp : ∀ x ∈ c.nodes.l, ∀ p ∈ x.inn.l, 0 ≤ p ∧ p < c.nodes.l.length) (ht : ∀ i : Nat, i < c.nodes.l.length → Fj (B7 c i) = true → ∀ p ∈ Gt c i, p < i) : ¬ (Nw c).1 < c.nodes.l.length := by
  have h0 : JI c 0 (Ha c) := by
    refine ⟨⟨0, ?_⟩, by simp, fun i hi => ?_, fun i hi h => ?_⟩
    · obtain ⟨r1, r2⟩ := q3z c.nodes.l 0
      refine ⟨by simp [Ha], by simp [Ha], ?_, r2, fun i => ?_, fun i => ?_⟩
      · intro j hj
        obtain ⟨a, _, h2, h3, h4⟩ := r1 j hj
        exact ⟨a, by omega, h3, by simp only [Ha]; simp only [Nat.sub_zero] at h4; omega⟩
      · simp only [Ha, List.getD_eq_getElem?_getD, List.getElem?_replicate]
        split <;> simp
      · simp only [Ha]
        by_cases hi : i < c.nodes.l.length
        · have := h16 _ (List.getElem_mem hi)
          simp [hi, Df]
          split <;> omega
        · simp [hi]
    · simp [Ha]
    · simp only [Ha] at h
      exact q28 c.nodes.l 0 i (by omega) (by omega) (by simpa using h)
  obtain ⟨hJ, hle⟩ := q7f hp (c.nodes.l.length + 1) 0 (Ha c) h0 (by omega)
  show ¬ (Ld c (c.nodes.l.length + 1) 0 (Ha c)).1 < c.nodes.l.length
  generalize (Ld c (c.nodes.l.length + 1) 0 (Ha c)).1 = d at *
  generalize (Ld c (c.nodes.l.length + 1) 0 (Ha c)).2 = s at *
  have all : ∀ i : Nat, i < c.nodes.l.length → (i : Int) ∈ s.rdy := by
    intro i
    induction i using Nat.strongRecOn with
    | ind i ih =>
      intro hi
      refine hJ.b i hi ?_
      rw [hJ.a i hi, qCt c hi]
      by_cases hc : Fj (B7 c i) = true
      · simp only [hc, if_true]
        rw [List.take_of_length_le hle]
        have hm : Gt c i ∈ c.nodes.l.map fun x => x.inn.l := by
          simp only [Gt, List.getD_eq_getElem?_getD, List.getElem?_eq_getElem hi, Option.getD_some]
          exact List.mem_map_of_mem (List.getElem_mem hi)
        obtain ⟨y, hy, hye⟩ := List.mem_map.1 hm
        have := q94 (Gt c i) s.rdy fun p hpp => by
          have h1 := ht i hi hc p hpp
          have h2 := (hp y hy p (by rw [hye]; exact hpp)).1
          obtain ⟨j, rfl⟩ : ∃ j : Nat, p = j := ⟨p.toNat, by omega⟩
          exact ih j (by omega) (by omega)
        omega
      · simp [hc]
  have hnd : ((List.range c.nodes.l.length).map fun i : Nat => (i : Int)).Nodup := by
    rw [List.nodup_iff_pairwise_ne, List.pairwise_map]
    exact (List.nodup_iff_pairwise_ne.1 List.nodup_range).imp fun h e => h (by omega)
  have hsub : ((List.range c.nodes.l.length).map fun i : Nat => (i : Int)) ⊆ s.rdy := by
    intro x hx
    obtain ⟨i, hi, rfl⟩ := List.mem_map.1 hx
    exact all i (List.mem_range.1 hi)
  have := List.Nodup.length_le_of_subset hnd hsub
  simp at this
  omega
theorem q29 (p : Int) (L : List Int) : ∀ R : List Int, (R.map fun x => (p :: L).count x).sum = (R.map fun x => L.count x).sum + R.count p
  | [] => rfl
  | a :: R => by
    simp only [List.map_cons, List.sum_cons]
    rw [q29 p L R, List.count_cons, List.count_cons]
    by_cases hpa : p = a
    · subst hpa; simp only [BEq.rfl, if_true]; omega
    · have h1 : (p == a) = false := by simpa using hpa
      have h2 : (a == p) = false := by simpa using fun e => hpa e.symm
      rw [h1, h2]; simp only [Bool.false_eq_true, if_false]; omega
theorem q4m : ∀ (L R : List Int), R.Nodup → (R.map fun x => L.count x).sum ≤ L.length
  | [], R, _ => by
    have : ∀ R : List Int, (R.map fun x => ([] : List Int).count x).sum = 0 := by
      intro R
      induction R with
      | nil => rfl
      | cons a R ih => rw [List.map_cons, List.sum_cons, ih, List.count_nil]
    rw [this]; omega
  | p :: L, R, h => by
    have ih := q4m L R h
    have h1 := List.nodup_iff_count.1 h p
    rw [q29]
    simp only [List.length_cons]; omega
theorem qEx {N n : Nat} {c : B9} : ∀ {r : M6} {s : LS}, s.out.length = N → s.left.length = N → (∀ p ∈ r, ∃ i : Nat, i < N ∧ p.1 = i) → (∀ i : Nat, i < N → Fj (B7 c i) = true → (Rz i r : Int) ≤ s.left.getD i 0) → s.left.getD n 0 ≤ 0 →
    (∀ i : Nat, i < N → s.left.getD i 0 ≤ 0 → (r.foldl (Dp c n) s).out.getD i 0 = s.out.getD i 0) ∧ (∀ i : Nat, i < N → s.out.getD i 0 ≤ (r.foldl (Dp c n) s).out.getD i 0) ∧ (∀ i : Nat, i < N → Fj (B7 c i) = true → 0 < Rz i r → s.out.getD n 0 + 1 ≤ (r.foldl (Dp c n) s).out.getD i 0)
  | [], s, ho, hl, _, _, _ => ⟨fun _ _ _ => rfl, fun _ _ => Int.le_refl _, fun i _ _ h => by simp [Rz] at h⟩
  | (p1, p2) :: r, s, ho, hl, hr, hc, hn => by
    obtain ⟨j, hj, he⟩ := hr (p1, p2) List.mem_cons_self
    simp only at he; subst he
    have cnt : ∀ i : Nat, Rz i ((↑j, p2) :: r) = Rz i r + if j = i then 1 else 0 := fun i => by
      by_cases hij : j = i
      · subst hij; simp [Rz]
      · have : ¬ ((j : Int) = i) := by omega
        simp [Rz, hij, this]
    simp only [List.foldl_cons]
    by_cases hcj : Fj (B7 c j) = true
    case neg =>
      have hs : Dp c n s (↑j, p2) = s := by unfold Dp; simp [hcj]
      rw [hs]
      obtain ⟨a1, a2, a3⟩ := qEx (n := n) (c := c) (r := r) ho hl (fun p hp => hr p (List.mem_cons_of_mem _ hp)) (fun i hi hci => by have := hc i hi hci; rw [cnt] at this; omega) hn
      refine ⟨a1, a2, fun i hi hci h => a3 i hi hci ?_⟩
      rw [cnt] at h
      have : ¬ j = i := fun e => hcj (e ▸ hci)
      simpa [this] using h
    have hj1 := hc j hj hcj
    rw [cnt, if_pos rfl] at hj1
    have hnj : ¬ n = j := fun e => by subst e; omega
    have so : ∀ i : Nat, (Dp c n s (↑j, p2)).out.getD i 0 = if i = j then max (s.out.getD j 0) (s.out.getD n 0 + 1) else s.out.getD i 0 := fun i => by
      unfold Dp
      simp only [Int.toNat_natCast, hcj, if_true]
      rw [Me (by omega)]
    have sl : ∀ i : Nat, (Dp c n s (↑j, p2)).left.getD i 0 = if i = j then s.left.getD j 0 - 1 else s.left.getD i 0 := fun i => by
      unfold Dp
      simp only [Int.toNat_natCast, hcj, if_true]
      rw [Me (by omega)]
    have lo : (Dp c n s (↑j, p2)).out.length = N := by unfold Dp; simp [hcj, ho]
    have ll : (Dp c n s (↑j, p2)).left.length = N := by unfold Dp; simp [hcj, hl]
    obtain ⟨a1, a2, a3⟩ := qEx (n := n) (c := c) (r := r) lo ll (fun p hp => hr p (List.mem_cons_of_mem _ hp)) (fun i hi hci => by
      have := hc i hi hci
      rw [cnt] at this
      rw [sl]
      by_cases hij : i = j
      · subst hij; simp only [if_true] at this ⊢; omega
      · have h' : ¬ j = i := fun e => hij e.symm
        simp only [hij, h', if_false] at this ⊢; omega) (by rw [sl, if_neg hnj]; exact hn)
    refine ⟨fun i hi h0 => ?_, fun i hi => ?_, fun i hi hci h => ?_⟩
    · have hij : ¬ i = j := fun e => by subst e; omega
      rw [a1 i hi (by rw [sl, if_neg hij]; exact h0), so, if_neg hij]
    · have := a2 i hi
      rw [so] at this
      split at this
      · rename_i e; subst e; omega
      · exact this
    · by_cases hij : i = j
      · subst hij
        have := a2 i hi
        rw [so, if_pos rfl] at this
        omega
      · have h' : ¬ j = i := fun e => hij e.symm
        rw [cnt, if_neg h'] at h
        have := a3 i hi hci (by omega)
        rw [so, if_neg hnj] at this
        exact this
def KI (c : B9) (d : Nat) (s : LS) : Prop := ∀ i : Nat, i < c.nodes.l.length → Fj (B7 c i) = true → ∀ q : Nat, (q : Int) ∈ Gt c i → (q : Int) ∈ s.rdy.take d → s.out.getD q 0 + 1 ≤ s.out.getD i 0
theorem KI.next {c : B9} (hp : ∀ x ∈ c.nodes.l, ∀ p ∈ x.inn.l, 0 ≤ p ∧ p < c.nodes.l.length) {d : Nat} {s : LS} (h : JI c d s) (hk : KI c d s) (hd : d < s.rdy.length) : KI c (d + 1) ((Fo c (s.rdy.getD d 0).toNat).foldl (Dp c (s.rdy.getD d 0).toNat) s) := by
  obtain ⟨M, hli⟩ := h.li
  have hg : s.rdy.getD d 0 = s.rdy[d] := by simp [hd]
  rw [hg]
  obtain ⟨n, hn, he, hn0⟩ := hli.rd _ (List.getElem_mem hd)
  rw [he]
  simp only [Int.toNat_natCast]
  have hr : ∀ p ∈ Fo c n, ∃ i : Nat, i < c.nodes.l.length ∧ p.1 = i := by
    intro p hpp
    have hl := Y6 c
    have e : Fo c n = (Ee c)[n]'(by omega) := by simp [Fo, List.getD, List.getElem?_eq_getElem (show n < (Ee c).length by omega)]
    rw [e] at hpp
    exact q3y c _ (List.getElem_mem _) p hpp
  have htk : s.rdy.take (d + 1) = s.rdy.take d ++ [(n : Int)] := by
    rw [List.take_add_one, List.getElem?_eq_getElem hd, he]; rfl
  have hnd : (s.rdy.take (d + 1)).Nodup := hli.nd.sublist (List.take_sublist _ _)
  have hcnt : ∀ i : Nat, i < c.nodes.l.length → Fj (B7 c i) = true → (Rz i (Fo c n) : Int) ≤ s.left.getD i 0 := by
    intro i hi hci
    have := q4m (Gt c i) _ hnd
    rw [htk] at this
    simp only [List.map_append, List.sum_append, List.map_cons, List.map_nil, List.sum_cons, List.sum_nil] at this
    rw [h.a i hi, qCt c hi, q5Y c hp i n hi]
    simp only [hci, if_true]
    omega
  obtain ⟨⟨e, h1⟩, _, _, _⟩ := q5Z (M := M) (c := c) (n := n) (r := Fo c n) hli.ll hr h.b
  obtain ⟨a1, a2, a3⟩ := qEx (n := n) (c := c) hli.lo hli.ll hr hcnt hn0
  intro i hi hci q hq hqt
  rw [h1, List.take_append_of_le_length (by omega), htk] at hqt
  rcases List.mem_append.1 hqt with hqt | hqt
  · obtain ⟨q', hq1, hq2, hq3⟩ := hli.rd _ (List.mem_of_mem_take hqt)
    have : q = q' := by omega
    subst this
    rw [a1 q hq1 hq3]
    have h4 := hk i hi hci q hq hqt
    have h5 := a2 i hi
    omega
  · have : q = n := by simp at hqt; omega
    subst this
    rw [a1 q hn hn0]
    refine a3 i hi hci ?_
    rw [q5Y c hp i q hi]
    exact List.count_pos_iff.2 hq
theorem qCu {c : B9} (hp : ∀ x ∈ c.nodes.l, ∀ p ∈ x.inn.l, 0 ≤ p ∧ p < c.nodes.l.length) : ∀ (f d : Nat) (s : LS), JI c d s → KI c d s → KI c (Ld c f d s).1 (Ld c f d s).2
  | 0, d, s, _, hk => hk
  | f + 1, d, s, h, hk => by
    simp only [Ld]
    split
    · rename_i hd
      exact qCu hp f (d + 1) _ (h.next hp hd) (hk.next hp h hd)
    · exact hk
theorem qGS (c : B9) (h16 : ∀ x ∈ c.nodes.l, x.inn.l.length ≤ 16) : JI c 0 (Ha c) := by
  refine ⟨⟨0, qAm c h16⟩, by simp, fun i hi => ?_, fun i hi h => ?_⟩
  · simp [Ha]
  · simp only [Ha] at h
    exact q28 c.nodes.l 0 i (by omega) (by omega) (by simpa using h)
theorem qAs {c : B9} (h : E2 c = 0) : ∀ x ∈ c.nodes.l, ∀ p ∈ x.inn.l, 0 ≤ p ∧ p < c.nodes.l.length := by
  intro x hx
  have h4 := (Ot h).2.2.1 x hx
  unfold Dn at h4
  split at h4
  · cases h4
  split at h4
  · cases h4
  split at h4
  · cases h4
  rename_i h6
  exact q6s (by simpa using h6)
def R9 (c : B9) (i : Nat) : Int := (Nw c).2.out.getD i 0
theorem q2A {c : B9} (h : Do c = 0) : E2 c = 0 ∧ ¬ (Nw c).1 < c.nodes.l.length := by
  unfold Do at h
  split at h
  · rename_i h1; exact absurd h h1
  split at h
  · cases h
  · rename_i h1 h2; exact ⟨by simpa using h1, h2⟩
theorem qI8 {c : B9} (h : Do c = 0) : (Nw c).2.out.length = c.nodes.l.length ∧ (∀ i, 0 ≤ R9 c i) ∧ ∀ i : Nat, i < c.nodes.l.length → Fj (B7 c i) = true → ∀ p ∈ Gt c i, (0 ≤ p ∧ p < c.nodes.l.length) ∧ R9 c p.toNat < R9 c i := by
  obtain ⟨hs, hd⟩ := q2A h
  have hp := qAs hs
  have h16 := (Ot hs).2.1
  have h0 := qGS c h16
  obtain ⟨hJ, hle⟩ := q7f hp (c.nodes.l.length + 1) 0 (Ha c) h0 (by omega)
  have hK := qCu hp (c.nodes.l.length + 1) 0 (Ha c) h0 (fun i _ _ q _ hq => by simp at hq)
  obtain ⟨M, hli⟩ := hJ.li
  refine ⟨hli.lo, fun i => (hli.bo i).1, fun i hi hc p hpi => ?_⟩
  have hin : 0 ≤ p ∧ p < c.nodes.l.length := by
    simp only [Gt, List.getD_eq_getElem?_getD, List.getElem?_eq_getElem hi, Option.getD_some] at hpi
    exact hp _ (List.getElem_mem hi) p hpi
  refine ⟨hin, ?_⟩
  have hpe : p = (p.toNat : Int) := by omega
  have hall : p ∈ (Nw c).2.rdy.take (Nw c).1 := by
    have hle' : (Nw c).2.rdy.length ≤ (Nw c).1 := hle
    rw [List.take_of_length_le hle']
    by_cases hm : p ∈ (Nw c).2.rdy
    · exact hm
    exfalso
    have := q8y (N := c.nodes.l.length) (List.nodup_cons.2 ⟨hm, hli.nd⟩) fun j hj => by
      rcases List.mem_cons.1 hj with rfl | hj
      · exact ⟨j.toNat, by omega, by omega⟩
      · obtain ⟨i, h1, h2, _⟩ := hli.rd j hj; exact ⟨i, h1, h2⟩
    have h3 := hJ.le
    simp only [List.length_cons] at this
    have : (Nw c).1 ≤ (Nw c).2.rdy.length := h3
    have : (Ld c (c.nodes.l.length + 1) 0 (Ha c)).2 = (Nw c).2 := rfl
    simp only [this] at *
    omega
  have := hK i hi hc p.toNat (by rw [← hpe]; exact hpi) (by rw [← hpe]; exact hall)
  show (Nw c).2.out.getD p.toNat 0 < (Nw c).2.out.getD i 0
  have e : (Ld c (c.nodes.l.length + 1) 0 (Ha c)).2 = (Nw c).2 := rfl
  rw [e] at this
  omega
def q7g (lt : Int → Int → Bool) : Nat → List Int → List Int
  | 0, l => l
  | j + 1, l => if lt (l.getD (j + 1) 0) (l.getD j 0) then q7g lt j (Uu l (j + 1) j) else l
def q2B (lt : Int → Int → Bool) : Nat → Nat → List Int → List Int
  | 0, _, l => l
  | f + 1, i, l => q2B lt f (i + 1) (q7g lt i l)
theorem q2v {lt : Int → Int → Bool} : ∀ {j : Nat} {l : List Int}, j < l.length → (q7g lt j l).Perm l
  | 0, l, _ => List.Perm.refl l
  | j + 1, l, h => by
    simp only [q7g]
    split
    · exact (q2v (by rw [Zs]; omega)).trans (q42 h (by omega))
    · exact List.Perm.refl l
def q4n (key : Int → Int) (l : List Int) (n : Nat) : Prop := ∀ a b, a < b → b < n → key (l.getD a 0) ≤ key (l.getD b 0)
theorem q6D (key : Int → Int) (i : Nat) : ∀ (j : Nat) (l : List Int), j ≤ i → i < l.length → (∀ a b, a < b → b ≤ i → a ≠ j → b ≠ j → key (l.getD a 0) ≤ key (l.getD b 0)) → (∀ b, j < b → b ≤ i → key (l.getD j 0) ≤ key (l.getD b 0)) →
    q4n key (q7g (fun a b => decide (key a < key b)) j l) (i + 1)
  | 0, l, hj, hi, h1, h2 => by
    intro a b hab hb
    simp only [q7g]
    by_cases ha : a = 0
    · subst ha; exact h2 b hab (by omega)
    · exact h1 a b hab (by omega) ha (by omega)
  | j + 1, l, hj, hi, h1, h2 => by
    simp only [q7g]
    split
    · rename_i hlt
      have hlt' : key (l.getD (j + 1) 0) < key (l.getD j 0) := by simpa using hlt
      have g : ∀ q, q < l.length → (Uu l (j + 1) j).getD q 0 = if q = j then l.getD (j + 1) 0 else if q = j + 1 then l.getD j 0 else l.getD q 0 := fun q hq => qDk (by omega) (by omega) hq
      refine q6D key i j _ (by omega) (by rw [Zs]; exact hi) (fun a b hab hb ha hb' => ?_) (fun b hb hbi => ?_)
      · rw [g a (by omega), g b (by omega), if_neg ha, if_neg hb']
        by_cases ha1 : a = j + 1
        · rw [if_pos ha1, if_neg (by omega)]
          exact h1 j b (by omega) hb (by omega) (by omega)
        · rw [if_neg ha1]
          by_cases hb1 : b = j + 1
          · rw [if_pos hb1]
            exact h1 a j (by omega) (by omega) ha1 (by omega)
          · rw [if_neg hb1]
            exact h1 a b hab hb ha1 hb1
      · rw [g j (by omega), g b (by omega), if_pos rfl, if_neg (by omega)]
        by_cases hb1 : b = j + 1
        · rw [if_pos hb1]; omega
        · rw [if_neg hb1]
          exact h2 b (by omega) hbi
    · rename_i hlt
      have hlt' : key (l.getD j 0) ≤ key (l.getD (j + 1) 0) := by simpa using hlt
      intro a b hab hb
      by_cases ha1 : a = j + 1
      · subst ha1; exact h2 b hab (by omega)
      · by_cases hb1 : b = j + 1
        · subst hb1
          by_cases haj : a = j
          · subst haj; exact hlt'
          · have := h1 a j (by omega) (by omega) ha1 (by omega)
            omega
        · exact h1 a b hab (by omega) ha1 hb1
theorem qCv (key : Int → Int) : ∀ (f i : Nat) (l : List Int), i + f = l.length → q4n key l i → (q2B (fun a b => decide (key a < key b)) f i l).Perm l ∧ q4n key (q2B (fun a b => decide (key a < key b)) f i l) l.length
  | 0, i, l, h, hs => ⟨List.Perm.refl l, by have : i = l.length := (by omega); subst this; exact hs⟩
  | f + 1, i, l, h, hs => by
    simp only [q2B]
    have hp := q2v (lt := fun a b => decide (key a < key b)) (show i < l.length by omega)
    have hss := q6D key i i l (Nat.le_refl _) (by omega) (fun a b hab hb ha hb' => hs a b hab (by omega)) (fun b h1 h2 => by omega)
    obtain ⟨a1, a2⟩ := qCv key f (i + 1) _ (by rw [hp.length_eq]; omega) hss
    rw [hp.length_eq] at a2
    exact ⟨a1.trans hp, a2⟩
def rng (n : Nat) : List Int := (List.range n).map fun i : Nat => (i : Int)
theorem Vl {n : Nat} : (rng n).length = n := by simp [rng]
theorem q9u {n : Nat} {x : Int} : x ∈ rng n ↔ 0 ≤ x ∧ x < n := by
  simp only [rng, List.mem_map, List.mem_range]
  constructor
  · rintro ⟨i, hi, rfl⟩; omega
  · intro h; exact ⟨x.toNat, by omega, by omega⟩
def qCw (c : B9) (a b : Int) : Bool := decide (R9 c a.toNat < R9 c b.toNat)
def Ua (c : B9) : List Int := q2B (qCw c) (c.nodes.l.length - 1) 1 (rng c.nodes.l.length)
theorem q5a (c : B9) : (Ua c).Perm (rng c.nodes.l.length) ∧ q4n (fun a => R9 c a.toNat) (Ua c) c.nodes.l.length := by
  by_cases h : c.nodes.l.length = 0
  · unfold Ua
    rw [h]
    exact ⟨List.Perm.refl _, fun a b hab hb => by omega⟩
  · have := qCv (fun a => R9 c a.toNat) (c.nodes.l.length - 1) 1 (rng c.nodes.l.length) (by rw [Vl]; omega) (fun a b hab hb => by omega)
    rw [Vl] at this
    exact this
def q2C (c : B9) (nets : List Int) (i : Nat) : List Int := (Gt c i).map fun k => nets.getD k.toNat 0
def q4o (c : B9) (nets : List Int) (n : Int) : List Int := if Fj (B7 c n.toNat) then nets.set n.toNat (q4k (B7 c n.toNat) (q2C c nets n.toNat)) else nets
def qEy (c : B9) (order init : List Int) : List Int := order.foldl (q4o c) init
theorem q95 {c : B9} {nets : List Int} {n : Int} : (q4o c nets n).length = nets.length := by unfold q4o; split <;> simp
theorem qAt {c : B9} : ∀ {o nets : List Int}, (qEy c o nets).length = nets.length
  | [], nets => rfl
  | n :: o, nets => by
    show (qEy c o (q4o c nets n)).length = _
    rw [qAt, q95]
def Q5 : List Int → List Int → List Int → List Int
  | n :: ns, v :: vs, nets => Q5 ns vs (nets.set n.toNat v)
  | _, _, nets => nets
theorem q2w : ∀ {ns vs nets : List Int}, (Q5 ns vs nets).length = nets.length
  | [], vs, nets => by cases vs <;> rfl
  | _ :: _, [], nets => rfl
  | n :: ns, v :: vs, nets => by simp only [Q5]; rw [q2w]; simp
def Bi (c : B9) : List Int := Ju [0] c.nodes.l 0
def q7h (c : B9) (pin pst : List Int) : List Int := Q5 (A6 c) pst (Q5 (Bi c) pin (List.replicate c.nodes.l.length 0))
def Ox (c : B9) (pin pst : List Int) : List Int := qEy c (Ua c) (q7h c pin pst)
theorem q5b {c : B9} {pin pst : List Int} : (q7h c pin pst).length = c.nodes.l.length := by unfold q7h; rw [q2w, q2w]; simp
def q7i (k : Int) (c : B9) (i : Nat) : Nat := (Ju [k] (c.nodes.l.take i) 0).length
theorem q96 {k : Int} {c : B9} {i : Nat} (hi : i < c.nodes.l.length) (hk : B7 c i = k) : Ju [k] c.nodes.l 0 = Ju [k] (c.nodes.l.take i) 0 ++ (i : Int) :: Ju [k] (c.nodes.l.drop (i + 1)) (i + 1) := by
  have e : c.nodes.l = c.nodes.l.take i ++ c.nodes.l[i] :: c.nodes.l.drop (i + 1) := by rw [List.getElem_cons_drop, List.take_append_drop]
  have hk' : c.nodes.l[i].k = k := by simpa [B7, hi] using hk
  have hm : (c.nodes.l.take i).length = i := by rw [List.length_take]; omega
  conv => lhs; rw [e, Vi, hm]
  simp [Ju, hk']
theorem qGT {k : Int} {c : B9} {i : Nat} (hi : i < c.nodes.l.length) (hk : B7 c i = k) : q7i k c i < (Ju [k] c.nodes.l 0).length ∧ (Ju [k] c.nodes.l 0).getD (q7i k c i) 0 = i := by
  have e := q96 hi hk
  constructor
  · rw [e]; simp [q7i]
  · rw [e]; simp [q7i, List.getD_eq_getElem?_getD]
theorem X4 {k : Int} {c : B9} : ∀ n ∈ Ju [k] c.nodes.l 0, 0 ≤ n ∧ n < c.nodes.l.length ∧ B7 c n.toNat = k := by
  intro n hn
  obtain ⟨a, b, h⟩ := q25 [k] c.nodes.l 0 n hn
  refine ⟨by omega, by omega, ?_⟩
  simpa [B7] using h
theorem q9v {k : Int} {c : B9} {i : Nat} (hi : i < c.nodes.l.length) : (i : Int) ∈ Ju [k] c.nodes.l 0 ↔ B7 c i = k := by
  constructor
  · intro h
    have := (X4 _ h).2.2
    simpa using this
  · intro h
    rw [q96 hi h]
    simp
end Go.Lg
namespace Go.Lg
open Go
section
variable {P : Program} {Γ : Tables} {Q : AX → St → Prop} {s : St}
/- probecard/logic.Clean (function 127) -/
abbrev q2D : IC := (.seq (.reg [od 2 (.mv (ku 0))] [kp [0] []]) (.seq (.seq (.reg [om 3 0, od 4 (.bin .gtr (tm 3) (ku 3))] [kp [0, 4] []]) (.cond (tm 4) (.seq (.reg [od 2 (.mv (ku 2))] [kp [2] []]) .ret) .skip)) (.seq (.reg [om 5 0, om 2 5] [kp [2]
 []]) .ret)))
def q2E : List RV := [.tmp 2]
/- probecard/logic.Read (function 73) -/
abbrev q3a : IC := (.seq (.reg [od 2 (.mv (ku 0))] [kp [0] []]) (.seq (.reg [om 3 0, od 4 (.mmx false [(tm 3), (ku 2)]), om 2 4] [kp [2] []]) .ret))
def q3b : List RV := [.tmp 2]
/- probecard/logic.Known (function 152) -/
abbrev q2F : IC := (.seq (.reg [od 2 (.mv kF)] [kp [0] []]) (.seq (.reg [om 3 0, od 4 (.bin .leq (tm 3) (ku 1)), om 2 4] [kp [2] []]) .ret))
def q2G : List RV := [.tmp 2]
/- probecard/logic.Not (function 115) -/
abbrev q4p : IC := (.seq (.reg [od 2 (.mv (ku 0))] [kp [0] []]) (.seq (.seq (.reg [om 3 0, od 4 (.call 152 [(tm 3)])] [kp [0, 4] []]) (.cond (tm 4) (.seq (.reg [om 5 0, od 6 (.bin .sub (ku 1) (tm 5)), om 2 6] [kp [2] []]) .ret) .skip)) (.seq (.reg
 [od 2 (.mv (ku 2))] [kp [2] []]) .ret)))
def q0Z : List RV := [.tmp 2]
/- probecard/logic.decided (function 153) -/
abbrev Zu : IC := .gh (.seq (.reg [od 14 (.bin .lss (tm 13) (tm 12))] [kp [1, 2, 7, 11, 12, 13, 14] []]) (.seq (.cond (tm 14) .skip (.exit 0)) (.seq (.block 1 (.seq (.reg [od 15 (ia 1 11 13), od 16 (ld 1 15), om 9 16] [kp [1, 2, 7, 9, 11, 12, 13]
 []]) (.block 2 (.seq (.reg [om 18 9, om 19 1, od 20 (.bin .eql (tm 18) (tm 19)), om 17 20] [kp [1, 2, 7, 9, 11, 12, 13, 17] []]) (.cond (tm 17) (.seq (.reg [om 21 1, om 6 21] [kp [6] []]) .ret) (.seq (.reg [om 23 9, om 24 2, od 25
 (.bin .neq (tm 23) (tm 24)), om 22 25] [kp [1, 2, 7, 11, 12, 13, 22] []]) (.cond (tm 22) (.reg [od 7 (.mv (ku 2))] [kp [1, 2, 7, 11, 12, 13] []]) .skip))))))) (.reg [od 26 (.bin .add (tm 13) (ki 1)), om 13 26] [kp [1, 2, 7, 11, 12,
 13] []])))) [kp [1, 2, 7, 11, 12, 13] []]
def Kv : IC := .loop Zu
abbrev Zv : IC := (.seq (.reg [od 6 (.mv (ku 0))] [kp [0, 1, 2] []]) (.seq (.reg [om 10 2, om 7 10] [kp [0, 1, 2, 7] []]) (.seq (.seq (.reg [om 11 0, od 12 (le 0 11), od 13 (.mv (ki 0))] [kp [1, 2, 7, 11, 12, 13] []]) (.block 0 Kv))
 (.seq (.reg [om 27 7, om 6 27] [kp [6] []]) .ret))))
theorem To (h : ∀ K : St → Prop, K = run P Γ Kv Q → run P Γ Zu (Ar K Q) s) : run P Γ Kv Q s := Ah h
def S0 : List RV := [.tmp 6]
/- probecard/logic.And (function 116) -/
abbrev q4q : IC := (.seq (.reg [od 2 (.mv (ku 0))] [kp [0] []]) (.seq (.reg [om 3 0, od 4 (.call 153 [(tm 3), (ku 0), (ku 1)]), om 2 4] [kp [2] []]) .ret))
def q4r : List RV := [.tmp 2]
/- probecard/logic.Or (function 117) -/
abbrev q6E : IC := (.seq (.reg [od 2 (.mv (ku 0))] [kp [0] []]) (.seq (.reg [om 3 0, od 4 (.call 153 [(tm 3), (ku 1), (ku 0)]), om 2 4] [kp [2] []]) .ret))
def q6F : List RV := [.tmp 2]
/- probecard/logic.Xor (function 118) -/
abbrev q4s : IC := .gh (.seq (.reg [od 9 (.bin .lss (tm 8) (tm 7))] [kp [3, 6, 7, 8, 9] []]) (.seq (.cond (tm 9) .skip (.exit 0)) (.seq (.block 1 (.seq (.reg [od 10 (ia 1 6 8), od 11 (ld 1 10), om 5 11] [kp [3, 5, 6, 7, 8] []]) (.seq (.seq (.reg [om
 12 5, od 13 (.call 152 [(tm 12)]), od 14 (.un .not (tm 13))] [kp [3, 5, 6, 7, 8, 14] []]) (.cond (tm 14) (.seq (.reg [od 2 (.mv (ku 2))] [kp [2] []]) .ret) .skip)) (.reg [om 15 3, om 16 5, od 17 (.bin .xor (tm 15) (tm 16)), om 3
 17] [kp [3, 6, 7, 8] []])))) (.reg [od 18 (.bin .add (tm 8) (ki 1)), om 8 18] [kp [3, 6, 7, 8] []])))) [kp [3, 6, 7, 8] []]
def Vm : IC := .loop q4s
abbrev q4t : IC := (.seq (.reg [od 2 (.mv (ku 0))] [kp [0] []]) (.seq (.reg [od 3 (.mv (ku 0))] [kp [0, 3] []]) (.seq (.seq (.reg [om 6 0, od 7 (le 0 6), od 8 (.mv (ki 0))] [kp [3, 6, 7, 8] []]) (.block 0 Vm)) (.seq (.reg [om 19 3, om 2 19]
 [kp [2] []]) .ret))))
theorem Zw (h : ∀ K : St → Prop, K = run P Γ Vm Q → run P Γ q4s (Ar K Q) s) : run P Γ Vm Q s := Ah h
def q0a : List RV := [.tmp 2]
/- probecard/logic.Mux (function 119) -/
abbrev Q6 : IC := (.seq (.reg [od 6 (.mv (ku 0))] [kp [0, 1, 2] []]) (.seq (.block 0 (.seq (.reg [om 8 0, od 9 (.bin .eql (tm 8) (ku 0)), om 7 9] [kp [0, 1, 2, 7] []]) (.cond (tm 7) (.seq (.reg [om 10 1, od 11 (.call 73 [(tm 10)]), om 6 11] [kp [6]
 []]) .ret) (.seq (.reg [om 13 0, od 14 (.bin .eql (tm 13) (ku 1)), om 12 14] [kp [1, 2, 12] []]) (.cond (tm 12) (.seq (.reg [om 15 2, od 16 (.call 73 [(tm 15)]), om 6 16] [kp [6] []]) .ret) (.seq (.reg [om 18 1, om 19 2, od 20
 (.bin .eql (tm 18) (tm 19)), om 17 20] [kp [1, 17] []]) (.cond (tm 17) (.seq (.reg [om 21 1, od 22 (.call 73 [(tm 21)]), om 6 22] [kp [6] []]) .ret) .skip))))))) (.seq (.reg [od 6 (.mv (ku 2))] [kp [6] []]) .ret)))
def Q7 : List RV := [.tmp 6]
/- probecard/logic.Tri (function 120) -/
abbrev Vn : IC := (.seq (.reg [od 4 (.mv (ku 0))] [kp [0, 1] []]) (.seq (.seq (.reg [om 5 0] [kp [1, 5] []]) (.block 0 (.seq (.reg [od 7 (.bin .eql (tm 5) (ku 0)), om 6 7] [kp [1, 5, 6] []]) (.cond (tm 6) (.seq (.reg [od 4 (.mv (ku 3))] [kp [4] []])
 .ret) (.seq (.reg [od 9 (.bin .eql (tm 5) (ku 1)), om 8 9] [kp [1, 8] []]) (.cond (tm 8) (.seq (.reg [om 10 1, od 11 (.call 73 [(tm 10)]), om 4 11] [kp [4] []]) .ret) .skip)))))) (.seq (.reg [od 4 (.mv (ku 2))] [kp [4] []]) .ret)))
def Vo : List RV := [.tmp 4]
/- probecard/logic.Bus (function 121) -/
abbrev q4u : IC := (.seq (.reg [od 2 (.mv (ku 0))] [kp [0] []]) (.seq (.reg [od 3 (.mv (.func 154))] [kp [0, 3] []]) (.seq (.reg [od 4 (.mv (.func 155))] [kp [0, 3, 4] []]) (.seq (.reg [om 6 0, om 7 4, od 8 (.call 130 [(tm 6), (tm 7)]), om 5 8] [kp
 [0, 3, 5] []]) (.seq (.block 0 (.seq (.reg [om 10 5, od 11 (.bin .lss (tm 10) (ki 0)), om 9 11] [kp [0, 3, 5, 9] []]) (.cond (tm 9) (.seq (.reg [od 2 (.mv (ku 3))] [kp [2] []]) .ret) (.seq (.reg [om 13 0, od 14 (.call 128 [(tm
 13)]), om 15 14, oF 16 (.mv (tm 0)) 15, oF 17 (.mv (tm 3)) 15, oF 18 (.call 76 [(tm 16), (tm 17)]) 15, od 19 (.pick (tm 15) kT (tm 18)), om 12 19] [kp [0, 5, 12] []]) (.cond (tm 12) (.seq (.reg [od 2 (.mv (ku 2))] [kp [2] []])
 .ret) .skip))))) (.seq (.reg [om 20 0, om 21 5, od 22 (ia 1 20 21), od 23 (ld 1 22), om 2 23] [kp [2] []]) .ret))))))
def Q8 : List RV := [.tmp 2]
/- probecard/logic.Bus$1 (function 154) -/
abbrev q2H : IC := (.seq (.reg [od 2 (.mv kF)] [kp [0] []]) (.seq (.reg [om 3 0, od 4 (.call 127 [(tm 3)]), od 5 (.bin .eql (tm 4) (ku 2)), om 2 5] [kp [2] []]) .ret))
def q2I : List RV := [.tmp 2]
/- probecard/logic.Bus$2 (function 155) -/
abbrev q2J : IC := (.seq (.reg [od 2 (.mv kF)] [kp [0] []]) (.seq (.reg [om 3 0, od 4 (.bin .neq (tm 3) (ku 3)), om 2 4] [kp [2] []]) .ret))
def q2K : List RV := [.tmp 2]
/- probecard/logic.Conflict (function 128) -/
abbrev Ye : IC := (.seq (.reg [od 2 (.mv kF)] [kp [0] []]) (.seq (.reg [om 3 0, od 4 (.call 160 [(tm 3), (ku 0)]), om 5 4, oT 6 (.mv (tm 0)) 5, oT 7 (.call 160 [(tm 6), (ku 1)]) 5, od 8 (.pick (tm 5) (tm 7) kF), om 2 8] [kp [2] []]) .ret))
def Q9 : List RV := [.tmp 2]
/- slices.Contains[[]probecard/api.Value,probecard/api.Value] (function 160) -/
abbrev Is : IC := (.seq (.reg [od 4 (.mv kF)] [kp [0, 1] []]) (.seq (.reg [om 5 0, om 6 1, od 7 (.call 182 [(tm 5), (tm 6)]), od 8 (.bin .geq (tm 7) (ki 0)), om 4 8] [kp [4] []]) .ret))
def It : List RV := [.tmp 4]
/- slices.Index[[]probecard/api.Value,probecard/api.Value] (function 182) -/
abbrev Lh : IC := .gh (.seq (.reg [od 9 (.bin .lss (tm 8) (tm 7))] [kp [0, 1, 7, 8, 9] []]) (.seq (.cond (tm 9) .skip (.exit 0)) (.seq (.block 1 (.seq (.reg [om 10 8, om 5 10] [kp [0, 1, 5, 7, 8] []]) (.seq (.reg [om 11 1, om 12 0, om 13 5, od 14
 (ia 1 12 13), od 15 (ld 1 14), od 16 (.bin .eql (tm 11) (tm 15))] [kp [0, 1, 5, 7, 8, 16] []]) (.cond (tm 16) (.seq (.reg [om 17 5, om 4 17] [kp [4] []]) .ret) .skip)))) (.reg [od 18 (.bin .add (tm 8) (ki 1)), om 8 18] [kp [0, 1,
 7, 8] []])))) [kp [0, 1, 7, 8] []]
def Dx : IC := .loop Lh
def Fz : List RO := [od 4 (.mv (.const (.int .i64 (-1))))]
abbrev Lj : IC := (.seq (.reg [od 4 (.mv (ki 0))] [kp [0, 1] []]) (.seq (.seq (.reg [om 6 0, od 7 (le 0 6), od 8 (.mv (ki 0))] [kp [0, 1, 7, 8] []]) (.block 0 Dx)) (.seq (.reg Fz [kp [4] []]) .ret)))
theorem Ho (h : ∀ K : St → Prop, K = run P Γ Dx Q → run P Γ Lh (Ar K Q) s) : run P Γ Dx Q s := Ah h
attribute [simp] Fz
def D4 : List RV := [.tmp 4]
/- slices.ContainsFunc[[]probecard/api.Value,probecard/api.Value] (function 76) -/
abbrev G6 : IC := (.seq (.reg [od 4 (.mv kF)] [kp [0, 1] []]) (.seq (.reg [om 5 0, om 6 1, od 7 (.call 130 [(tm 5), (tm 6)]), od 8 (.bin .geq (tm 7) (ki 0)), om 4 8] [kp [4] []]) .ret))
def G7 : List RV := [.tmp 4]
/- slices.IndexFunc[[]probecard/api.Value,probecard/api.Value] (function 130) -/
abbrev Hq : IC := .gh (.seq (.reg [od 9 (.bin .lss (tm 8) (tm 7))] [kp [0, 1, 7, 8, 9] []]) (.seq (.cond (tm 9) .skip (.exit 0)) (.seq (.block 1 (.seq (.reg [om 10 8, om 5 10] [kp [0, 1, 5, 7, 8] []]) (.seq (.reg [om 11 1, om 12 0, om 13 5, od 14
 (ia 1 12 13), od 15 (ld 1 14), od 16 (.callv (tm 11) [(tm 15)])] [kp [0, 1, 5, 7, 8, 16] []]) (.cond (tm 16) (.seq (.reg [om 17 5, om 4 17] [kp [4] []]) .ret) .skip)))) (.reg [od 18 (.bin .add (tm 8) (ki 1)), om 8 18] [kp [0, 1, 7,
 8] []])))) [kp [0, 1, 7, 8] []]
def D8 : IC := .loop Hq
abbrev Hr : IC := (.seq (.reg [od 4 (.mv (ki 0))] [kp [0, 1] []]) (.seq (.seq (.reg [om 6 0, od 7 (le 0 6), od 8 (.mv (ki 0))] [kp [0, 1, 7, 8] []]) (.block 0 D8)) (.seq (.reg [od 4 (.mv (.const (.int .i64 (-1))))] [kp [4]
 []]) .ret)))
theorem Fp (h : ∀ K : St → Prop, K = run P Γ D8 Q → run P Γ Hq (Ar K Q) s) : run P Γ D8 Q s := Ah h
def E6 : List RV := [.tmp 4]
/- probecard/logic.Eval (function 57) -/
abbrev Bo : IC := (.seq (.reg [od 4 (.mv (ku 0))] [kp [0, 1] []]) (.seq (.seq (.reg [om 8 0, od 9 (.call 114 [(tm 8)]), om 7 9, od 10 (ex 7 0), od 11 (ex 7 1), om 5 10, om 6 11] [kp [0, 1, 5, 6] []]) (.seq (.reg [om 12 1, od 13 (le 0 12), om 14 5,
 od 15 (.bin .lss (tm 13) (tm 14)), om 16 15, oF 17 (.mv (tm 1)) 16, oF 18 (le 0 17) 16, oF 19 (.mv (tm 6)) 16, oF 20 (.bin .gtr (tm 18) (tm 19)) 16, od 21 (.pick (tm 16) kT (tm 20))] [kp [0, 1, 21] []]) (.cond (tm 21) (.seq (.reg
 [od 4 (.mv (ku 2))] [kp [4] []]) .ret) .skip))) (.seq (.seq (.reg [om 22 0] [kp [1, 22] []]) (.block 0 (.seq (.reg [od 24 (.bin .eql (tm 22) (ku 1)), om 23 24] [kp [1, 22, 23] []]) (.cond (tm 23) (.seq (.reg [od 4 (.mv (ku 0))] [kp
 [4] []]) .ret) (.seq (.reg [od 26 (.bin .eql (tm 22) (ku 2)), om 25 26] [kp [1, 22, 25] []]) (.cond (tm 25) (.seq (.reg [od 4 (.mv (ku 1))] [kp [4] []]) .ret) (.seq (.reg [od 28 (.bin .eql (tm 22) (ku 3)), om 27 28] [kp [1, 22, 27]
 []]) (.cond (tm 27) (.seq (.reg [om 29 1, od 30 (.iadr 1 (tm 29) (ki 0)), od 31 (ld 1 30), od 32 (.call 73 [(tm 31)]), om 4 32] [kp [4] []]) .ret) (.seq (.reg [od 34 (.bin .eql (tm 22) (ku 4)), om 33 34] [kp [1, 22, 33] []]) (.cond
 (tm 33) (.seq (.reg [om 35 1, od 36 (.iadr 1 (tm 35) (ki 0)), od 37 (ld 1 36), od 38 (.call 115 [(tm 37)]), om 4 38] [kp [4] []]) .ret) (.seq (.reg [od 40 (.bin .eql (tm 22) (ku 5)), om 39 40] [kp [1, 22, 39] []]) (.cond (tm 39)
 (.seq (.reg [om 41 1, od 42 (.call 116 [(tm 41)]), om 4 42] [kp [4] []]) .ret) (.seq (.reg [od 44 (.bin .eql (tm 22) (ku 6)), om 43 44] [kp [1, 22, 43] []]) (.cond (tm 43) (.seq (.reg [om 45 1, od 46 (.call 116 [(tm 45)]), od 47
 (.call 115 [(tm 46)]), om 4 47] [kp [4] []]) .ret) (.seq (.reg [od 49 (.bin .eql (tm 22) (ku 7)), om 48 49] [kp [1, 22, 48] []]) (.cond (tm 48) (.seq (.reg [om 50 1, od 51 (.call 117 [(tm 50)]), om 4 51] [kp [4] []]) .ret) (.seq
 (.reg [od 53 (.bin .eql (tm 22) (ku 8)), om 52 53] [kp [1, 22, 52] []]) (.cond (tm 52) (.seq (.reg [om 54 1, od 55 (.call 117 [(tm 54)]), od 56 (.call 115 [(tm 55)]), om 4 56] [kp [4] []]) .ret) (.seq (.reg [od 58 (.bin .eql (tm
 22) (ku 9)), om 57 58] [kp [1, 22, 57] []]) (.cond (tm 57) (.seq (.reg [om 59 1, od 60 (.call 118 [(tm 59)]), om 4 60] [kp [4] []]) .ret) (.seq (.reg [od 62 (.bin .eql (tm 22) (ku 10)), om 61 62] [kp [1, 22, 61] []]) (.cond (tm 61)
 (.seq (.reg [om 63 1, od 64 (.call 118 [(tm 63)]), od 65 (.call 115 [(tm 64)]), om 4 65] [kp [4] []]) .ret) (.seq (.reg [od 67 (.bin .eql (tm 22) (ku 11)), om 66 67] [kp [1, 22, 66] []]) (.cond (tm 66) (.seq (.reg [om 68 1, od 69
 (.iadr 1 (tm 68) (ki 0)), od 70 (ld 1 69), om 71 1, od 72 (.iadr 1 (tm 71) (ki 1)), od 73 (ld 1 72), om 74 1, od 75 (.iadr 1 (tm 74) (ki 2)), od 76 (ld 1 75), od 77 (.call 119 [(tm 70), (tm 73), (tm 76)]), om 4 77] [kp [4] []])
 .ret) (.seq (.reg [od 79 (.bin .eql (tm 22) (ku 12)), om 78 79] [kp [1, 22, 78] []]) (.cond (tm 78) (.seq (.reg [om 80 1, od 81 (.iadr 1 (tm 80) (ki 0)), od 82 (ld 1 81), om 83 1, od 84 (.iadr 1 (tm 83) (ki 1)), od 85 (ld 1 84), od
 86 (.call 120 [(tm 82), (tm 85)]), om 4 86] [kp [4] []]) .ret) (.seq (.reg [od 88 (.bin .eql (tm 22) (ku 13)), om 87 88] [kp [1, 87] []]) (.cond (tm 87) (.seq (.reg [om 89 1, od 90 (.call 121 [(tm 89)]), om 4 90] [kp [4] []]) .ret)
 .skip)))))))))))))))))))))))))))) (.seq (.reg [od 4 (.mv (ku 2))] [kp [4] []]) .ret))))
def Bh : List RV := [.tmp 4]
end
end Go.Lg
namespace Go.Lg
open Go Go.Proofs
theorem q6Y : Aw Tryz.prog 127 q2D 6 1 q2E = true := by kernel_rfl
theorem q7j : Aw Tryz.prog 73 q3a 5 1 q3b = true := by kernel_rfl
theorem q6Z : Aw Tryz.prog 152 q2F 5 1 q2G = true := by kernel_rfl
theorem q8T : Aw Tryz.prog 115 q4p 7 1 q0Z = true := by kernel_rfl
theorem q4v : Aw Tryz.prog 153 Zv 28 3 S0 = true := by kernel_rfl
theorem q8U : Aw Tryz.prog 116 q4q 5 1 q4r = true := by kernel_rfl
theorem q9w : Aw Tryz.prog 117 q6E 5 1 q6F = true := by kernel_rfl
theorem q8V : Aw Tryz.prog 118 q4t 20 1 q0a = true := by kernel_rfl
theorem q8W : Aw Tryz.prog 119 Q6 23 3 Q7 = true := by kernel_rfl
theorem q8X : Aw Tryz.prog 120 Vn 12 2 Vo = true := by kernel_rfl
theorem q8Y : Aw Tryz.prog 121 q4u 24 1 Q8 = true := by kernel_rfl
theorem q6a : Aw Tryz.prog 154 q2H 6 1 q2I = true := by kernel_rfl
theorem q6b : Aw Tryz.prog 155 q2J 5 1 q2K = true := by kernel_rfl
theorem q46 : Aw Tryz.prog 128 Ye 9 1 Q9 = true := by kernel_rfl
theorem Tq : Aw Tryz.prog 160 Is 9 2 It = true := by kernel_rfl
theorem X5 : Aw Tryz.prog 182 Lj 19 2 D4 = true := by kernel_rfl
theorem P0 : Aw Tryz.prog 76 G6 9 2 G7 = true := by kernel_rfl
theorem S1 : Aw Tryz.prog 130 Hr 19 2 E6 = true := by kernel_rfl
theorem q7k : Aw Tryz.prog 57 Bo 91 2 Bh = true := by kernel_rfl
end Go.Lg
namespace Go.Lg
open Go Go.Proofs
variable {Γ : Tables}
theorem q7l (v : Int) : Aa Tryz.prog Γ 127 [tK v] (tK (q9r v)) := by
  refine Ac q6Y rfl ?_
  by_cases h : 3 < v <;> simp [q2D, q2E, Aq, q9r, h]
theorem Hg (v : Int) : Aa Tryz.prog Γ 73 [tK v] (tK (Bn v)) := by
  refine Ac q7j rfl ?_
  by_cases h : v < 2 <;> simp [q3a, q3b, Aq, Bn, h, Za, H5] <;> omega
theorem q47 (v : Int) : Aa Tryz.prog Γ 152 [tK v] (tB (q5V v)) := by
  refine Ac q6Z rfl ?_
  simp [q2F, q2G, Aq, q5V]
theorem q4w (v : Int) (h0 : 0 ≤ v) : Aa Tryz.prog Γ 115 [tK v] (tK (Z5 v)) := by
  refine Ac q8T rfl ?_
  simp [q4p]
  refine A3 (q47 v) rfl ?_
  by_cases h : v ≤ 1
  · simp (disch := omega) [q0Z, Aq, q5V, Z5, h, Bl]
  · simp (disch := omega) [q0Z, Aq, q5V, Z5, h, Bl]
theorem qEz (s a b : Int) : Aa Tryz.prog Γ 119 [tK s, tK a, tK b] (tK (q8S s a b)) := by
  refine Ac q8W rfl ?_
  by_cases h : s = 0
  · simp [Q6, h]
    refine A3 (Hg a) rfl ?_
    simp [Q7, Aq, q8S, h]
  by_cases h1 : s = 1
  · simp [Q6, h1]
    refine A3 (Hg b) rfl ?_
    simp [Q7, Aq, q8S, h1]
  by_cases h2 : a = b
  · simp [Q6, h, h1, h2]
    refine A3 (Hg b) rfl ?_
    simp [Q7, Aq, q8S, h, h1, h2]
  · simp [Q6, h, h1, h2, Q7, Aq, q8S]
theorem qF0 (e d : Int) : Aa Tryz.prog Γ 120 [tK e, tK d] (tK (q9s e d)) := by
  refine Ac q8X rfl ?_
  by_cases h : e = 0
  · simp [Vn, h, Vo, Aq, q9s]
  by_cases h1 : e = 1
  · simp [Vn, h1]
    refine A3 (Hg d) rfl ?_
    simp [Vo, Aq, q9s, h1]
  · simp [Vn, h, h1, Vo, Aq, q9s]
abbrev Av (l : List Int) : List (List T) := Ad tK l
def tV (s : Sl Int) : T := .sl (Av s.l) s.cap s.nl
theorem q0b {Q : AX → St → Prop} (l : List Int) (c : Option Nat) (nl : Option Bool) (low high : Int) (hl : l.length ≤ 1000000000) (R : Int)
    (h0 : Q (.exit 0) ⟨[(1, .t (tK low)), (2, .t (tK high)), (7, .t (tK R)), (11, .t (.sl (Av l) c nl)), (12, .t (tI l.length)), (13, .t (tI l.length)), (14, .t (tB false))], []⟩)
    (h1 : R = low → Q .ret ⟨[(6, .t (tK low))], []⟩) : ∀ (k i : Nat) (out : Int), k + i = l.length → N1 low high out (l.drop i) = R →
    run Tryz.prog Γ Kv Q ⟨[(1, .t (tK low)), (2, .t (tK high)), (7, .t (tK out)), (11, .t (.sl (Av l) c nl)), (12, .t (tI l.length)), (13, .t (tI i))], []⟩
  | 0, i, out, h, hR => by
    refine To fun K hK => ?_
    have h2 : ¬ i < l.length := by omega
    rw [List.drop_of_length_le (by omega)] at hR
    simp only [N1] at hR
    subst hR
    have h3 : i = l.length := by omega
    simp [h2]
    subst h3
    exact h0
  | k + 1, i, out, h, hR => by
    refine To fun K hK => ?_
    have h2 : i < l.length := by omega
    rw [List.drop_eq_getElem_cons h2] at hR
    simp only [N1] at hR
    have hget := B1 (f := tK) 0 h2
    simp only [List.getElem?_eq_getElem h2, Option.getD_some] at hget
    generalize l[i] = v at *
    by_cases a1 : v = low
    · rw [if_pos a1] at hR
      simp (disch := omega) [h2, A0, hget, A9, A5, a1]
      exact h1 hR.symm
    · by_cases a2 : v = high
      · rw [if_neg a1, if_neg (by simp [a2])] at hR
        have ih := q0b l c nl low high hl R h0 h1 k (i + 1) out (by omega) hR
        have a1' : ¬ high = low := by rw [← a2]; exact a1
        simp (disch := omega) [h2, A0, hget, A9, A5, a1', a2]
        rw [hK]
        exact_mod_cast ih
      · rw [if_neg a1, if_pos a2] at hR
        have ih := q0b l c nl low high hl R h0 h1 k (i + 1) 2 (by omega) hR
        simp (disch := omega) [h2, A0, hget, A9, A5, a1, a2]
        rw [hK]
        exact_mod_cast ih
theorem q4x (l : List Int) (c : Option Nat) (nl : Option Bool) (low high : Int) (hl : l.length ≤ 1000000000) : Aa Tryz.prog Γ 153 [.sl (Av l) c nl, tK low, tK high] (tK (N1 low high high l)) := by
  refine Ac q4v rfl ?_
  simp (disch := omega) [Zv, A0, A5]
  refine q0b l c nl low high hl (N1 low high high l) ?_ (fun h => ?_) l.length 0 high (by omega) (by simp)
  · simp [S0, Aq]
  · simp [S0, Aq, h]
theorem qAu (l : List Int) (c : Option Nat) (nl : Option Bool) (hl : l.length ≤ 1000000000) : Aa Tryz.prog Γ 116 [.sl (Av l) c nl] (tK (N1 0 1 1 l)) := by
  refine Ac q8U rfl ?_
  simp [q4q]
  refine A3 (q4x l c nl 0 1 hl) rfl ?_
  simp [q4r, Aq]
theorem qCx (l : List Int) (c : Option Nat) (nl : Option Bool) (hl : l.length ≤ 1000000000) : Aa Tryz.prog Γ 117 [.sl (Av l) c nl] (tK (N1 1 0 0 l)) := by
  refine Ac q9w rfl ?_
  simp [q6E]
  refine A3 (q4x l c nl 1 0 hl) rfl ?_
  simp [q6F, Aq]
theorem qGU {a b : Int} (ha : a = 0 ∨ a = 1) (hb : b = 0 ∨ b = 1) : IntKind.u8.wrap ((BitVec.ofInt IntKind.u8.bits a ^^^ BitVec.ofInt IntKind.u8.bits b).toNat : Int) = qEu a b := by
  rcases ha with rfl | rfl <;> rcases hb with rfl | rfl <;> decide
theorem qAv {Q : AX → St → Prop} (l : List Int) (c : Option Nat) (nl : Option Bool) (hl : l.length ≤ 1000000000) (hv : ∀ v ∈ l, 0 ≤ v) (R : Int)
    (h0 : Q (.exit 0) ⟨[(3, .t (tK R)), (6, .t (.sl (Av l) c nl)), (7, .t (tI l.length)), (8, .t (tI l.length)), (9, .t (tB false))], []⟩)
    (h1 : R = 2 → Q .ret ⟨[(2, .t (tK 2))], []⟩) : ∀ (k i : Nat) (out : Int), k + i = l.length → (out = 0 ∨ out = 1) → q27 out (l.drop i) = R →
    run Tryz.prog Γ Vm Q ⟨[(3, .t (tK out)), (6, .t (.sl (Av l) c nl)), (7, .t (tI l.length)), (8, .t (tI i))], []⟩
  | 0, i, out, h, ho, hR => by
    refine Zw fun K hK => ?_
    have h2 : ¬ i < l.length := by omega
    rw [List.drop_of_length_le (by omega)] at hR
    simp only [q27] at hR
    subst hR
    have h3 : i = l.length := by omega
    simp [h2]
    subst h3
    exact h0
  | k + 1, i, out, h, ho, hR => by
    refine Zw fun K hK => ?_
    have h2 : i < l.length := by omega
    rw [List.drop_eq_getElem_cons h2] at hR
    simp only [q27] at hR
    have hget := B1 (f := tK) 0 h2
    simp only [List.getElem?_eq_getElem h2, Option.getD_some] at hget
    have hv0 := hv _ (List.getElem_mem h2)
    generalize l[i] = v at *
    by_cases a1 : v ≤ 1
    · rw [if_pos a1] at hR
      have ih := qAv l c nl hl hv R h0 h1 k (i + 1) (qEu out v) (by omega) (by unfold qEu; split <;> simp) hR
      simp (disch := omega) [h2, A0, hget, A9, A5]
      refine A3 (q47 v) rfl ?_
      have hx := qGU ho (show v = 0 ∨ v = 1 by omega)
      simp (disch := omega) [q5V, a1, ↓hx, A5]
      rw [hK]
      exact_mod_cast ih
    · rw [if_neg a1] at hR
      simp (disch := omega) [h2, A0, hget, A9, A5]
      refine A3 (q47 v) rfl ?_
      simp (disch := omega) [q5V, a1]
      exact h1 hR.symm
theorem qAw (l : List Int) (c : Option Nat) (nl : Option Bool) (hl : l.length ≤ 1000000000) (hv : ∀ v ∈ l, 0 ≤ v) : Aa Tryz.prog Γ 118 [.sl (Av l) c nl] (tK (q27 0 l)) := by
  refine Ac q8V rfl ?_
  simp (disch := omega) [q4t, A0, A5]
  refine qAv l c nl hl hv (q27 0 l) ?_ (fun h => ?_) l.length 0 0 (by omega) (.inl rfl) (by simp)
  · simp [q0a, Aq]
  · simp [q0a, Aq, h]
end Go.Lg
namespace Go.Lg
open Go
section
variable {P : Program} {Γ : Tables} {Q : AX → St → Prop} {s : St}
/- probecard/scans.Pattern (function 30) -/
abbrev K7 : IC := .gh (.seq (.reg [od 12 (.bin .lss (tm 11) (tm 10))] [kp [0, 3, 9, 10, 11, 12] []]) (.seq (.cond (tm 12) .skip (.exit 0)) (.seq (.block 1 (.seq (.reg [od 13 (ia 1 9 11), od 14 (ld 1 13), om 5 14] [kp [0, 3, 5, 9, 10, 11] []]) (.seq
 (.reg [om 15 3, om 16 5, od 17 (le 0 16), od 18 (.bin .add (tm 15) (tm 17)), om 3 18] [kp [0, 3, 9, 10, 11] []]) (.seq (.reg [om 19 3, od 20 (.bin .lss (tm 19) (ki 0))] [kp [0, 3, 9, 10, 11, 20] []]) (.cond (tm 20) .dead .skip)))))
 (.reg [od 22 (.bin .add (tm 11) (ki 1)), om 11 22] [kp [0, 3, 9, 10, 11] []])))) [kp [0, 3, 9, 10, 11] []]
def Ds : IC := .loop K7
abbrev K8 : IC := .gh (.seq (.reg [od 28 (.bin .lss (tm 27) (tm 26))] [kp [6, 25, 26, 27, 28] [24022]]) (.seq (.cond (tm 28) .skip (.exit 2)) (.seq (.block 3 (.seq (.reg [od 29 (ia 1 25 27), od 30 (ld 1 29), om 8 30] [kp [6, 8, 25, 26, 27] [24022]])
 (.reg [om 31 6, om 32 8, oz 33 (.app false 68 1 (tm 31) (tm 32)) 24022, om 6 33] [kp [6, 25, 26, 27] [24022]]))) (.reg [od 34 (.bin .add (tm 27) (ki 1)), om 27 34] [kp [6, 25, 26, 27] [24022]])))) [kp [6, 25, 26, 27] [24022]]
def Dt : IC := .loop K8
abbrev K9 : IC := (.seq (.reg [od 2 (.mv kN)] [kp [0] []]) (.seq (.reg [od 3 (.mv (ki 0))] [kp [0, 3] []]) (.seq (.seq (.reg [om 9 0, od 10 (le 0 9), od 11 (.mv (ki 0))] [kp [0, 3, 9, 10, 11] []]) (.block 0 Ds)) (.seq (.reg
 [om 23 3, od 24 (.hcall 138 [kN, (tm 23)] [] 24000), om 6 24] [kp [0, 6] [24022]]) (.seq (.seq (.reg [om 25 0, od 26 (le 0 25), od 27 (.mv (ki 0))] [kp [6, 25, 26, 27] [24022]]) (.block 2 Dt)) (.seq (.reg
 [om 35 6, om 2 35] [kp [2] [24022]]) .ret))))))
theorem Hh (h : ∀ K : St → Prop, K = run P Γ Ds Q → run P Γ K7 (Ar K Q) s) : run P Γ Ds Q s := Ah h
theorem Hi (h : ∀ K : St → Prop, K = run P Γ Dt Q → run P Γ K8 (Ar K Q) s) : run P Γ Dt Q s := Ah h
def Ko : List RV := [.tmp 2]
/- slices.Clone[[]probecard/api.Value,probecard/api.Value] (function 93) -/
abbrev Dy : IC := (.seq (.reg [od 2 (.mv kN)] [kp [0] []]) (.seq (.seq (.reg [om 3 0, od 4 (.isNil true (tm 3))] [kp [0, 4] []]) (.cond (tm 4) (.seq (.reg [od 2 (.mv kN)] [kp [2] []]) .ret) .skip)) (.seq (.reg [od 5 (.bsl true 68 1 []), om 6 0, od 7
 (.appT 68 1 (tm 5) (tm 6)), om 2 7] [kp [2] []]) .ret)))
def Dz : List RV := [.tmp 2]
/- slices.Grow[[]probecard/api.Value,probecard/api.Value] (function 138) -/
abbrev N2 : IC := (.seq (.reg [od 4 (.mv kN)] [kp [0, 1] [22]]) (.seq (.seq (.reg [om 5 1, od 6 (.bin .lss (tm 5) (ki 0))] [kp [0, 1, 6] [22]]) (.cond (tm 6) .dead .skip)) (.seq (.seq (.reg [om 8 1, om 9 0, od 10 (.cap (tm 9)), om 11 0, od 12 (le 0
 11), od 13 (.bin .sub (tm 10) (tm 12)), od 14 (.bin .sub (tm 8) (tm 13)), om 1 14] [kp [0, 1] [22]]) (.seq (.reg [om 15 1, od 16 (.bin .gtr (tm 15) (ki 0))] [kp [0, 1, 16] [22]]) (.cond (tm 16) (.reg [om 17 0, om 18 0, od 19 (.cap
 (tm 18)), od 20 (.slice 1 (tm 17) none (some (tm 19)) none), om 21 1, od 22 (.appZ 68 1 [(.int .u8 0)] (tm 20) (tm 21)), om 23 0, od 24 (le 0 23), od 25 (.slice 1 (tm 22) none (some (tm 24)) none), om 0 25] [kp [0] [22]]) .skip)))
 (.seq (.reg [om 26 0, om 4 26] [kp [4] [22]]) .ret))))
def N3 : List RV := [.tmp 4]
end
end Go.Lg
namespace Go.Lg
open Go Go.Proofs
theorem Vp : Aw Tryz.prog 91 K9 36 1 Ko = true := by kernel_rfl
theorem X6 : Aw Tryz.prog 93 Dy 8 1 Dz = true := by kernel_rfl
theorem Xp : Aw Tryz.prog 138 N2 27 2 N3 = true := by kernel_rfl
end Go.Lg
namespace Go.Lg
open Go Go.Proofs
variable {Γ : Tables}
theorem qI9 (n : Nat) (h0 : 0 < n) (hn : n ≤ 1000000000) : Ef Tryz.prog Γ 138 [] [.t (.sl [] (some 0) (some true)), .t (tI n)] (.ls 22 0 0 none) [(22, .sl 68 1 (List.replicate n [tK 0]))] := by
  refine Ey Xp rfl ?_
  have h1 : (0 : Int) < n := by omega
  have h2 : ¬ (n : Int) < 0 := by omega
  have h3 : (n : Int) ≤ 2147483648 := by omega
  simp (disch := omega) [N2, N3, h1, h2, h3, h0, A5]
theorem q97 {Q : AX → St → Prop} (ss : List (Sl Int)) (cap : Option Nat) (nl : Option Bool) (hs : ss.length ≤ 1000) (hl : ∀ s ∈ ss, s.l.length ≤ 1000000) (N : Nat)
    (h0 : Q (.exit 0) ⟨[(0, .t (.sl (Ad tV ss) cap nl)), (3, .t (tI N)), (9, .t (.sl (Ad tV ss) cap nl)), (10, .t (tI ss.length)), (11, .t (tI ss.length)), (12, .t (tB false))], []⟩) :
    ∀ (k i m : Nat), k + i = ss.length → m ≤ i * 1000000 → m + ((ss.drop i).flatMap (·.l)).length = N →
    run Tryz.prog Γ Ds Q ⟨[(0, .t (.sl (Ad tV ss) cap nl)), (3, .t (tI m)), (9, .t (.sl (Ad tV ss) cap nl)), (10, .t (tI ss.length)), (11, .t (tI i))], []⟩
  | 0, i, m, h, hm, hN => by
    refine Hh fun K hK => ?_
    have h3 : i = ss.length := by omega
    subst h3
    rw [List.drop_of_length_le (Nat.le_refl _)] at hN
    simp at hN
    subst hN
    simp
    exact h0
  | k + 1, i, m, h, hm, hN => by
    refine Hh fun K hK => ?_
    have h2 : i < ss.length := by omega
    rw [List.drop_eq_getElem_cons h2] at hN
    have e := B1 (f := tV) ⟨[], none, none⟩ h2
    have e2 : ss[i]?.getD ⟨[], none, none⟩ = ss[i] := by simp [h2]
    rw [e2] at e
    have hsl := hl _ (List.getElem_mem h2)
    generalize ss[i] = s at *
    simp at hN
    have ih := q97 ss cap nl hs hl N h0 k (i + 1) (m + s.l.length) (by omega) (by omega) (by simp; omega)
    have e' : ∀ h : i < (Ad tV ss).length, (Ad tV ss)[i] = [tV s] := fun h => by rw [← e]; simp [h]
    have w1 : IntKind.i64.wrap ((m : Int) + (s.l.length : Int)) = ((m + s.l.length : Nat) : Int) := by rw [A5] <;> omega
    have w2 : ¬ ((m : Int) + (s.l.length : Int)) < 0 := by omega
    have w1' : IntKind.i64.wrap ((m : Int) + (s.l.length : Int)) = (m : Int) + (s.l.length : Int) := by rw [A5] <;> omega
    simp only [tV] at e e'
    simp [h2, A0, A9, e, e', w1', w2]
    rw [A5 (by omega) (by omega), hK]
    simpa [tV] using ih
theorem q98 {Q : AX → St → Prop} (ss : List (Sl Int)) (cap : Option Nat) (nl : Option Bool) (hs : ss.length ≤ 1000) (hl : ∀ s ∈ ss, s.l.length ≤ 1000000) (R : List Int)
    (h0 : ∀ E : List (List T), E.take R.length = Av R → N9 (.sl 68 1 E) → Q (.exit 2) ⟨[(6, .ls 24022 0 R.length none), (25, .t (.sl (Ad tV ss) cap nl)), (26, .t (tI ss.length)), (27, .t (tI ss.length)), (28, .t (tB false))], [(24022, .sl 68 1 E)]⟩) :
    ∀ (k i : Nat) (acc : List Int) (E : List (List T)), k + i = ss.length → acc.length ≤ i * 1000000 → E.take acc.length = Av acc → N9 (.sl 68 1 E) → acc ++ (ss.drop i).flatMap (·.l) = R →
    run Tryz.prog Γ Dt Q ⟨[(6, .ls 24022 0 acc.length none), (25, .t (.sl (Ad tV ss) cap nl)), (26, .t (tI ss.length)), (27, .t (tI i))], [(24022, .sl 68 1 E)]⟩
  | 0, i, acc, E, h, hm, hE, hF, hR => by
    refine Hi fun K hK => ?_
    have h3 : i = ss.length := by omega
    subst h3
    rw [List.drop_of_length_le (Nat.le_refl _)] at hR
    simp at hR
    subst hR
    simp
    exact h0 E hE hF
  | k + 1, i, acc, E, h, hm, hE, hF, hR => by
    refine Hi fun K hK => ?_
    have h2 : i < ss.length := by omega
    rw [List.drop_eq_getElem_cons h2] at hR
    have e := B1 (f := tV) ⟨[], none, none⟩ h2
    have e2 : ss[i]?.getD ⟨[], none, none⟩ = ss[i] := by simp [h2]
    rw [e2] at e
    have hsl := hl _ (List.getElem_mem h2)
    generalize ss[i] = s at *
    have q : Av acc ++ Av s.l = Av (acc ++ s.l) := qEl
    have ih := q98 ss cap nl hs hl R h0 k (i + 1) (acc ++ s.l) (Av (acc ++ s.l)) (by omega) (by simp; omega) B6 (Ve fun _ => rfl) (by rw [← hR]; simp)
    have e' : ∀ h : i < (Ad tV ss).length, (Ad tV ss)[i] = [tV s] := fun h => by rw [← e]; simp [h]
    simp only [tV] at e e'
    have hm : min acc.length E.length = acc.length := by have := congrArg List.length hE; simpa [A0] using this
    simp [h2, A0, A9, e, e', hE, q, hm]
    refine ⟨by omega, ?_⟩
    rw [A5 (by omega) (by omega), hK]
    simpa [tV] using ih
theorem Yf (ss : List (Sl Int)) (cap : Option Nat) (nl : Option Bool) (hs : ss.length ≤ 1000) (hl : ∀ s ∈ ss, s.l.length ≤ 1000000) (h0 : 0 < (ss.flatMap (·.l)).length) :
    Aa Tryz.prog Γ 91 [.sl (Ad tV ss) cap nl] (.sl (Av (ss.flatMap (·.l))) none none) := by
  refine Ac Vp rfl ?_
  have hb : ∀ l : List (Sl Int), (∀ s ∈ l, s.l.length ≤ 1000000) → (l.flatMap (·.l)).length ≤ l.length * 1000000 := by
    intro l
    induction l with
    | nil => intro _; simp
    | cons s l ih =>
      intro h
      have h1 := h s List.mem_cons_self
      have h2 := ih fun x hx => h x (List.mem_cons_of_mem _ hx)
      simp at h2 ⊢
      omega
  have hb := hb ss hl
  have g1 := fun Q h0 => q97 (Γ := Γ) (Q := Q) ss cap nl hs hl (ss.flatMap (·.l)).length h0 ss.length 0 0 (by omega) (by omega) (by simp)
  have g2 := qI9 (Γ := Γ) (ss.flatMap (·.l)).length h0 (by omega)
  have g3 := fun Q h0 E hE hF => q98 (Γ := Γ) (Q := Q) ss cap nl hs hl (ss.flatMap (·.l)) h0 ss.length 0 [] E (by omega) (by simp) hE hF (by simp)
  generalize ss.flatMap (·.l) = R at *
  simp [K9, A0]
  refine g1 _ ?_
  simp
  refine ⟨_, _, g2, ?_⟩
  simp [A0]
  refine g3 _ (fun E hE hF => ?_) _ (by simp [Ad]) (fun e he t ht => by rw [List.eq_of_mem_replicate he] at ht; simp at ht; subst ht; rfl)
  simp [Ko, hE]
  exact hF
theorem q2L (l : List Int) (c : Option Nat) (nl : Option Bool) (x : Int) (hl : l.length ≤ 1000000000) : ∀ (k i : Nat), k + i = l.length → (∀ j, j < i → ∀ y, l[j]? = some y → (y == x) = false) →
    run Tryz.prog Γ Dx (Ls 0 (Ar (run Tryz.prog Γ (.seq (.reg Fz [.keep [4] []]) .ret) (ret true D4 fun r => r = tI (Z3 (· == x) l))) (ret true D4 fun r => r = tI (Z3 (· == x) l)))) ⟨[(0, .t (.sl (Ad tK l) c nl)), (1, .t (tK x)), (7, .t (tI l.length)), (8, .t (tI i))], []⟩
  | 0, i, h, hp => by
    refine Ho fun K hK => ?_
    have h2 : ¬ i < l.length := by omega
    simp (disch := omega) [A0, B1 (0 : Int), A9, A5, h2, ret, D4, Da, Et, Es, Aq]
    have : l.findIdx? (· == x) = none := by
      rw [List.findIdx?_eq_none_iff]
      intro y hy
      obtain ⟨j, hj, rfl⟩ := List.getElem_of_mem hy
      exact hp j (by omega) _ (List.getElem?_eq_getElem hj)
    have e : l.findIdx? (fun y => decide (y = x)) = _ := this
    simp [Z3, e]
  | k + 1, i, h, hp => by
    refine Ho fun K hK => ?_
    have h2 : i < l.length := by omega
    simp (disch := omega) [A0, B1 (0 : Int), A9, A5, h2]
    refine ⟨fun hc => ?_, fun hc => ?_⟩
    · simp [Bd, ret, D4, Da, Et, Es, Aq]
      have := q0U (p := (· == x)) hp l[i] (List.getElem?_eq_getElem h2) (by simp [hc])
      have e : l.findIdx? (fun y => decide (y = x)) = _ := this
      simp [Z3, e]
    · simp (disch := omega) [Bd, A5]
      rw [hK]
      exact_mod_cast q2L l c nl x hl k (i + 1) (by omega) (fun j hj y hy => by
        rcases Nat.lt_succ_iff_lt_or_eq.1 hj with hj | rfl
        · exact hp j hj y hy
        · rw [List.getElem?_eq_getElem h2] at hy; simp at hy; subst hy
          simp; exact fun e => hc e.symm)
theorem qDr (l : List Int) (c : Option Nat) (nl : Option Bool) (x : Int) (hl : l.length ≤ 1000000000) : Aa Tryz.prog Γ 182 [.sl (Ad tK l) c nl, tK x] (tI (Z3 (· == x) l)) := by
  refine Ac X5 rfl ?_
  simp (disch := omega) [Lj, A0, A5]
  exact_mod_cast q2L l c nl x hl l.length 0 (by omega) (by simp)
theorem q4y (l : List Int) (c : Option Nat) (nl : Option Bool) (x : Int) (hl : l.length ≤ 1000000000) : Aa Tryz.prog Γ 160 [.sl (Ad tK l) c nl, tK x] (tB (l.contains x)) := by
  refine Ac Tq rfl ?_
  simp (disch := omega) [Is, A0, A5]
  refine A3 (qDr l c nl x hl) rfl ?_
  simp [ret, It, Da, Et, Es, Aq]
  unfold Z3
  cases h : l.findIdx? (· == x) with
  | none =>
    rw [List.findIdx?_eq_none_iff] at h
    have : ¬ x ∈ l := fun hx => by simpa using h x hx
    simp [this]
  | some i =>
    rw [List.findIdx?_eq_some_iff_getElem] at h
    obtain ⟨hi, h1, _⟩ := h
    have : x ∈ l := by rw [← (show l[i] = x by simpa using h1)]; exact List.getElem_mem hi
    simp [this]
theorem X7 {Q : AX → St → Prop} (l : List Int) (c : Option Nat) (nl : Option Bool) (f : FuncId) (cs : List T) (p : Int → Bool) (hp : ∀ x ∈ l, Aa Tryz.prog Γ f (tK x :: cs) (tB (p x))) (hl : l.length ≤ 1000000000)
    (h0 : (∀ x ∈ l, p x = false) → Q (.exit 0) ⟨[(0, .t (.sl (Ad tK l) c nl)), (1, .t (.fn f cs)), (7, .t (tI l.length)), (8, .t (tI l.length)), (9, .t (tB false))], []⟩)
    (h1 : ∀ i : Nat, l.findIdx? p = some i → Q .ret ⟨[(4, .t (tI i))], []⟩) : ∀ (k i : Nat), k + i = l.length → (∀ j, j < i → ∀ y, l[j]? = some y → p y = false) →
    run Tryz.prog Γ D8 Q ⟨[(0, .t (.sl (Ad tK l) c nl)), (1, .t (.fn f cs)), (7, .t (tI l.length)), (8, .t (tI i))], []⟩
  | 0, i, h, hq => by
    refine Fp fun K hK => ?_
    have h2 : ¬ i < l.length := by omega
    simp (disch := omega) [A0, B1 (0 : Int), A9, A5, h2]
    have h3 : i = l.length := by omega
    subst h3
    refine h0 fun y hy => ?_
    obtain ⟨j, hj, rfl⟩ := List.getElem_of_mem hy
    exact hq j (by omega) _ (List.getElem?_eq_getElem hj)
  | k + 1, i, h, hq => by
    refine Fp fun K hK => ?_
    have h2 : i < l.length := by omega
    simp (disch := omega) [A0, B1 (0 : Int), A9, A5, h2]
    refine q0V (hp l[i] (List.getElem_mem h2)) ?_
    simp
    refine ⟨fun hc => ?_, fun hc => ?_⟩
    · simp [Bd]
      exact h1 i (q0U hq l[i] (List.getElem?_eq_getElem h2) hc)
    · simp (disch := omega) [Bd, A5]
      rw [hK]
      exact_mod_cast X7 l c nl f cs p hp hl h0 h1 k (i + 1) (by omega) (fun j hj y hy => by
        rcases Nat.lt_succ_iff_lt_or_eq.1 hj with hj | rfl
        · exact hq j hj y hy
        · rw [List.getElem?_eq_getElem h2] at hy; simp at hy; subst hy; exact hc)
theorem q3c (l : List Int) (c : Option Nat) (nl : Option Bool) (f : FuncId) (cs : List T) (p : Int → Bool) (hp : ∀ x ∈ l, Aa Tryz.prog Γ f (tK x :: cs) (tB (p x))) (hl : l.length ≤ 1000000000) : Aa Tryz.prog Γ 130 [.sl (Ad tK l) c nl, .fn f cs] (tI (Z3 p l)) := by
  refine Ac S1 rfl ?_
  simp (disch := omega) [Hr, A0, A5]
  refine X7 l c nl f cs p hp hl (fun h => ?_) (fun i h => ?_) l.length 0 (by omega) (by simp)
  · have : l.findIdx? p = none := List.findIdx?_eq_none_iff.2 h
    simp [ret, E6, Da, Et, Es, Aq, Z3, this]
  · simp [ret, E6, Da, Et, Es, Aq, Z3, h]
theorem Dm (l : List Int) (c : Option Nat) (nl : Option Bool) (f : FuncId) (cs : List T) (p : Int → Bool) (hp : ∀ x ∈ l, Aa Tryz.prog Γ f (tK x :: cs) (tB (p x))) (hl : l.length ≤ 1000000000) : Aa Tryz.prog Γ 76 [.sl (Ad tK l) c nl, .fn f cs] (tB (l.any p)) := by
  refine Ac P0 rfl ?_
  simp (disch := omega) [G6, A0, A5]
  refine A3 (q3c l c nl f cs p hp hl) rfl ?_
  simp [ret, G7, Da, Et, Es, Aq]
  unfold Z3
  cases h : l.findIdx? p with
  | none =>
    rw [List.findIdx?_eq_none_iff] at h
    have : l.any p = false := by rw [List.any_eq_false]; intro x hx; simp [h x hx]
    simp [this]
  | some i =>
    rw [List.findIdx?_eq_some_iff_getElem] at h
    obtain ⟨hi, h1, _⟩ := h
    have : l.any p = true := List.any_eq_true.2 ⟨_, List.getElem_mem hi, h1⟩
    simp [this]
theorem q8Z (l : List Int) (c : Option Nat) (nl : Option Bool) (hl : l.length ≤ 1000000000) : Aa Tryz.prog Γ 128 [.sl (Av l) c nl] (tB (q5W l)) := by
  refine Ac q46 rfl ?_
  simp [Ye]
  refine A3 (q4y l c nl 0 hl) rfl ?_
  simp
  by_cases h : (0 : Int) ∈ l
  · simp [h]
    refine A3 (q4y l c nl 1 hl) rfl ?_
    simp [Q9, Aq, q5W, h]
  · simp [h, Q9, Aq, q5W]
theorem qF1 (v : Int) : Aa Tryz.prog Γ 154 [tK v] (tB (qDo v)) := by
  refine Ac q6a rfl ?_
  simp [q2H]
  refine A3 (q7l v) rfl ?_
  simp [q2I, Aq, qDo]
theorem qF2 (v : Int) : Aa Tryz.prog Γ 155 [tK v] (tB (qEv v)) := by
  refine Ac q6b rfl ?_
  simp [q2J, q2K, Aq, qEv]
theorem qF3 (l : List Int) (c : Option Nat) (nl : Option Bool) (hl : l.length ≤ 1000000000) : Aa Tryz.prog Γ 121 [.sl (Av l) c nl] (tK (q7d l)) := by
  refine Ac q8Y rfl ?_
  simp [q4u]
  refine A3 (q3c l c nl _ [] qEv (fun x _ => qF2 x) hl) rfl ?_
  unfold Z3
  cases h : l.findIdx? qEv with
  | none =>
    have hR : q7d l = 3 := by unfold q7d; rw [h]
    simp [Q8, Aq, hR]
  | some i =>
    have hb : q7d l = if q5W l = true ∨ l.any qDo = true then 2 else l.getD i 0 := by unfold q7d; rw [h]
    have hi : i < l.length := by
      rw [List.findIdx?_eq_some_iff_getElem] at h
      exact h.1
    have hget := B1 (f := tK) 0 hi
    have hgg : l[i]?.getD 0 = l.getD i 0 := by simp [List.getD_eq_getElem?_getD]
    rw [hgg] at hget
    have hneg : ¬ (i : Int) < 0 := by omega
    simp only
    simp [hneg]
    refine A3 (q8Z l c nl hl) rfl ?_
    by_cases h1 : q5W l = true
    · rw [if_pos (.inl h1)] at hb
      simp [h1, Q8, Aq, hb]
    · simp [h1]
      refine A3 (Dm l c nl _ [] qDo (fun x _ => qF1 x) hl) rfl ?_
      by_cases h2 : l.any qDo = true
      · rw [if_pos (.inr h2)] at hb
        simp only [h2]
        simp [Q8, Aq, hb]
      · rw [if_neg (by rintro (h | h); exact h1 h; exact h2 h)] at hb
        simp only [Bool.not_eq_true] at h2
        generalize q7d l = r at *
        subst hb
        simp only [h2]
        simp (disch := omega) [Q8, Aq, A0, A9, hget, hi]
theorem qDs (hΓ : GOk Γ) (k : Int) (hk : 0 ≤ k ∧ k ≤ 255) (l : List Int) (c : Option Nat) (nl : Option Bool) (hl : l.length ≤ 1000000000) (hv : ∀ v ∈ l, V4 v) : Aa Tryz.prog Γ 57 [tK k, .sl (Av l) c nl] (tK (q4k k l)) := by
  refine Ac q7k rfl ?_
  unfold q4k
  by_cases hw : q7e k l.length = true
  · rw [if_pos hw]
    simp only [q7e, decide_eq_true_eq] at hw
    simp [Bo]
    refine A3 (D7 hΓ k hk.1 hk.2) rfl ?_
    by_cases hw1 : (l.length : Int) < (U4 k).1
    · simp [A0, hw1, Bh, Aq]
    · have hw2 : (U4 k).2 < (l.length : Int) := by omega
      simp [A0, hw1, hw2, Bh, Aq]
  rw [if_neg hw]
  simp only [q7e, decide_eq_true_eq] at hw
  have hw1 : ¬ (l.length : Int) < (U4 k).1 := by omega
  have hw2 : ¬ (U4 k).2 < (l.length : Int) := by omega
  have hv0 : ∀ v ∈ l, 0 ≤ v := fun v h => (hv v h).1
  have ge : ∀ i, i < l.length → (Ad tK l)[i]?.getD [] = [tK (l.getD i 0)] := fun i hi => by
    have hget := B1 (f := tK) 0 hi
    have hgg : l[i]?.getD 0 = l.getD i 0 := by simp [List.getD_eq_getElem?_getD]
    rw [hgg] at hget
    exact hget
  have dA := Zt (low := 0) (l := l) (out := 1) (high := 1) (.inr rfl)
  have dO := Zt (low := 1) (l := l) (out := 0) (high := 0) (.inr rfl)
  have n1 : 0 ≤ N1 0 1 1 l := by rw [dA]; split; omega; split <;> omega
  have n2 : 0 ≤ N1 1 0 0 l := by rw [dO]; split; omega; split <;> omega
  have n3 : 0 ≤ q27 0 l := (qCE (by simp [V4]) hv).1
  have g0 := q5X hv 0
  by_cases e1 : k = 1
  · subst e1
    have hR : Eu 1 l = 0 := rfl
    generalize Eu 1 l = r at *
    subst hR
    simp [Bo]
    refine A3 (D7 hΓ 1 hk.1 hk.2) rfl ?_
    simp [A0, hw1, hw2, Bd, Bh, Aq]
  by_cases e2 : k = 2
  · subst e2
    have hR : Eu 2 l = 1 := rfl
    generalize Eu 2 l = r at *
    subst hR
    simp [Bo]
    refine A3 (D7 hΓ 2 hk.1 hk.2) rfl ?_
    simp [A0, hw1, hw2, Bd, Bh, Aq]
  by_cases e3 : k = 3
  · subst e3
    have f1 : (U4 3).1 = 1 := rfl
    have q0 : 0 < l.length := by omega
    have u0 := ge 0 q0
    have hR : Eu 3 l = Bn (l.getD 0 0) := rfl
    generalize l.getD 0 0 = x0 at *
    generalize Eu 3 l = r at *
    subst hR
    simp [Bo]
    refine A3 (D7 hΓ 3 hk.1 hk.2) rfl ?_
    simp [A0, hw1, hw2, Bd]
    simp (disch := omega) [A0, A9, q0, u0]
    refine A3 (Hg x0) rfl ?_
    simp [Bh, Aq]
  by_cases e4 : k = 4
  · subst e4
    have f1 : (U4 4).1 = 1 := rfl
    have q0 : 0 < l.length := by omega
    have u0 := ge 0 q0
    have p0 := g0.1
    have hR : Eu 4 l = Z5 (l.getD 0 0) := rfl
    generalize l.getD 0 0 = x0 at *
    generalize Eu 4 l = r at *
    subst hR
    simp [Bo]
    refine A3 (D7 hΓ 4 hk.1 hk.2) rfl ?_
    simp [A0, hw1, hw2, Bd]
    simp (disch := omega) [A0, A9, q0, u0]
    refine A3 (q4w x0 p0) rfl ?_
    simp [Bh, Aq]
  by_cases e5 : k = 5
  · subst e5
    have hR : Eu 5 l = N1 0 1 1 l := rfl
    generalize Eu 5 l = r at *
    subst hR
    simp [Bo]
    refine A3 (D7 hΓ 5 hk.1 hk.2) rfl ?_
    simp [A0, hw1, hw2, Bd]
    refine A3 (qAu l c nl hl) rfl ?_
    simp [Bh, Aq]
  by_cases e6 : k = 6
  · subst e6
    have hR : Eu 6 l = Z5 (N1 0 1 1 l) := rfl
    generalize Eu 6 l = r at *
    subst hR
    simp [Bo]
    refine A3 (D7 hΓ 6 hk.1 hk.2) rfl ?_
    simp [A0, hw1, hw2, Bd]
    refine A3 (qAu l c nl hl) rfl ?_
    simp
    refine A3 (q4w _ n1) rfl ?_
    simp [Bh, Aq]
  by_cases e7 : k = 7
  · subst e7
    have hR : Eu 7 l = N1 1 0 0 l := rfl
    generalize Eu 7 l = r at *
    subst hR
    simp [Bo]
    refine A3 (D7 hΓ 7 hk.1 hk.2) rfl ?_
    simp [A0, hw1, hw2, Bd]
    refine A3 (qCx l c nl hl) rfl ?_
    simp [Bh, Aq]
  by_cases e8 : k = 8
  · subst e8
    have hR : Eu 8 l = Z5 (N1 1 0 0 l) := rfl
    generalize Eu 8 l = r at *
    subst hR
    simp [Bo]
    refine A3 (D7 hΓ 8 hk.1 hk.2) rfl ?_
    simp [A0, hw1, hw2, Bd]
    refine A3 (qCx l c nl hl) rfl ?_
    simp
    refine A3 (q4w _ n2) rfl ?_
    simp [Bh, Aq]
  by_cases e9 : k = 9
  · subst e9
    have hR : Eu 9 l = q27 0 l := rfl
    generalize Eu 9 l = r at *
    subst hR
    simp [Bo]
    refine A3 (D7 hΓ 9 hk.1 hk.2) rfl ?_
    simp [A0, hw1, hw2, Bd]
    refine A3 (qAw l c nl hl hv0) rfl ?_
    simp [Bh, Aq]
  by_cases e10 : k = 10
  · subst e10
    have hR : Eu 10 l = Z5 (q27 0 l) := rfl
    generalize Eu 10 l = r at *
    subst hR
    simp [Bo]
    refine A3 (D7 hΓ 10 hk.1 hk.2) rfl ?_
    simp [A0, hw1, hw2, Bd]
    refine A3 (qAw l c nl hl hv0) rfl ?_
    simp
    refine A3 (q4w _ n3) rfl ?_
    simp [Bh, Aq]
  by_cases e11 : k = 11
  · subst e11
    have f1 : (U4 11).1 = 3 := rfl
    have q0 : 0 < l.length := by omega
    have u0 := ge 0 q0
    have q1 : 1 < l.length := by omega
    have u1 := ge 1 q1
    have q2 : 2 < l.length := by omega
    have u2 := ge 2 q2
    have hR : Eu 11 l = q8S (l.getD 0 0) (l.getD 1 0) (l.getD 2 0) := rfl
    generalize l.getD 0 0 = x0 at *
    generalize l.getD 1 0 = x1 at *
    generalize l.getD 2 0 = x2 at *
    generalize Eu 11 l = r at *
    subst hR
    simp [Bo]
    refine A3 (D7 hΓ 11 hk.1 hk.2) rfl ?_
    simp [A0, hw1, hw2, Bd]
    simp (disch := omega) [A0, A9, q0, u0, q1, u1, q2, u2]
    refine ⟨by omega, by omega, ?_⟩
    refine A3 (qEz x0 x1 x2) rfl ?_
    simp [Bh, Aq]
  by_cases e12 : k = 12
  · subst e12
    have f1 : (U4 12).1 = 2 := rfl
    have q0 : 0 < l.length := by omega
    have u0 := ge 0 q0
    have q1 : 1 < l.length := by omega
    have u1 := ge 1 q1
    have hR : Eu 12 l = q9s (l.getD 0 0) (l.getD 1 0) := rfl
    generalize l.getD 0 0 = x0 at *
    generalize l.getD 1 0 = x1 at *
    generalize Eu 12 l = r at *
    subst hR
    simp [Bo]
    refine A3 (D7 hΓ 12 hk.1 hk.2) rfl ?_
    simp [A0, hw1, hw2, Bd]
    simp (disch := omega) [A0, A9, q0, u0, q1, u1]
    refine ⟨by omega, ?_⟩
    refine A3 (qF0 x0 x1) rfl ?_
    simp [Bh, Aq]
  by_cases e13 : k = 13
  · subst e13
    have hR : Eu 13 l = q7d l := rfl
    generalize Eu 13 l = r at *
    subst hR
    simp [Bo]
    refine A3 (D7 hΓ 13 hk.1 hk.2) rfl ?_
    simp [A0, hw1, hw2, Bd]
    refine A3 (qF3 l c nl hl) rfl ?_
    simp [Bh, Aq]
  have ek : Eu k l = 2 := by
    unfold Eu
    rw [if_neg e1, if_neg e2, if_neg e3, if_neg e4, if_neg e5, if_neg e6, if_neg e7, if_neg e8, if_neg e9, if_neg e10, if_neg e11, if_neg e12, if_neg e13]
  rw [ek]
  simp [Bo]
  refine A3 (D7 hΓ k hk.1 hk.2) rfl ?_
  simp [A0, hw1, hw2, Bh, Aq, e1, e2, e3, e4, e5, e6, e7, e8, e9, e10, e11, e12, e13]
end Go.Lg
namespace Go.Lg
open Go
section
variable {P : Program} {Γ : Tables} {Q : AX → St → Prop} {s : St}
/- slices.SortStableFunc[[]int,int] (function 110) -/
abbrev Iu : IC := (.reg [om 4 0, om 5 0, od 6 (le 0 5), om 7 1, od 8 (.hcall 150 [(tm 4), (tm 6), (tm 7)] [1000000] 8000)] [kp [] [1000000]])
def Iw : List RV := []
/- slices.stableCmpFunc[int] (function 150) -/
abbrev Jl : IC := .gh (.seq (.seq (.reg [om 11 8, om 12 1, od 13 (.bin .leq (tm 11) (tm 12))] [kp [0, 1, 2, 6, 7, 8, 13] [1000000]]) (.cond (tm 13) .skip (.exit 0))) (.block 1 (.seq (.reg [om 14 0, om 15 7, om 16 8, om 17 2, od 18 (.hcall 177 [(tm
 14), (tm 15), (tm 16), (tm 17)] [1000000] 18000)] [kp [0, 1, 2, 6, 8] [1000000]]) (.seq (.reg [om 19 8, om 7 19] [kp [0, 1, 2, 6, 7, 8] [1000000]]) (.reg [om 20 8, om 21 6, od 22 (.bin .add (tm 20) (tm 21)), om 8 22] [kp [0, 1, 2,
 6, 7, 8] [1000000]]))))) [kp [0, 1, 2, 6, 7, 8] [1000000]]
def Ek : IC := .loop Jl
abbrev Vq : IC := .gh (.seq (.seq (.reg [om 33 8, om 34 1, od 35 (.bin .leq (tm 33) (tm 34))] [kp [0, 1, 2, 6, 7, 8, 35] [1000000]]) (.cond (tm 35) .skip (.exit 4))) (.block 5 (.seq (.reg [om 36 0, om 37 7, om 38 7, om 39 6, od 40 (.bin .add (tm 38)
 (tm 39)), om 41 8, om 42 2, od 43 (.hcall 178 [(tm 36), (tm 37), (tm 40), (tm 41), (tm 42)] [1000000] 43000)] [kp [0, 1, 2, 6, 8] [1000000]]) (.seq (.reg [om 44 8, om 7 44] [kp [0, 1, 2, 6, 7, 8] [1000000]]) (.reg [om 45 8, om 46
 6, od 47 (.bin .mul (ki 2) (tm 46)), od 48 (.bin .add (tm 45) (tm 47)), om 8 48] [kp [0, 1, 2, 6, 7, 8] [1000000]]))))) [kp [0, 1, 2, 6, 7, 8] [1000000]]
def Vr : IC := .loop Vq
abbrev Jm : IC := .gh (.seq (.seq (.reg [om 28 6, om 29 1, od 30 (.bin .lss (tm 28) (tm 29))] [kp [0, 1, 2, 6, 30] [1000000]]) (.cond (tm 30) .skip (.exit 2))) (.block 3 (.seq (.reg [om 31 6, od 32 (.bin .mul (ki 2) (tm 31)), od 7 (.mv (ki 0)), om 8
 32] [kp [0, 1, 2, 6, 7, 8] [1000000]]) (.seq (.block 4 Vr) (.seq (.seq (.reg [om 49 7, om 50 6, od 51 (.bin .add (tm 49) (tm 50)), om 9 51] [kp [0, 1, 2, 6, 7, 9] [1000000]]) (.seq (.reg [om 52 9, om 53 1,
 od 54 (.bin .lss (tm 52) (tm 53))] [kp [0, 1, 2, 6, 7, 9, 54] [1000000]]) (.cond (tm 54) (.reg [om 55 0, om 56 7, om 57 9, om 58 1, om 59 2, od 60 (.hcall 178 [(tm 55), (tm 56), (tm 57), (tm 58), (tm 59)] [1000000] 60000)] [kp [0,
 1, 2, 6] [1000000]]) .skip))) (.reg [om 61 6, od 62 (.bin .mul (tm 61) (ki 2)), om 6 62] [kp [0, 1, 2, 6] [1000000]])))))) [kp [0, 1, 2, 6] [1000000]]
def Em : IC := .loop Jm
abbrev Jn : IC := (.seq (.reg [od 6 (.mv (ki 20))] [kp [0, 1, 2, 6] [1000000]]) (.seq (.reg [om 10 6, od 7 (.mv (ki 0)), om 8 10] [kp [0, 1, 2, 6, 7, 8] [1000000]]) (.seq (.block 0 Ek) (.seq (.reg [om 23 0, om 24 7, om 25 1,
 om 26 2, od 27 (.hcall 177 [(tm 23), (tm 24), (tm 25), (tm 26)] [1000000] 27000)] [kp [0, 1, 2, 6] [1000000]]) (.block 2 Em)))))
theorem Qr (h : ∀ K : St → Prop, K = run P Γ Ek Q → run P Γ Jl (Ar K Q) s) : run P Γ Ek Q s := Ah h
theorem Qs (h : ∀ K : St → Prop, K = run P Γ Em Q → run P Γ Jm (Ar K Q) s) : run P Γ Em Q s := Ah h
def Jo : List RV := []
/- slices.insertionSortCmpFunc[int] (function 177) -/
abbrev F7 : IC := .gh (.seq (.seq (.reg [om 18 9, om 19 1, od 20 (.bin .gtr (tm 18) (tm 19)), om 21 20, oT 22 (.mv (tm 3)) 21, oT 23 (.mv (tm 0)) 21, oT 24 (.mv (tm 9)) 21, oT 25 (ia 1 23 24) 21, oT 26 (ld 1 25) 21, oT 27 (.mv (tm 0)) 21, oT 28 (.mv
 (tm 9)) 21, oT 29 (.bin .sub (tm 28) (ki 1)) 21, oT 30 (ia 1 27 29) 21, oT 31 (ld 1 30) 21, oT 32 (.callv (tm 22) [(tm 26), (tm 31)]) 21, oT 33 (.bin .lss (tm 32) (ki 0)) 21, od 34 (.pick (tm 21) (tm 33) kF)] [kp [0, 1, 2, 3, 8, 9,
 34] [1000000]]) (.cond (tm 34) .skip (.exit 2))) (.seq (.block 3 (.reg [om 37 0, om 38 9, om 39 0, om 40 9, od 41 (.bin .sub (tm 40) (ki 1)), om 42 0, om 43 9, od 44 (.bin .sub (tm 43) (ki 1)), od 45 (ia 1 42 44), od 46 (.ldR
 1000000 1 false (tm 45)), om 47 0, om 48 9, od 49 (ia 1 47 48), od 50 (.ldR 1000000 1 false (tm 49)), od 51 (ia 1 37 38), on (.stR 1000000 1 (tm 51) (tm 46)), od 52 (ia 1 39 41), on (.stR 1000000 1 (tm 52) (tm 50))] [kp [0, 1, 2,
 3, 8, 9] [1000000]])) (.reg [om 35 9, od 36 (.bin .sub (tm 35) (ki 1)), om 9 36] [kp [0, 1, 2, 3, 8, 9] [1000000]]))) [kp [0, 1, 2, 3, 8, 9] [1000000]]
def C0 : IC := .loop F7
abbrev F8 : IC := .gh (.seq (.seq (.reg [om 12 8, om 13 2, od 14 (.bin .lss (tm 12) (tm 13))] [kp [0, 1, 2, 3, 8, 14] [1000000]]) (.cond (tm 14) .skip (.exit 0))) (.seq (.block 1 (.seq (.reg [om 17 8, om 9 17] [kp [0, 1, 2, 3, 8, 9] [1000000]])
 (.block 2 C0))) (.reg [om 15 8, od 16 (.bin .add (tm 15) (ki 1)), om 8 16] [kp [0, 1, 2, 3, 8] [1000000]]))) [kp [0, 1, 2, 3, 8] [1000000]]
def C2 : IC := .loop F8
abbrev F9 : IC := (.seq (.reg [om 10 1, od 11 (.bin .add (tm 10) (ki 1)), om 8 11] [kp [0, 1, 2, 3, 8] [1000000]]) (.block 0 C2))
theorem E7 (h : ∀ K : St → Prop, K = run P Γ C0 Q → run P Γ F7 (Ar K Q) s) : run P Γ C0 Q s := Ah h
theorem E8 (h : ∀ K : St → Prop, K = run P Γ C2 Q → run P Γ F8 (Ar K Q) s) : run P Γ C2 Q s := Ah h
def Fa : List RV := []
/- probecard/netlists.Order (function 53) -/
abbrev Yg : IC := .gh (.seq (.reg [od 23 (.bin .lss (tm 22) (tm 21))] [kp [4, 6, 21, 22, 23] [19]]) (.seq (.cond (tm 23) .skip (.exit 0)) (.seq (.block 1 (.seq (.reg [om 24 22, om 7 24] [kp [4, 6, 7, 21, 22] [19]]) (.reg [om 25 6, om 26 7, om 27 7,
 od 28 (ia 1 25 26), on (.store 1 (tm 28) (tm 27))] [kp [4, 6, 21, 22] [19]]))) (.reg [od 29 (.bin .add (tm 22) (ki 1)), om 22 29] [kp [4, 6, 21, 22] [19]])))) [kp [4, 6, 21, 22] [19]]
def Jp : IC := .loop Yg
abbrev Yh : IC := (.seq (.reg [od 1 (.box true (tm 0)), od 2 (.mv kN), od 3 (.mv (ki 0))] [kp [1] []]) (.seq (.reg [od 9 (lG 4 1), od 10 (.call 109 [(tm 9)]), om 8 10, od 11 (ex 8 0), od 12 (ex 8 1), od 4 (.alloc false [(.slice none 0 0)]), on
 (.store 1 (tm 4) (tm 11)), om 5 12] [.frz 4, kp [1, 4, 5] []]) (.seq (.seq (.reg [om 13 5, od 14 (.bin .neq (tm 13) (ki 0))] [kp [1, 4, 5, 14] []]) (.cond (tm 14) (.seq (.reg [om 15 5, od 2 (.mv kN), om 3 15] [kp [2, 3] [19]])
 .ret) .skip)) (.seq (.reg [od 16 (fa 0 1), od 17 (ld 1 16), od 18 (le 0 17), od 19 (.mk 3 1 [(.int .i64 0)] (tm 18) (tm 18)), om 6 19] [kp [4, 6] [19]]) (.seq (.seq (.reg [om 20 6, od 21 (le 0 20), od 22 (.mv (ki 0))] [kp [4, 6,
 21, 22] [19]]) (.block 0 Jp)) (.seq (.reg [om 30 6, od 31 (.mkf 111 [(tm 4)]), od 32 (.hcall 110 [(tm 30), (tm 31)] [19] 32000)] [kp [6] [19]]) (.seq (.reg [om 33 6, om 2 33, od 3 (.mv (ki 0))] [kp [2, 3] [19]])
 .ret)))))))
theorem Rb (h : ∀ K : St → Prop, K = run P Γ Jp Q → run P Γ Yg (Ar K Q) s) : run P Γ Jp Q s := Ah h
def Qa : List RV := [.tmp 2, .tmp 3]
/- probecard/netlists.Order$1 (function 111) -/
abbrev Uy : IC := (.seq (.reg [od 5 (.mv (ki 0))] [kp [0, 1, 2] []]) (.seq (.reg [od 6 (ld 1 2), om 7 0, od 8 (ia 1 6 7), od 9 (ld 1 8), od 10 (ld 1 2), om 11 1, od 12 (ia 1 10 11), od 13 (ld 1 12), od 14 (.call 112 [(tm 9), (tm 13)]), om 5 14] [kp
 [5] []]) .ret))
def Uz : List RV := [.tmp 5]
/- cmp.Compare[int] (function 112) -/
abbrev X8 : IC := (.seq (.reg [od 4 (.mv (ki 0))] [kp [0, 1] []]) (.seq (.reg [om 7 0, od 8 (.call 151 [(tm 7)]), om 5 8] [kp [0, 1, 5] []]) (.seq (.reg [om 9 1, od 10 (.call 151 [(tm 9)]), om 6 10] [kp [0, 1, 5, 6] []]) (.seq (.seq (.reg [om 11 5]
 [kp [0, 1, 6, 11] []]) (.cond (tm 11) (.seq (.seq (.reg [om 12 6] [kp [12] []]) (.cond (tm 12) (.seq (.reg [od 4 (.mv (ki 0))] [kp [4] []]) .ret) .skip)) (.seq (.reg [od 4 (.mv (.const (.int .i64 (-1))))] [kp [4] []]) .ret))
 .skip)) (.seq (.seq (.reg [om 13 6] [kp [0, 1, 13] []]) (.cond (tm 13) (.seq (.reg [od 4 (.mv (ki 1))] [kp [4] []]) .ret) .skip)) (.seq (.seq (.reg [om 14 0, om 15 1, od 16 (.bin .lss (tm 14) (tm 15))] [kp [0, 1, 16] []]) (.cond
 (tm 16) (.seq (.reg [od 4 (.mv (.const (.int .i64 (-1))))] [kp [4] []]) .ret) .skip)) (.seq (.seq (.reg [om 17 0, om 18 1, od 19 (.bin .gtr (tm 17) (tm 18))] [kp [19] []]) (.cond (tm 19) (.seq (.reg [od 4 (.mv (ki 1))] [kp [4] []])
 .ret) .skip)) (.seq (.reg [od 4 (.mv (ki 0))] [kp [4] []]) .ret))))))))
def Ny : List RV := [.tmp 4]
/- cmp.isNaN[int] (function 151) -/
abbrev Zx : IC := (.seq (.reg [od 2 (.mv kF)] [kp [0] []]) (.seq (.reg [om 3 0, om 4 0, od 5 (.bin .neq (tm 3) (tm 4)), om 2 5] [kp [2] []]) .ret))
def Zy : List RV := [.tmp 2]
end
end Go.Lg
namespace Go.Lg
open Go Go.Proofs
theorem Tt : Aw Tryz.prog 110 Iu 9 2 Iw = true := by kernel_rfl
theorem Ub : Aw Tryz.prog 150 Jn 63 3 Jo = true := by kernel_rfl
theorem N5 : Aw Tryz.prog 177 F9 53 4 Fa = true := by kernel_rfl
theorem q48 : Aw Tryz.prog 53 Yh 34 1 Qa = true := by kernel_rfl
theorem q2M : Aw Tryz.prog 111 Uy 15 3 Uz = true := by kernel_rfl
theorem q3A : Aw Tryz.prog 112 X8 20 2 Ny = true := by kernel_rfl
theorem q4z : Aw Tryz.prog 151 Zx 6 1 Zy = true := by kernel_rfl
end Go.Lg
namespace Go.Lg
open Go Go.Proofs
variable {Γ : Tables}
theorem qAx {hp : List (Nat × Bf)} {f : FuncId} {K : T → Prop} {cs : List T} {t u res : T} (h : Aa Tryz.prog Γ f (t :: u :: cs) res) (hk : K res) : q64 Tryz.prog Γ hp f (.t t :: .t u :: cs.map .t) K ⟨⟩ :=
  A3 h (by simp only [List.map_cons, List.map_map, Function.comp_def, B2, Aj]; rw [q1z]; rfl) hk
theorem qF4 {l : List Int} {a b : Nat} : Ak (Uu l a b) = ((Ak l).set a [tI (l.getD b 0)]).set b [tI (l.getD a 0)] := by
  show Ad tI _ = ((Ad tI l).set a _).set b _
  rw [F6, F6]; rfl
theorem ge1 {f : Int → T} {l : List Int} {i : Nat} (hi : i < l.length) : (Ad f l)[i]?.getD [] = [f (l.getD i 0)] := by
  have hget := B1 (f := f) 0 hi
  have hgg : l[i]?.getD 0 = l.getD i 0 := by simp [List.getD_eq_getElem?_getD]
  rw [hgg] at hget
  exact hget
theorem q99 {Q : AX → St → Prop} (ty n : Nat) (cap : Option Nat) (hn : n ≤ 1000000000) (f : FuncId) (cs : List T) (cmp : Int → Int → Int) (i : Nat) (hi : i < n) (R : List Int)
    (h0 : ∀ j : Int, Q (.exit 2) ⟨[(0, .ls 1000000 0 n cap), (1, .t (tI 0)), (2, .t (tI n)), (3, .t (.fn f cs)), (8, .t (tI i)), (9, .t (tI j)), (34, .t (tB false))], [(1000000, .sl ty 1 (Ak R))]⟩) :
    ∀ (j : Nat) (l : List Int), j ≤ i → l.length = n → (∀ x ∈ l, ∀ y ∈ l, Aa Tryz.prog Γ f (tI x :: tI y :: cs) (tI (cmp x y))) → q7g (fun a b => decide (cmp a b < 0)) j l = R →
    run Tryz.prog Γ C0 Q ⟨[(0, .ls 1000000 0 n cap), (1, .t (tI 0)), (2, .t (tI n)), (3, .t (.fn f cs)), (8, .t (tI i)), (9, .t (tI j))], [(1000000, .sl ty 1 (Ak l))]⟩
  | 0, l, hj, hl, hc, hR => by
    refine E7 fun K hK => ?_
    simp only [q7g] at hR
    subst hR
    simp
    exact h0 0
  | j + 1, l, hj, hl, hc, hR => by
    refine E7 fun K hK => ?_
    simp only [q7g] at hR
    have la : j < l.length := by omega
    have lb : j + 1 < l.length := by omega
    have e1 := ge1 (f := tI) la
    have e2 := ge1 (f := tI) lb
    have m1 : l.getD j 0 ∈ l := by rw [Cc la]; exact List.getElem_mem la
    have m2 : l.getD (j + 1) 0 ∈ l := by rw [Cc lb]; exact List.getElem_mem lb
    have hcc := hc _ m2 _ m1
    have hs := qF4 (l := l) (a := j + 1) (b := j)
    have hperm : (Uu l (j + 1) j).Perm l := q42 lb la
    have hpl := Zs (l := l) (a := j + 1) (b := j)
    have hcs : ∀ x ∈ Uu l (j + 1) j, ∀ y ∈ Uu l (j + 1) j, Aa Tryz.prog Γ f (tI x :: tI y :: cs) (tI (cmp x y)) := fun x hx y hy => hc x (hperm.mem_iff.1 hx) y (hperm.mem_iff.1 hy)
    have ih := q99 ty n cap hn f cs cmp i hi R h0 j (Uu l (j + 1) j) (by omega) (by rw [hpl]; exact hl) hcs
    generalize Uu l (j + 1) j = l' at *
    generalize l.getD j 0 = va at *
    generalize l.getD (j + 1) 0 = vb at *
    have hj1 : (0 : Int) < (j : Int) + 1 := by omega
    have hj2 : ((j : Int) + 1).toNat = j + 1 := by omega
    have hj3 : (j : Int) + 1 < n := by omega
    have hj4 : (j : Int) < n := by omega
    have hj5 : (j : Int) + 1 - 1 = j := by omega
    have lan : j < n := by omega
    have lbn : j + 1 < n := by omega
    simp (disch := omega) [hj1, hj2, hj3, hj4, hj5, lan, lbn, A0, A9, hl, e1, e2, A5]
    refine ⟨by omega, qAx hcc ?_⟩
    by_cases h : cmp vb va < 0
    · rw [if_pos (by simpa using h)] at hR
      have ih := ih hR
      rw [hs] at ih
      simp (disch := omega) [h, hj1, hj2, hj3, hj4, hj5, lan, lbn, A0, A9, hl, e1, e2, A5]
      refine ⟨by omega, ?_⟩
      rw [hK]
      exact_mod_cast ih
    · rw [if_neg (by simpa using h)] at hR
      subst hR
      simp (disch := omega) [h]
      exact_mod_cast h0 (j + 1)
theorem qAy {Q : AX → St → Prop} (ty n : Nat) (cap : Option Nat) (hn : n ≤ 1000000000) (f : FuncId) (cs : List T) (cmp : Int → Int → Int) (R : List Int)
    (h0 : ∀ i : Int, Q (.exit 0) ⟨[(0, .ls 1000000 0 n cap), (1, .t (tI 0)), (2, .t (tI n)), (3, .t (.fn f cs)), (8, .t (tI i)), (14, .t (tB false))], [(1000000, .sl ty 1 (Ak R))]⟩) :
    ∀ (k i : Nat) (l : List Int), 1 ≤ i → i + k = max 1 n → l.length = n → (∀ x ∈ l, ∀ y ∈ l, Aa Tryz.prog Γ f (tI x :: tI y :: cs) (tI (cmp x y))) → q2B (fun a b => decide (cmp a b < 0)) k i l = R →
    run Tryz.prog Γ C2 Q ⟨[(0, .ls 1000000 0 n cap), (1, .t (tI 0)), (2, .t (tI n)), (3, .t (.fn f cs)), (8, .t (tI i))], [(1000000, .sl ty 1 (Ak l))]⟩
  | 0, i, l, h1, h, hl, hc, hR => by
    refine E8 fun K hK => ?_
    simp only [q2B] at hR
    subst hR
    have h2 : ¬ (i : Int) < n := by omega
    have h2' : ¬ i < n := by omega
    simp [h2, h2']
    exact h0 _
  | k + 1, i, l, h1, h, hl, hc, hR => by
    refine E8 fun K hK => ?_
    simp only [q2B] at hR
    have h2 : (i : Int) < n := by omega
    have h2' : i < n := by omega
    have hperm := q2v (lt := fun a b => decide (cmp a b < 0)) (j := i) (l := l) (by omega)
    have ih := qAy ty n cap hn f cs cmp R h0 k (i + 1) (q7g (fun a b => decide (cmp a b < 0)) i l) (by omega) (by omega) (by rw [hperm.length_eq]; exact hl) (fun x hx y hy => hc x (hperm.mem_iff.1 hx) y (hperm.mem_iff.1 hy)) hR
    have hlp := fun Q h0 => q99 (Γ := Γ) (Q := Q) ty n cap hn f cs cmp i h2' _ h0 i l (Nat.le_refl _) hl hc rfl
    simp (disch := omega) [h2, h2', A5]
    refine hlp _ fun j => ?_
    simp (disch := omega) [A5]
    rw [hK]
    exact_mod_cast ih
theorem qAz (ty n : Nat) (cap : Option Nat) (hn : n ≤ 1000000000) (f : FuncId) (cs : List T) (cmp : Int → Int → Int) (l : List Int) (hl : l.length = n) (hc : ∀ x ∈ l, ∀ y ∈ l, Aa Tryz.prog Γ f (tI x :: tI y :: cs) (tI (cmp x y))) :
    Ef Tryz.prog Γ 177 [(1000000, .sl ty 1 (Ak l))] [.ls 1000000 0 n cap, .t (tI 0), .t (tI n), .t (.fn f cs)] (.t (.tup [])) [(1000000, .sl ty 1 (Ak (q2B (fun a b => decide (cmp a b < 0)) (n - 1) 1 l)))] := by
  refine Ey N5 rfl ?_
  have hlp := fun Q h0 => qAy (Γ := Γ) (Q := Q) ty n cap hn f cs cmp _ h0 (n - 1) 1 l (by omega) (by omega) hl hc rfl
  simp (disch := omega) [F9, A5]
  refine hlp _ fun i => ?_
  simp [Fa]
theorem q9A {lt : Int → Int → Bool} : ∀ {f i : Nat} {l : List Int}, i + f ≤ l.length ∨ f = 0 → (q2B lt f i l).Perm l
  | 0, i, l, _ => List.Perm.refl l
  | f + 1, i, l, h => by
    simp only [q2B]
    have hp := q2v (lt := lt) (j := i) (l := l) (by omega)
    exact (q9A (by rw [hp.length_eq]; omega)).trans hp
theorem qB0 {lt : Int → Int → Bool} {l : List Int} {n : Nat} (h : l.length = n) : (q2B lt (n - 1) 1 l).length = l.length := (q9A (by omega)).length_eq
theorem qF5 (ty n : Nat) (cap : Option Nat) (hn : n ≤ 19) (f : FuncId) (cs : List T) (cmp : Int → Int → Int) (l : List Int) (hl : l.length = n) (hc : ∀ x ∈ l, ∀ y ∈ l, Aa Tryz.prog Γ f (tI x :: tI y :: cs) (tI (cmp x y))) :
    Ef Tryz.prog Γ 150 [(1000000, .sl ty 1 (Ak l))] [.ls 1000000 0 n cap, .t (tI n), .t (.fn f cs)] (.t (.tup [])) [(1000000, .sl ty 1 (Ak (q2B (fun a b => decide (cmp a b < 0)) (n - 1) 1 l)))] := by
  refine Ey Ub rfl ?_
  have hi := qAz (Γ := Γ) ty n cap (by omega) f cs cmp l hl hc
  simp (disch := omega) [Jn, A5]
  have hR := qB0 (lt := fun a b => decide (cmp a b < 0)) hl
  generalize q2B (fun a b => decide (cmp a b < 0)) (n - 1) 1 l = R at *
  refine Qr fun K hK => ?_
  have h1 : ¬ (20 : Int) ≤ n := by omega
  have h2 : ¬ 20 ≤ n := by omega
  have h3 : ¬ (20 : Int) < n := by omega
  have h4 : ¬ 20 < n := by omega
  simp [h1, h2]
  refine ⟨_, _, hi, ?_⟩
  simp [A0, hR]
  refine Qs fun K hK => ?_
  simp [h3, h4, Jo]
theorem qIA (ty n : Nat) (cap : Option Nat) (hn : n ≤ 19) (f : FuncId) (cs : List T) (cmp : Int → Int → Int) (l : List Int) (hl : l.length = n) (hc : ∀ x ∈ l, ∀ y ∈ l, Aa Tryz.prog Γ f (tI x :: tI y :: cs) (tI (cmp x y))) :
    Ef Tryz.prog Γ 110 [(1000000, .sl ty 1 (Ak l))] [.ls 1000000 0 n cap, .t (.fn f cs)] (.t (.tup [])) [(1000000, .sl ty 1 (Ak (q2B (fun a b => decide (cmp a b < 0)) (n - 1) 1 l)))] := by
  refine Ey Tt rfl ?_
  have hi := qF5 (Γ := Γ) ty n cap hn f cs cmp l hl hc
  have hR := qB0 (lt := fun a b => decide (cmp a b < 0)) hl
  generalize q2B (fun a b => decide (cmp a b < 0)) (n - 1) 1 l = R at *
  simp (disch := omega) [Iu, A5]
  refine ⟨_, _, hi, ?_⟩
  simp [Iw, A0, hR]
theorem qB1 (n : Int) : Aa Tryz.prog Γ 151 [tI n] (tB false) := by
  refine Ac q4z rfl ?_
  simp [Zx, Zy, Aq]
def qCG (a b : Int) : Int := if a < b then -1 else if b < a then 1 else 0
theorem qF6 (a b : Int) : Aa Tryz.prog Γ 112 [tI a, tI b] (tI (qCG a b)) := by
  refine Ac q3A rfl ?_
  simp [X8]
  refine A3 (qB1 a) rfl ?_
  simp
  refine A3 (qB1 b) rfl ?_
  by_cases h : a < b
  · simp [h, Ny, Aq, qCG]
  · by_cases h1 : b < a <;> simp [h, h1, Ny, Aq, qCG]
def qGV (c : B9) : T := .sl (Ak (Nw c).2.out) none none
theorem qB2 (c : B9) (h : Do c = 0) (a b : Int) (ha : 0 ≤ a ∧ a < c.nodes.l.length) (hb : 0 ≤ b ∧ b < c.nodes.l.length) : Aa Tryz.prog Γ 111 [tI a, tI b, .ip [qGV c] 0] (tI (qCG (R9 c a.toNat) (R9 c b.toNat))) := by
  refine Ac q2M rfl ?_
  have hl := (qI8 h).1
  have e1 := ge1 (f := tI) (l := (Nw c).2.out) (i := a.toNat) (by omega)
  have e2 := ge1 (f := tI) (l := (Nw c).2.out) (i := b.toNat) (by omega)
  unfold R9 qGV
  generalize (Nw c).2.out.getD a.toNat 0 = va at *
  generalize (Nw c).2.out.getD b.toNat 0 = vb at *
  simp (disch := omega) [Uy, A0, A9, hl, e1, e2, ha, hb]
  refine A3 (qF6 _ _) rfl ?_
  simp [Uz, Aq]
theorem q7m {Q : AX → St → Prop} (n : Nat) (hn : n ≤ 1000000000) (a4 : T)
    (h0 : Q (.exit 0) ⟨[(4, .t a4), (6, .ls 19 0 n none), (21, .t (tI n)), (22, .t (tI n)), (23, .t (tB false))], [(19, .sl 3 1 (Ak (rng n)))]⟩) : ∀ (k i : Nat), k + i = n →
    run Tryz.prog Γ Jp Q ⟨[(4, .t a4), (6, .ls 19 0 n none), (21, .t (tI n)), (22, .t (tI i))], [(19, .sl 3 1 (Ak (rng i ++ List.replicate (n - i) 0)))]⟩
  | 0, i, h => by
    refine Rb fun K hK => ?_
    have h2 : i = n := by omega
    subst h2
    simp
    simpa using h0
  | k + 1, i, h => by
    refine Rb fun K hK => ?_
    have ih := q7m n hn a4 h0 k (i + 1) (by omega)
    have h2 : i < n := by omega
    have hs : (Ak (rng i ++ List.replicate (n - i) 0)).set i [tI i] = Ak (rng (i + 1) ++ List.replicate (n - (i + 1)) 0) := by
      show (Ad tI _).set i [tI i] = Ad tI _
      rw [F6]
      congr 1
      have e : n - i = (n - (i + 1)) + 1 := by omega
      rw [e, List.replicate_succ, List.set_append, if_neg (by rw [Vl]; omega), Vl, Nat.sub_self]
      simp [rng, List.range_succ]
    have hlen : (Ak (rng i ++ List.replicate (n - i) 0)).length = n := by rw [A0]; simp [Vl]; omega
    generalize Ak (rng i ++ List.replicate (n - i) 0) = E at *
    simp (disch := omega) [h2, hlen, hs, A5]
    rw [hK]
    exact_mod_cast ih
theorem qCH (hΓ : GOk Γ) (c : B9) (hc : COk c) (hn : c.nodes.l.length ≤ 19) :
    Aa Tryz.prog Γ 53 [.agg (tC c)] (.tup [if Do c = 0 then .sl (Ak (Ua c)) none none else .sl [] (some 0) (some true), tI (Do c)]) := by
  refine Ac q48 rfl ?_
  have e1 := q6B hΓ c hc.toCirOk hc.asc
  simp [Yh, tC, Ab, Af, Am, As]
  refine A3 e1 rfl ?_
  by_cases h : Do c = 0
  case neg => simp [h, Qa, St.freeze, Bf.closed, D6, frz1, frz0, F4, del, Aj]
  have hlp := fun Q h0 => q7m (Γ := Γ) (Q := Q) c.nodes.l.length (by omega) (.ip [qGV c] 0) h0 c.nodes.l.length 0 (by omega)
  have hz : List.replicate c.nodes.l.length [T.v (Value.int .i64 0)] = Ak (rng 0 ++ List.replicate (c.nodes.l.length - 0) 0) := by simp [Ad, rng]
  have hsort := qIA (Γ := Γ) 3 c.nodes.l.length none hn 111 [.ip [qGV c] 0] (fun a b => qCG (R9 c a.toNat) (R9 c b.toNat)) (rng c.nodes.l.length) Vl (fun x hx y hy => qB2 c h x y (q9u.1 hx) (q9u.1 hy))
  have hlt : (fun a b => decide (qCG (R9 c a.toNat) (R9 c b.toNat) < 0)) = qCw c := by
    funext a b
    simp only [qCw, qCG]
    by_cases h1 : R9 c a.toNat < R9 c b.toNat
    · simp [h1]
    · by_cases h2 : R9 c b.toNat < R9 c a.toNat <;> simp [h1, h2]
  rw [hlt] at hsort
  have ho : q2B (qCw c) (c.nodes.l.length - 1) 1 (rng c.nodes.l.length) = Ua c := rfl
  rw [ho] at hsort
  have holen : (Ua c).length = c.nodes.l.length := by rw [(q5a c).1.length_eq, Vl]
  simp [h, Ae, A5, St.freeze, Bf.closed, D6, frz1, frz0, F4, del, Aj]
  refine ⟨by omega, ?_⟩
  rw [hz]
  refine hlp _ ?_
  simp
  refine ⟨_, _, hsort, ?_⟩
  have htk : (Ak (Ua c)).take c.nodes.l.length = Ak (Ua c) := List.take_of_length_le (by rw [A0, holen]; exact Nat.le_refl _)
  simp [A0, Vl, holen, Qa, Aj, htk, h]
end Go.Lg
namespace Go.Lg
open Go
section
variable {P : Program} {Γ : Tables} {Q : AX → St → Prop} {s : St}
/- probecard/sims.fits (function 54) -/
abbrev q0c : IC := (.seq (.reg [od 2 (.box true (tm 0)), od 3 (.box true (tm 1)), od 4 (.mv (ki 0))] [kp [2, 3] []]) (.seq (.block 0 (.seq (.reg [od 6 (fa 2 2), od 7 (ld 1 6), od 8 (le 0 7), od 9 (.bin .gtr (tm 8) (ki 0)), om 10 9, oF 11 (lG 4 2) 10,
 oF 12 (.bsl true 102 1 [(ku 15)]) 10, oF 13 (.call 80 [(tm 11), (tm 12)]) 10, oF 14 (le 0 13) 10, oF 15 (.bin .gtr (tm 14) (ki 0)) 10, od 16 (.pick (tm 10) kT (tm 15)), om 5 16] [kp [2, 3, 5] []]) (.cond (tm 5) (.seq (.reg [od 4
 (.mv (ki 7))] [kp [4] []]) .ret) (.seq (.reg [od 18 (fa 0 3), od 19 (ld 1 18), od 20 (le 0 19), od 21 (lG 4 2), od 22 (.call 41 [(tm 21)]), od 23 (le 0 22), od 24 (.bin .neq (tm 20) (tm 23)), om 25 24, oF 26 (fa 1 3) 25, oF 27 (ld
 1 26) 25, oF 28 (le 0 27) 25, oF 29 (lG 4 2) 25, oF 30 (.call 27 [(tm 29)]) 25, oF 31 (le 0 30) 25, oF 32 (.bin .neq (tm 28) (tm 31)) 25, od 33 (.pick (tm 25) kT (tm 32)), om 17 33] [kp [3, 17] []]) (.cond (tm 17) (.seq (.reg [od 4
 (.mv (ki 8))] [kp [4] []]) .ret) (.seq (.reg [od 35 (fa 0 3), od 36 (ld 1 35), od 37 (.call 76 [(tm 36), (.func 113)]), om 38 37, oF 39 (fa 1 3) 38, oF 40 (ld 1 39) 38, oF 41 (.call 76 [(tm 40), (.func 113)]) 38, od 42 (.pick (tm
 38) kT (tm 41)), om 34 42] [kp [34] []]) (.cond (tm 34) (.seq (.reg [od 4 (.mv (ki 1))] [kp [4] []]) .ret) .skip))))))) (.seq (.reg [od 4 (.mv (ki 0))] [kp [4] []]) .ret)))
def G8 : List RV := [.tmp 4]
/- probecard/sims.above (function 113) -/
abbrev q3d : IC := (.seq (.reg [od 2 (.mv kF)] [kp [0] []]) (.seq (.reg [om 3 0, od 4 (.bin .gtr (tm 3) (ku 3)), om 2 4] [kp [2] []]) .ret))
def q3e : List RV := [.tmp 2]
/- (probecard/sims.run).load (function 55) -/
abbrev Zz : IC := .gh (.seq (.reg [od 13 (.bin .lss (tm 12) (tm 11))] [kp [2, 3, 10, 11, 12, 13] [2, 1000000]]) (.seq (.cond (tm 13) .skip (.exit 0)) (.seq (.block 1 (.seq (.reg [om 14 12, od 15 (ia 1 10 12), od 16 (ld 1 15), om 4 14, om 5 16] [kp
 [2, 3, 4, 5, 10, 11, 12] [2, 1000000]]) (.reg [od 17 (fa 4 2), od 18 (.ldR 2 1 false (tm 17)), om 19 5, od 20 (fa 0 3), od 21 (.ldT 1 false (tm 20)), om 22 4, od 23 (ia 1 21 22), od 24 (.ldT 1 false (tm 23)), od 25 (ia 1 18 19), on
 (.stR 1000000 1 (tm 25) (tm 24))] [kp [2, 3, 10, 11, 12] [2, 1000000]]))) (.reg [od 26 (.bin .add (tm 12) (ki 1)), om 12 26] [kp [2, 3, 10, 11, 12] [2, 1000000]])))) [kp [2, 3, 10, 11, 12] [2, 1000000]]
def Kw : IC := .loop Zz
abbrev q00 : IC := .gh (.seq (.reg [od 32 (.bin .lss (tm 31) (tm 30))] [kp [2, 3, 29, 30, 31, 32] [2, 1000000]]) (.seq (.cond (tm 32) .skip (.exit 2)) (.seq (.block 3 (.seq (.reg [om 33 31, od 34 (ia 1 29 31), od 35 (ld 1 34), om 6 33, om 7 35] [kp
 [2, 3, 6, 7, 29, 30, 31] [2, 1000000]]) (.reg [od 36 (fa 4 2), od 37 (.ldR 2 1 false (tm 36)), om 38 7, od 39 (fa 1 3), od 40 (.ldT 1 false (tm 39)), om 41 6, od 42 (ia 1 40 41), od 43 (.ldT 1 false (tm 42)), od 44 (ia 1 37 38), on
 (.stR 1000000 1 (tm 44) (tm 43))] [kp [2, 3, 29, 30, 31] [2, 1000000]]))) (.reg [od 45 (.bin .add (tm 31) (ki 1)), om 31 45] [kp [2, 3, 29, 30, 31] [2, 1000000]])))) [kp [2, 3, 29, 30, 31] [2, 1000000]]
def Kx : IC := .loop q00
abbrev q01 : IC := (.seq (.reg [od 2 (.box false (tm 0)), od 3 (.box true (tm 1))] [kp [2, 3] [2, 1000000]]) (.seq (.seq (.reg [od 8 (fa 0 2), od 9 (lG 4 8), od 10 (.call 41 [(tm 9)]), od 11 (le 0 10), od 12 (.mv (ki 0))] [kp [2, 3, 10, 11, 12] [2,
 1000000]]) (.block 0 Kw)) (.seq (.reg [od 27 (fa 0 2), od 28 (lG 4 27), od 29 (.call 27 [(tm 28)]), od 30 (le 0 29), od 31 (.mv (ki 0))] [kp [2, 3, 29, 30, 31] [2, 1000000]]) (.gh (.block 2 Kx) [.keep []
 [1000000]]))))
theorem Tu (h : ∀ K : St → Prop, K = run P Γ Kw Q → run P Γ Zz (Ar K Q) s) : run P Γ Kw Q s := Ah h
theorem Tv (h : ∀ K : St → Prop, K = run P Γ Kx Q → run P Γ q00 (Ar K Q) s) : run P Γ Kx Q s := Ah h
def q02 : List RV := []
/- probecard/sims.Run (function 15) -/
abbrev q6G : IC := .gh (.seq (.reg [od 62 (.bin .lss (tm 61) (tm 60))] [kp [4, 9, 10, 12, 13, 40, 41, 42, 59, 60, 61, 62] [4, 9, 13, 34, 39]]) (.seq (.cond (tm 62) .skip (.exit 2)) (.seq (.block 3 (.seq (.reg [od 63 (ia 1 59 61), od 64 (ld 1 63), om
 15 64] [kp [4, 9, 10, 12, 13, 15, 40, 41, 42, 59, 60, 61] [4, 9, 13, 34, 39]]) (.reg [om 65 10, od 66 (fa 4 9), od 67 (ld 1 66), om 68 15, od 69 (ia 1 67 68), od 70 (ld 1 69), od 71 (.bsl true 68 1 [(tm 70)]), oz 72 (.app false 68
 1 (tm 65) (tm 71)) 39, om 10 72] [kp [4, 9, 10, 12, 13, 40, 41, 42, 59, 60, 61] [4, 9, 13, 34, 39]]))) (.reg [od 73 (.bin .add (tm 61) (ki 1)), om 61 73] [kp [4, 9, 10, 12, 13, 40, 41, 42, 59, 60, 61] [4, 9, 13, 34, 39]])))) [kp
 [4, 9, 10, 12, 13, 40, 41, 42, 59, 60, 61] [4, 9, 13, 34, 39]]
def Yi : IC := .loop q6G
abbrev q6H : IC := .gh (.seq (.reg [od 43 (.bin .lss (tm 42) (tm 41))] [kp [4, 9, 10, 40, 41, 42, 43] [4, 9, 34, 39]]) (.seq (.cond (tm 43) .skip (.exit 0)) (.seq (.block 1 (.seq (.reg [od 44 (ia 1 40 42), od 45 (ld 1 44), om 12 45] [kp [4, 9, 10,
 12, 40, 41, 42] [4, 9, 34, 39]]) (.seq (.reg [od 46 (fa 0 9), od 47 (fa 0 46), od 48 (ld 1 47), om 49 12, od 50 (ia 4 48 49), od 51 (lG 4 50), od 13 (.alloc false [(.int .u8 0), (.slice none 0 0), (.int .i64 0), (.int .i64 0)]), on
 (.store 4 (tm 13) (tm 51))] [kp [4, 9, 10, 12, 13, 40, 41, 42] [4, 9, 13, 34, 39]]) (.seq (.seq (.reg [od 52 (fa 0 13), od 53 (ld 1 52), od 54 (.call 56 [(tm 53)]), od 55 (.un .not (tm 54))] [kp [4, 9, 10, 12, 13, 40, 41, 42, 55]
 [4, 9, 13, 34, 39]]) (.cond (tm 55) (.exit 1) .skip)) (.seq (.reg [om 56 10, od 57 (.slice 1 (tm 56) none (some (ki 0)) none), om 10 57] [kp [4, 9, 10, 12, 13, 40, 41, 42] [4, 9, 13, 34, 39]]) (.seq (.seq (.reg [od 58 (fa 1 13), od
 59 (ld 1 58), od 60 (le 0 59), od 61 (.mv (ki 0))] [kp [4, 9, 10, 12, 13, 40, 41, 42, 59, 60, 61] [4, 9, 13, 34, 39]]) (.block 2 Yi)) (.reg [od 74 (fa 4 9), od 75 (.ldR 9 1 false (tm 74)), om 76 12, od 77 (fa 0 13), od 78
 (.ldR 13 1 false (tm 77)), om 79 10, od 80 (.call 57 [(tm 78), (tm 79)]), od 81 (ia 1 75 76), on (.stR 34 1 (tm 81) (tm 80))] [kp [4, 9, 10, 40, 41, 42] [4, 9, 34, 39]]))))))) (.reg [od 82 (.bin .add (tm 42) (ki 1)), om 42 82] [kp
 [4, 9, 10, 40, 41, 42] [4, 9, 34, 39]])))) [kp [4, 9, 10, 40, 41, 42] [4, 9, 34, 39]]
def Yj : IC := .loop q6H
abbrev q6I : IC := (.seq (.reg [od 2 (.box true (tm 0)), od 3 (.box true (tm 1)), od 4 (.alloc false [(.slice none 0 0), (.slice none 0 0)]), od 5 (.mv kN), od 6 (.mv (ki 0))] [kp [2, 3, 4] [4]]) (.seq (.reg [od 17 (lG 4 2), od 18 (.call 53 [(tm
 17)]), om 16 18, od 19 (ex 16 0), od 20 (ex 16 1), om 7 19, om 8 20] [kp [2, 3, 4, 7, 8] [4]]) (.seq (.seq (.reg [om 21 8, od 22 (.bin .eql (tm 21) (ki 0))] [kp [2, 3, 4, 7, 8, 22] [4]]) (.cond (tm 22) (.reg [od 23 (lG 4 2), od 24
 (lG 2 3), od 25 (.call 54 [(tm 23), (tm 24)]), om 8 25] [kp [2, 3, 4, 7, 8] [4]]) .skip)) (.seq (.seq (.reg [om 26 8, od 27 (.bin .neq (tm 26) (ki 0))] [kp [2, 3, 4, 7, 8, 27] [4]]) (.cond (tm 27) (.seq (.reg [od 28 (.build [(1,
 kN), (1, kN)]), om 29 8, on (.store 2 (tm 4) (tm 28)), od 5 (.mv kN), om 6 29] [kp [4, 5, 6] [4, 34]]) .ret) .skip)) (.seq (.reg [od 30 (.ldT 4 true (tm 2)), od 31 (fa 0 2), od 32 (.ldT 1 false (tm 31)), od 33 (le 0 32), od 34
 (.mkE 68 1 [(.int .u8 0)] (tm 33) (tm 33)), od 35 (.build [(4, (tm 30)), (1, (tm 34))]), od 9 (.alloc false [(.slice none 0 0), (.slice none 0 0), (.slice none 0 0), (.slice none 0 0), (.slice none 0 0)]), on (.stR 9 5 (tm 9) (tm
 35))] [kp [3, 4, 7, 9] [4, 9, 34]]) (.seq (.reg [od 36 (lG 5 9), od 37 (lG 2 3), od 38 (.hcall 55 [(tm 36), (tm 37)] [34] 38000)] [kp [4, 7, 9] [4, 9, 34]]) (.seq (.reg [od 39 (.mk 68 1 [(.int .u8 0)] (ki 0) (ki 16)), om 10 39] [kp
 [4, 7, 9, 10] [4, 9, 34, 39]]) (.seq (.seq (.reg [om 40 7, od 41 (le 0 40), od 42 (.mv (ki 0))] [kp [4, 9, 10, 40, 41, 42] [4, 9, 34, 39]]) (.block 0 Yj)) (.seq (.reg [od 83 (.ldR 9 5 true (tm 9)), od 84 (.call 58 [(tm
 83)]), od 85 (fa 4 9), od 86 (.ldR 9 1 false (tm 85)), on (.stR 4 2 (tm 4) (tm 84)), om 5 86, od 6 (.mv (ki 0))] [kp [4, 5, 6] [4, 34]]) .ret)))))))))
theorem q0v (h : ∀ K : St → Prop, K = run P Γ Yi Q → run P Γ q6G (Ar K Q) s) : run P Γ Yi Q s := Ah h
theorem q0w (h : ∀ K : St → Prop, K = run P Γ Yj Q → run P Γ q6H (Ar K Q) s) : run P Γ Yj Q s := Ah h
def Yk : List RV := [.cell 4 2 true, .tmp 5, .tmp 6]
/- (probecard/sims.run).value (function 122) -/
abbrev Jq : IC := (.seq (.reg [od 2 (.box true (tm 0)), od 4 (.mv (ku 0))] [kp [1, 2] []]) (.seq (.seq (.reg [om 5 1, od 6 (.bin .lss (tm 5) (ki 0)), om 7 6, oF 8 (.mv (tm 1)) 7, oF 9 (fa 4 2) 7, oF 10 (ld 1 9) 7, oF 11 (le 0 10) 7, oF 12 (.bin .geq
 (tm 8) (tm 11)) 7, od 13 (.pick (tm 7) kT (tm 12))] [kp [1, 2, 13] []]) (.cond (tm 13) (.seq (.reg [od 4 (.mv (ku 2))] [kp [4] []]) .ret) .skip)) (.seq (.reg [od 14 (fa 4 2), od 15 (ld 1 14), om 16 1, od 17 (ia 1 15 16), od 18 (ld
 1 17), od 19 (.call 127 [(tm 18)]), om 4 19] [kp [4] []]) .ret)))
def Jr : List RV := [.tmp 4]
/- (probecard/sims.run).observe (function 58) -/
abbrev V0 : IC := .gh (.seq (.reg [od 15 (.bin .lss (tm 14) (tm 13))] [kp [1, 2, 3, 12, 13, 14, 15] [2, 3, 24, 55]]) (.seq (.cond (tm 15) .skip (.exit 0)) (.seq (.block 1 (.seq (.reg [od 16 (ia 1 12 14), od 17 (ld 1 16), om 5 17] [kp [1, 2, 3, 5,
 12, 13, 14] [2, 3, 24, 55]]) (.reg [od 18 (fa 0 3), od 19 (.ldR 3 1 false (tm 18)), od 20 (.ldT 5 true (tm 1)), om 21 5, od 22 (.call 122 [(tm 20), (tm 21)]), od 23 (.bsl true 68 1 [(tm 22)]), od 24 (.app false 68 1 (tm 19) (tm
 23)), od 25 (fa 0 3), on (.stR 3 1 (tm 25) (tm 24))] [kp [1, 2, 3, 12, 13, 14] [2, 3, 24, 55]]))) (.reg [od 26 (.bin .add (tm 14) (ki 1)), om 14 26] [kp [1, 2, 3, 12, 13, 14] [2, 3, 24, 55]])))) [kp [1, 2, 3, 12, 13, 14] [2, 3, 24,
 55]]
def Gz : IC := .loop V0
abbrev V1 : IC := .gh (.seq (.reg [od 32 (.bin .lss (tm 31) (tm 30))] [kp [1, 2, 3, 29, 30, 31, 32] [2, 3, 24, 55]]) (.seq (.cond (tm 32) .skip (.exit 2)) (.seq (.block 3 (.seq (.reg [od 33 (ia 1 29 31), od 34 (ld 1 33), om 7 34] [kp [1, 2, 3, 7,
 29, 30, 31] [2, 3, 24, 55]]) (.seq (.reg [od 8 (.mv (ku 2))] [kp [1, 2, 3, 7, 8, 29, 30, 31] [2, 3, 24, 55]]) (.seq (.seq (.reg [od 35 (fa 0 1), od 36 (fa 0 35), od 37 (ld 1 36), om 38 7, od 39 (ia 4 37 38), od 40 (fa 1 39), od 41
 (ld 1 40), om 9 41] [kp [1, 2, 3, 8, 9, 29, 30, 31] [2, 3, 24, 55]]) (.seq (.reg [om 42 9, od 43 (le 0 42), od 44 (.bin .eql (tm 43) (ki 1))] [kp [1, 2, 3, 8, 9, 29, 30, 31, 44] [2, 3, 24, 55]]) (.cond (tm 44) (.reg [od 45 (lG 5
 1), om 46 9, od 47 (.iadr 1 (tm 46) (ki 0)), od 48 (ld 1 47), od 49 (.call 122 [(tm 45), (tm 48)]), od 50 (.call 73 [(tm 49)]), om 8 50] [kp [1, 2, 3, 8, 29, 30, 31] [2, 3, 24, 55]]) .skip))) (.reg [od 51 (fa 1 3), od 52 (ld 1 51),
 om 53 8, od 54 (.bsl true 68 1 [(tm 53)]), od 55 (.app false 68 1 (tm 52) (tm 54)), od 56 (fa 1 3), on (.store 1 (tm 56) (tm 55))] [kp [1, 2, 3, 29, 30, 31] [2, 3, 24, 55]]))))) (.reg [od 57 (.bin .add (tm 31) (ki 1)), om 31 57]
 [kp [1, 2, 3, 29, 30, 31] [2, 3, 24, 55]])))) [kp [1, 2, 3, 29, 30, 31] [2, 3, 24, 55]]
def H2 : IC := .loop V1
abbrev V2 : IC := (.seq (.reg [od 1 (.box true (tm 0)), od 2 (.alloc false [(.slice none 0 0), (.slice none 0 0)])] [kp [1, 2] [2, 24, 55]]) (.seq (.reg [od 3 (.alloc false [(.slice none 0 0), (.slice none 0 0)])] [.nlb 3 0 24 68 1, .nlb 3 1 55 68
 1, kp [1, 2, 3] [2, 3, 24, 55]]) (.seq (.seq (.reg [od 10 (fa 0 1), od 11 (fa 3 10), od 12 (ld 1 11), od 13 (le 0 12), od 14 (.mv (ki 0))] [kp [1, 2, 3, 12, 13, 14] [2, 3, 24, 55]]) (.block 0 Gz)) (.seq (.seq (.reg
 [od 27 (fa 0 1), od 28 (lG 4 27), od 29 (.call 27 [(tm 28)]), od 30 (le 0 29), od 31 (.mv (ki 0))] [kp [1, 2, 3, 29, 30, 31] [2, 3, 24, 55]]) (.block 2 H2)) (.seq (.reg [od 58 (fa 0 3), od 59 (.ldR 3 1 false (tm
 58)), od 60 (.rcall 74 [(tm 59)] [24]), od 61 (fa 1 3), od 62 (.ldR 3 1 false (tm 61)), od 63 (.rcall 74 [(tm 62)] [55]), od 64 (.build [(1, (tm 60)), (1, (tm 63))]), on (.stR 2 2 (tm 2) (tm 64))] [kp [2] [2, 24, 55]]) .ret)))))
theorem Oy (h : ∀ K : St → Prop, K = run P Γ Gz Q → run P Γ V0 (Ar K Q) s) : run P Γ Gz Q s := Ah h
theorem Oz (h : ∀ K : St → Prop, K = run P Γ H2 Q → run P Γ V1 (Ar K Q) s) : run P Γ H2 Q s := Ah h
def V3 : List RV := [.cell 2 2 true]
/- probecard/sims.Observe (function 18) -/
abbrev X9 : IC := (.seq (.reg [od 1 (.box true (tm 0)), od 2 (.mv kN)] [kp [1] []]) (.seq (.reg [od 3 (lG 4 1), od 4 (.bsl true 102 1 [(ku 0)]), od 5 (.call 80 [(tm 3), (tm 4)]), om 2 5] [kp [2] []]) .ret))
def Xa : List RV := [.tmp 2]
/- slices.Clip[[]probecard/api.Value,probecard/api.Value] (function 74) -/
abbrev Gk : IC := (.seq (.reg [od 2 (.mv kN)] [kp [0] [1000000]]) (.seq (.reg [om 3 0, om 4 0, od 5 (le 0 4), om 6 0, od 7 (le 0 6), od 8 (.slice 1 (tm 3) none (some (tm 5)) (some (tm 7))), om 2 8] [kp [2] [1000000]]) .ret))
def Gm : List RV := [.tmp 2]
end
end Go.Lg
namespace Go.Lg
open Go Go.Proofs
theorem q8a : Aw Tryz.prog 54 q0c 43 2 G8 = true := by kernel_rfl
theorem q7n : Aw Tryz.prog 113 q3d 5 1 q3e = true := by kernel_rfl
theorem q50 : Aw Tryz.prog 55 q01 46 2 q02 = true := by kernel_rfl
theorem q9x : Aw Tryz.prog 15 q6I 87 2 Yk = true := by kernel_rfl
theorem q49 : Aw Tryz.prog 122 Jq 20 2 Jr = true := by kernel_rfl
theorem q2N : Aw Tryz.prog 58 V2 65 1 V3 = true := by kernel_rfl
theorem q3B : Aw Tryz.prog 41 X9 6 1 Xa = true := by kernel_rfl
theorem Ll : Aw Tryz.prog 74 Gk 9 1 Gm = true := by kernel_rfl
end Go.Lg
namespace Go.Lg
open Go Go.Proofs
variable {Γ : Tables}
theorem Yl (c : B9) (hc : COk c) : Ag Tryz.prog Γ 41 [.agg (tC c)] (.sl (Ak (Bi c)) (some (Bi c).length) none) := by
  refine Ap q3B rfl ?_
  simp [X9, tC, Ab, Af, Am, As]
  refine A3 (q9p c hc 0) rfl ?_
  simp [Xa, Bi]
theorem q2O (es : List (List T)) (cap : Option Nat) (nl : Option Bool) (hw : E1 1 es) : Ag Tryz.prog Γ 74 [.sl es cap nl] (.sl es (some es.length) nl) := by
  refine Ap Ll rfl ?_
  simp [Gk, Gm, ret, hw]
def Bj (v : Int) : Bool := decide (3 < v)
theorem q7o (v : Int) : Aa Tryz.prog Γ 113 [tK v] (tB (Bj v)) := by
  refine Ac q7n rfl ?_
  simp [q3d, q3e, Aq, Bj]
structure Pat where
  inn : Sl Int
  st : Sl Int
def tP (p : Pat) : List T := [tV p.inn, tV p.st]
theorem Kp (c : B9) : (Bi c).length ≤ c.nodes.l.length := Vj _ _ _
theorem Ht (c : B9) : (A6 c).length ≤ c.nodes.l.length := Vj _ _ _
def Qb (c : B9) (p : Pat) : Int :=
  if 0 < c.mems.l.length ∨ 0 < (mems c).length then 7 else
  if p.inn.l.length ≠ (Bi c).length ∨ p.st.l.length ≠ (A6 c).length then 8 else
  if p.inn.l.any Bj = true ∨ p.st.l.any Bj = true then 1 else 0
theorem q9B (c : B9) (hc : COk c) (p : Pat) (hp : p.inn.l.length ≤ 1000000000 ∧ p.st.l.length ≤ 1000000000) : Aa Tryz.prog Γ 54 [.agg (tC c), .agg (tP p)] (tI (Qb c p)) := by
  refine Ac q8a rfl ?_
  have e1 := q9p (Γ := Γ) c hc 15
  have e2 := Yl (Γ := Γ) c hc
  have e3 := Dl (Γ := Γ) c hc
  have e4 := Dm (Γ := Γ) p.inn.l p.inn.cap p.inn.nl 113 [] Bj (fun x _ => q7o x) hp.1
  have e5 := Dm (Γ := Γ) p.st.l p.st.cap p.st.nl 113 [] Bj (fun x _ => q7o x) hp.2
  have hm : Ju [15] c.nodes.l 0 = mems c := rfl
  rw [hm] at e1
  generalize hR : Qb c p = R
  unfold Qb at hR
  by_cases h1 : 0 < c.mems.l.length
  · rw [if_pos (.inl h1)] at hR
    subst hR
    have h1' : ¬ c.mems.l = [] := fun e => by rw [e] at h1; simp at h1
    simp [q0c, tC, Ab, Af, Am, As, tP, tV, Ae, h1, h1', G8, Aq]
  have h1' : c.mems.l = [] := List.eq_nil_of_length_eq_zero (by omega)
  simp [q0c, tC, Ab, Af, Am, As, tP, tV, Ae, h1, h1']
  refine A3 e1 (by simp [Aj, B2, Ad, tC, Ab, Af, Am, As, h1']) ?_
  by_cases h2 : 0 < (mems c).length
  · rw [if_pos (.inr h2)] at hR
    subst hR
    have h2' : ¬ mems c = [] := fun e => by rw [e] at h2; simp at h2
    simp [A0, h2, h2', G8, Aq]
  rw [if_neg (by omega)] at hR
  have h2' : mems c = [] := List.eq_nil_of_length_eq_zero (by omega)
  simp [A0, h2']
  have tt : ∀ {x : T}, x = T.agg (tC c) → B2 [some x] = some [T.agg (tC c)] := fun h => by rw [h]; rfl
  have tc : T.agg (tC c) = T.agg [T.sl (Az Bw c.nodes.l) c.nodes.cap c.nodes.nl, T.sl (Ad tS c.names.l) c.names.cap c.names.nl, T.sl (Az tMm []) c.mems.cap c.mems.nl, T.sl (Ak c.outs.l) c.outs.cap c.outs.nl] := by rw [← h1']; rfl
  refine A8 e2 (by rw [tc]; rfl) ?_
  simp [A0]
  by_cases h3 : p.inn.l.length = (Bi c).length
  case neg =>
    have h3' : ¬ (p.inn.l.length : Int) = (Bi c).length := by omega
    rw [if_pos (.inl h3)] at hR
    subst hR
    simp [h3, h3', G8, Aq, Bd]
  simp [h3]
  refine A8 e3 (by rw [tc]; rfl) ?_
  simp [A0]
  by_cases h4 : p.st.l.length = (A6 c).length
  case neg =>
    have h4' : ¬ (p.st.l.length : Int) = (A6 c).length := by omega
    rw [if_pos (.inr h4)] at hR
    subst hR
    simp [h4, h4', G8, Aq, Bd]
  rw [if_neg (by omega)] at hR
  simp [h4, Bd]
  refine A3 e4 rfl ?_
  by_cases h5 : p.inn.l.any Bj = true
  · rw [if_pos (.inl h5)] at hR
    subst hR
    simp only [h5]
    simp [G8, Aq]
  simp only [Bool.not_eq_true] at h5
  simp only [h5]
  simp
  refine A3 e5 rfl ?_
  by_cases h6 : p.st.l.any Bj = true
  · rw [if_pos (.inr h6)] at hR
    subst hR
    simp only [h6]
    simp [G8, Aq]
  rw [if_neg (by simp only [h5]; simp only [Bool.not_eq_true] at h6; simp [h6])] at hR
  subst hR
  simp only [Bool.not_eq_true] at h6
  simp only [h6]
  simp [G8, Aq]
def Vs (c : B9) (id n : Nat) (cap : Option Nat) : List AV := [.t (Ab c.nodes), .t (Af c.names), .t (Am c.mems), .t (As c.outs), .ls id 0 n cap]
theorem q7p {ns vs l : List Int} {i : Nat} (h : i < ns.length) (hv : i < vs.length) : Q5 (ns.drop i) (vs.drop i) l = Q5 (ns.drop (i + 1)) (vs.drop (i + 1)) (l.set (ns.getD i 0).toNat (vs.getD i 0)) := by
  rw [List.drop_eq_getElem_cons h, List.drop_eq_getElem_cons hv]
  simp only [Q5]
  rw [Cc h, Cc hv]
theorem qCy {Q : AX → St → Prop} (c : B9) (p : Pat) (ns : List Int) (cap : Option Nat) (n : Nat) (hn : n ≤ 1000000000) (hns : ns.length ≤ n) (hin : ∀ x ∈ ns, 0 ≤ x ∧ x < n) (hp : p.inn.l.length = ns.length) (R : List Int)
    (h0 : Q (.exit 0) ⟨[(2, .lp 2 0 0), (3, .t (.ip (tP p) 0)), (10, .t (.sl (Ak ns) (some ns.length) none)), (11, .t (tI ns.length)), (12, .t (tI ns.length)), (13, .t (tB false))], [(2, .bx (Vs c 1000000 n cap)), (1000000, .sl 68 1 (Av R))]⟩) :
    ∀ (k i : Nat) (l : List Int), k + i = ns.length → l.length = n → Q5 (ns.drop i) (p.inn.l.drop i) l = R →
    run Tryz.prog Γ Kw Q ⟨[(2, .lp 2 0 0), (3, .t (.ip (tP p) 0)), (10, .t (.sl (Ak ns) (some ns.length) none)), (11, .t (tI ns.length)), (12, .t (tI i))], [(2, .bx (Vs c 1000000 n cap)), (1000000, .sl 68 1 (Av l))]⟩
  | 0, i, l, h, hl, hR => by
    refine Tu fun K hK => ?_
    have h2 : i = ns.length := by omega
    subst h2
    rw [List.drop_length] at hR
    simp only [Q5] at hR
    subst hR
    simp
    exact h0
  | k + 1, i, l, h, hl, hR => by
    refine Tu fun K hK => ?_
    have h2 : i < ns.length := by omega
    have h3 : i < p.inn.l.length := by omega
    rw [q7p h2 h3] at hR
    have ih := qCy c p ns cap n hn hns hin hp R h0 k (i + 1) _ (by omega) (by simp [hl]) hR
    have e1 := ge1 (f := tI) h2
    have e2 := ge1 (f := tK) h3
    have hx := hin (ns.getD i 0) (by rw [Cc h2]; exact List.getElem_mem h2)
    have hs : ∀ (j : Nat) (v : Int), (Av l).set j [tK v] = Av (l.set j v) := fun j v => F6
    generalize ns.getD i 0 = x at *
    generalize p.inn.l.getD i 0 = v at *
    have hx2 : x.toNat < n := by omega
    simp (disch := omega) [h2, h3, A0, A9, e1, e2, A5, hx, hx2, hl, Vs, tP, tV, hs, hp]
    rw [hK]
    simpa [Vs, tP, tV] using ih
theorem qCz {Q : AX → St → Prop} (c : B9) (p : Pat) (ns : List Int) (cap : Option Nat) (n : Nat) (hn : n ≤ 1000000000) (hns : ns.length ≤ n) (hin : ∀ x ∈ ns, 0 ≤ x ∧ x < n) (hp : p.st.l.length = ns.length) (R : List Int)
    (h0 : Q (.exit 2) ⟨[(2, .lp 2 0 0), (3, .t (.ip (tP p) 0)), (29, .t (.sl (Ak ns) (some ns.length) none)), (30, .t (tI ns.length)), (31, .t (tI ns.length)), (32, .t (tB false))], [(2, .bx (Vs c 1000000 n cap)), (1000000, .sl 68 1 (Av R))]⟩) :
    ∀ (k i : Nat) (l : List Int), k + i = ns.length → l.length = n → Q5 (ns.drop i) (p.st.l.drop i) l = R →
    run Tryz.prog Γ Kx Q ⟨[(2, .lp 2 0 0), (3, .t (.ip (tP p) 0)), (29, .t (.sl (Ak ns) (some ns.length) none)), (30, .t (tI ns.length)), (31, .t (tI i))], [(2, .bx (Vs c 1000000 n cap)), (1000000, .sl 68 1 (Av l))]⟩
  | 0, i, l, h, hl, hR => by
    refine Tv fun K hK => ?_
    have h2 : i = ns.length := by omega
    subst h2
    rw [List.drop_length] at hR
    simp only [Q5] at hR
    subst hR
    simp
    exact h0
  | k + 1, i, l, h, hl, hR => by
    refine Tv fun K hK => ?_
    have h2 : i < ns.length := by omega
    have h3 : i < p.st.l.length := by omega
    rw [q7p h2 h3] at hR
    have ih := qCz c p ns cap n hn hns hin hp R h0 k (i + 1) _ (by omega) (by simp [hl]) hR
    have e1 := ge1 (f := tI) h2
    have e2 := ge1 (f := tK) h3
    have hx := hin (ns.getD i 0) (by rw [Cc h2]; exact List.getElem_mem h2)
    have hs : ∀ (j : Nat) (v : Int), (Av l).set j [tK v] = Av (l.set j v) := fun j v => F6
    generalize ns.getD i 0 = x at *
    generalize p.st.l.getD i 0 = v at *
    have hx2 : x.toNat < n := by omega
    simp (disch := omega) [h2, h3, A0, A9, e1, e2, A5, hx, hx2, hl, Vs, tP, tV, hs, hp]
    rw [hK]
    simpa [Vs, tP, tV] using ih
theorem qIB (c : B9) (hc : COk c) (p : Pat) (cap : Option Nat) (l : List Int) (hl : l.length = c.nodes.l.length) (h1 : p.inn.l.length = (Bi c).length) (h2 : p.st.l.length = (A6 c).length) :
    Ef Tryz.prog Γ 55 [(1000000, .sl 68 1 (Av l))] [.ag (Vs c 1000000 c.nodes.l.length cap), .t (.agg (tP p))] (.t (.tup [])) [(1000000, .sl 68 1 (Av (Q5 (A6 c) p.st.l (Q5 (Bi c) p.inn.l l))))] := by
  refine Ey q50 rfl ?_
  have hn := hc.nodes
  have g1 := fun Q h0 => qCy (Γ := Γ) (Q := Q) c p (Bi c) cap c.nodes.l.length hn (Kp c) (fun x hx => ⟨(X4 x hx).1, (X4 x hx).2.1⟩) h1 _ h0 (Bi c).length 0 l (by omega) hl rfl
  have g2 := fun Q h0 => qCz (Γ := Γ) (Q := Q) c p (A6 c) cap c.nodes.l.length hn (Ht c) (fun x hx => ⟨(X4 x hx).1, (X4 x hx).2.1⟩) h2 _ h0 (A6 c).length 0 (Q5 (Bi c) p.inn.l l) (by omega) (by rw [q2w]; exact hl) rfl
  simp only [List.drop_zero] at g1 g2
  simp [q01, Vs, tP, tV, Ab, Af, Am, As]
  refine A8 (Yl c hc) rfl ?_
  simp [A0]
  refine g1 _ ?_
  simp [Vs, Ab, Af, Am, As]
  refine A8 (Dl c hc) rfl ?_
  simp [A0]
  refine g2 _ ?_
  simp [q02]
@[simp] theorem qJo {s : Nat} {e : List T} : E1 s [e] = (e.length = s) := propext ⟨fun h => h e List.mem_cons_self, fun h x hx => by simp at hx; subst hx; exact h⟩
def q1W (c : B9) (nets : Sl Int) : List T := [Ab c.nodes, Af c.names, Am c.mems, As c.outs, tV nets]
def q0d (nets : List Int) (n : Int) : Int := if n < 0 ∨ (nets.length : Int) ≤ n then 2 else q9r (nets.getD n.toNat 0)
theorem q7q (c : B9) (nets : Sl Int) (n : Int) (hl : nets.l.length ≤ 1000000000) : Aa Tryz.prog Γ 122 [.agg (q1W c nets), tI n] (tK (q0d nets.l n)) := by
  refine Ac q49 rfl ?_
  generalize hR : q0d nets.l n = R
  unfold q0d at hR
  by_cases h1 : n < 0
  · rw [if_pos (.inl h1)] at hR
    subst hR
    simp [Jq, q1W, Ab, Af, Am, As, tV, h1, Jr, Aq]
  by_cases h2 : (nets.l.length : Int) ≤ n
  · rw [if_pos (.inr h2)] at hR
    subst hR
    simp [Jq, q1W, Ab, Af, Am, As, tV, h1, h2, A0, Jr, Aq]
  rw [if_neg (by omega)] at hR
  have h3 : n.toNat < nets.l.length := by omega
  have e := ge1 (f := tK) h3
  generalize nets.l.getD n.toNat 0 = v at *
  have h4 : n < nets.l.length := by omega
  simp (disch := omega) [Jq, q1W, Ab, Af, Am, As, tV, h1, h2, h4, A0, A9, e]
  refine ⟨by omega, A3 (q7l v) rfl ?_⟩
  simp [Jr, Aq, hR]
def q9C (c : B9) (nets : List Int) (n : Int) : Int := if (Gt c n.toNat).length = 1 then Bn (q0d nets ((Gt c n.toNat).getD 0 0)) else 2
def q7r (c : B9) (nets : List Int) : List Int := c.outs.l.map (q0d nets)
def Ly (c : B9) (nets : List Int) : List Int := (A6 c).map (q9C c nets)
def q5c (o s : Nat) : List AV := [.ls 24 0 o none, .ls 55 0 s none]
def q3C (o s : List Int) : List (Nat × Bf) := [(2, .bx [.t (.sl [] (some 0) (some true)), .t (.sl [] (some 0) (some true))]), (3, .bx (q5c o.length s.length)), (24, .sl 68 1 (Av o)), (55, .sl 68 1 (Av s))]
theorem J1 {l : List Int} {v : Int} : Av l ++ [[tK v]] = Av (l ++ [v]) := Bq
theorem J2 {l : List Int} : (Av l).take l.length = Av l := B6
theorem qB3 {Q : AX → St → Prop} (c : B9) (nets : Sl Int) (hl : nets.l.length ≤ 1000000000) (ho : c.outs.l.length ≤ 1000000000) (R : List Int)
    (h0 : Q (.exit 0) ⟨[(1, .t (.ip (q1W c nets) 0)), (2, .lp 2 0 0), (3, .lp 3 0 0), (12, .t (As c.outs)), (13, .t (tI c.outs.l.length)), (14, .t (tI c.outs.l.length)), (15, .t (tB false))], q3C R []⟩) :
    ∀ (k i : Nat) (out : List Int), k + i = c.outs.l.length → out.length = i → out ++ (c.outs.l.drop i).map (q0d nets.l) = R →
    run Tryz.prog Γ Gz Q ⟨[(1, .t (.ip (q1W c nets) 0)), (2, .lp 2 0 0), (3, .lp 3 0 0), (12, .t (As c.outs)), (13, .t (tI c.outs.l.length)), (14, .t (tI i))], q3C out []⟩
  | 0, i, out, h, hi, hR => by
    refine Oy fun K hK => ?_
    have h2 : i = c.outs.l.length := by omega
    rw [List.drop_of_length_le (by omega), List.map_nil, List.append_nil] at hR
    subst hR
    simp [q3C, q5c, h2]
    simpa [q3C, q5c] using h0
  | k + 1, i, out, h, hi, hR => by
    refine Oy fun K hK => ?_
    have h2 : i < c.outs.l.length := by omega
    rw [List.drop_eq_getElem_cons h2, List.map_cons] at hR
    have e := ge1 (f := tI) h2
    rw [Cc h2] at e
    generalize c.outs.l[i] = n at *
    have ih := qB3 c nets hl ho R h0 k (i + 1) (out ++ [q0d nets.l n]) (by omega) (by simp [hi]) (by rw [← hR]; simp)
    have vs := J1 (l := out) (v := q0d nets.l n)
    have vt : (Av out).take i = Av out := by rw [← hi]; exact J2
    have hv := q7q (Γ := Γ) c nets n hl
    simp (disch := omega) [q3C, q5c, h2, As, A0, A9, e, hi, A5, q1W, Ab, Af, Am, tV]
    refine A3 hv rfl ?_
    simp (disch := omega) [vt, vs, A0, A9, hi, A5]
    refine ⟨by omega, ?_⟩
    rw [hK]
    simpa [q3C, q5c, hi, q1W, Ab, Af, Am, As, tV] using ih
theorem q9D {Q : AX → St → Prop} (c : B9) (hc : COk c) (nets : Sl Int) (hl : nets.l.length ≤ 1000000000) (ns : List Int) (hns : ns.length ≤ 1000000000) (hin : ∀ n ∈ ns, 0 ≤ n ∧ n < c.nodes.l.length) (o R : List Int)
    (h0 : Q (.exit 2) ⟨[(1, .t (.ip (q1W c nets) 0)), (2, .lp 2 0 0), (3, .lp 3 0 0), (29, .t (.sl (Ak ns) (some ns.length) none)), (30, .t (tI ns.length)), (31, .t (tI ns.length)), (32, .t (tB false))], q3C o R⟩) :
    ∀ (k i : Nat) (out : List Int), k + i = ns.length → out.length = i → out ++ (ns.drop i).map (q9C c nets.l) = R →
    run Tryz.prog Γ H2 Q ⟨[(1, .t (.ip (q1W c nets) 0)), (2, .lp 2 0 0), (3, .lp 3 0 0), (29, .t (.sl (Ak ns) (some ns.length) none)), (30, .t (tI ns.length)), (31, .t (tI i))], q3C o out⟩
  | 0, i, out, h, hi, hR => by
    refine Oz fun K hK => ?_
    have h2 : i = ns.length := by omega
    rw [List.drop_of_length_le (by omega), List.map_nil, List.append_nil] at hR
    subst hR
    simp [q3C, q5c, h2]
    simpa [q3C, q5c] using h0
  | k + 1, i, out, h, hi, hR => by
    refine Oz fun K hK => ?_
    have h2 : i < ns.length := by omega
    rw [List.drop_eq_getElem_cons h2, List.map_cons] at hR
    have e := ge1 (f := tI) h2
    have hn := hin ns[i] (List.getElem_mem h2)
    rw [Cc h2] at e
    generalize ns[i] = n at *
    have ih := q9D c hc nets hl ns hns hin o R h0 k (i + 1) (out ++ [q9C c nets.l n]) (by omega) (by simp [hi]) (by rw [← hR]; simp)
    have vs := J1 (l := out) (v := q9C c nets.l n)
    have vt : (Av out).take i = Av out := by rw [← hi]; exact J2
    have hnn : n.toNat < c.nodes.l.length := by omega
    have hget : (Az Bw c.nodes.l)[n.toNat]?.getD [] = Bw (c.nodes.l.getD n.toNat Nd.d) := by
      rw [D3 Nd.d hnn]; simp [List.getD_eq_getElem?_getD]
    have hxi := hc.inn _ (List.getElem_mem hnn)
    have hgd : c.nodes.l.getD n.toNat Nd.d = c.nodes.l[n.toNat] := by simp [List.getD_eq_getElem?_getD, hnn]
    have hia : Gt c n.toNat = (c.nodes.l.getD n.toNat Nd.d).inn.l := rfl
    have hnl : q9C c nets.l n = if (Gt c n.toNat).length = 1 then Bn (q0d nets.l ((Gt c n.toNat).getD 0 0)) else 2 := rfl
    rw [← hgd] at hxi
    rw [hia] at hnl
    generalize c.nodes.l.getD n.toNat Nd.d = x at *
    generalize q9C c nets.l n = v at *
    obtain ⟨h3, h4⟩ := hn
    by_cases h1 : x.inn.l.length = 1
    · rw [if_pos h1] at hnl
      have h10 : 0 < x.inn.l.length := by omega
      have e0 := ge1 (f := tI) h10
      have hv := q7q (Γ := Γ) c nets (x.inn.l.getD 0 0) hl
      generalize x.inn.l.getD 0 0 = m at *
      simp (disch := omega) [q3C, q5c, h2, As, A0, A9, e, hi, A5, q1W, Ab, Af, Am, tV, h3, h4, Ae, Ba, hget, Bw, h1, e0, h10]
      refine A3 hv rfl ?_
      simp
      refine A3 (Hg _) rfl ?_
      rw [← hnl]
      simp (disch := omega) [vt, vs, A0, A9, hi, A5]
      refine ⟨by omega, ?_⟩
      rw [hK]
      simpa [q3C, q5c, hi, q1W, Ab, Af, Am, As, tV] using ih
    · rw [if_neg h1] at hnl
      subst hnl
      have h1i : ¬ (x.inn.l.length : Int) = 1 := by omega
      simp (disch := omega) [q3C, q5c, h2, As, A0, A9, e, hi, A5, q1W, Ab, Af, Am, tV, h3, h4, Ae, Ba, hget, Bw, h1, h1i, Bd, vt, vs]
      refine ⟨by omega, ?_⟩
      rw [hK]
      simpa [q3C, q5c, hi, q1W, Ab, Af, Am, As, tV] using ih
theorem q7s (ty : Nat) (es : List (List T)) (cap : Option Nat) (hw : E1 1 es) : Ef Tryz.prog Γ 74 [(1000000, .sl ty 1 es)] [.ls 1000000 0 es.length cap] (.ls 1000000 0 es.length (some es.length)) [(1000000, .sl ty 1 es)] := by
  refine Ey Ll rfl ?_
  simp [Gk, Gm, qDc, hw]
def M7 (l : List Int) : T := .sl (Av l) (some l.length) none
theorem q9y (c : B9) (hc : COk c) (nets : Sl Int) (hl : nets.l.length ≤ 1000000000) : Aa Tryz.prog Γ 58 [.agg (q1W c nets)] (.agg [M7 (q7r c nets.l), M7 (Ly c nets.l)]) := by
  refine Ac q2N rfl ?_
  have hn := hc.nodes
  have ho := hc.outs
  have hs := Ht c
  have g1 := fun Q h0 => qB3 (Γ := Γ) (Q := Q) c nets hl ho (q7r c nets.l) h0 c.outs.l.length 0 [] (by omega) rfl (by simp [q7r])
  have g2 := fun Q h0 => q9D (Γ := Γ) (Q := Q) c hc nets hl (A6 c) (by omega) (fun x hx => ⟨(X4 x hx).1, (X4 x hx).2.1⟩) (q7r c nets.l) (Ly c nets.l) h0 (A6 c).length 0 [] (by omega) rfl (by simp [Ly])
  have l1 : (q7r c nets.l).length = c.outs.l.length := by simp [q7r]
  have l2 : (Ly c nets.l).length = (A6 c).length := by simp [Ly]
  have t1 := J2 (l := q7r c nets.l)
  have t2 := J2 (l := Ly c nets.l)
  generalize q7r c nets.l = O at *
  generalize Ly c nets.l = S at *
  simp [V2, q1W, Ab, Af, Am, As, tV, A0]
  refine g1 _ ?_
  simp [q3C, q5c, q1W, Ab, Af, Am, As, tV]
  refine A8 (Dl c hc) rfl ?_
  simp [A0]
  refine g2 _ ?_
  have hc1 := q7s (Γ := Γ) 68 (Av O) none A9
  have hc2 := q7s (Γ := Γ) 68 (Av S) none A9
  simp only [A0] at hc1 hc2
  simp [q3C, q5c]
  refine ⟨_, hc1, ?_⟩
  simp
  refine ⟨_, hc2, ?_⟩
  simp [V3, M7, A0, Aq, Aj, t1, t2]
end Go.Lg
namespace Go.Lg
open Go
section
variable {P : Program} {Γ : Tables} {Q : AX → St → Prop} {s : St}
/- probecard/scans.Insert (function 29) -/
abbrev q0x : IC := .gh (.seq (.reg [od 51 (.bin .lss (tm 50) (tm 49))] [kp [1, 2, 4, 7, 8, 48, 49, 50, 51] [4, 44, 46, 78, 90, 111, 157, 62040, 62052]]) (.seq (.cond (tm 51) .skip (.exit 0)) (.seq (.block 1 (.seq (.reg [od 52 (ia 1 48 50), od 53 (ld
 1 52), om 10 53] [kp [1, 2, 4, 7, 8, 10, 48, 49, 50] [4, 44, 46, 78, 90, 111, 157, 62040, 62052]]) (.reg [om 54 8, od 55 (.nck (tm 54)), od 56 (fa 4 55), od 57 (ld 1 56), om 58 10, on (.mup .str (tm 57) (tm 58) kT)] [kp [1, 2, 4,
 7, 8, 48, 49, 50] [4, 44, 46, 78, 90, 111, 157, 62040, 62052]]))) (.reg [od 59 (.bin .add (tm 50) (ki 1)), om 50 59] [kp [1, 2, 4, 7, 8, 48, 49, 50] [4, 44, 46, 78, 90, 111, 157, 62040, 62052]])))) [kp [1, 2, 4, 7, 8, 48, 49, 50]
 [4, 44, 46, 78, 90, 111, 157, 62040, 62052]]
def Nb : IC := .loop q0x
abbrev q0y : IC := .gh (.seq (.reg [od 95 (.bin .lss (tm 94) (tm 93))] [kp [2, 4, 7, 8, 11, 12, 15, 65, 66, 67, 92, 93, 94, 95] [4, 11, 44, 46, 64, 78, 90, 111, 157, 62040, 62052]]) (.seq (.cond (tm 95) .skip (.exit 4)) (.seq (.block 5 (.seq (.reg
 [od 96 (ia 1 92 94), od 97 (ld 1 96), om 17 97] [kp [2, 4, 7, 8, 11, 12, 15, 17, 65, 66, 67, 92, 93, 94] [4, 11, 44, 46, 64, 78, 90, 111, 157, 62040, 62052]]) (.reg [om 98 12, om 99 17, om 100 15, om 101 17, on (.mup (.int .i64)
 (tm 98) (tm 99) (tm 100)), om 15 101] [kp [2, 4, 7, 8, 11, 12, 15, 65, 66, 67, 92, 93, 94] [4, 11, 44, 46, 64, 78, 90, 111, 157, 62040, 62052]]))) (.reg [od 102 (.bin .add (tm 94) (ki 1)), om 94 102] [kp [2, 4, 7, 8, 11, 12, 15,
 65, 66, 67, 92, 93, 94] [4, 11, 44, 46, 64, 78, 90, 111, 157, 62040, 62052]])))) [kp [2, 4, 7, 8, 11, 12, 15, 65, 66, 67, 92, 93, 94] [4, 11, 44, 46, 64, 78, 90, 111, 157, 62040, 62052]]
def Ix : IC := .loop q0y
abbrev q0z : IC := .gh (.seq (.reg [od 68 (.bin .lss (tm 67) (tm 66))] [kp [2, 4, 7, 8, 11, 12, 65, 66, 67, 68] [4, 11, 44, 46, 64, 78, 90, 111, 157, 62040, 62052]]) (.seq (.cond (tm 68) .skip (.exit 2)) (.seq (.block 3 (.seq (.reg [om 69 67, od 70
 (ia 1 65 67), od 71 (ld 1 70), om 13 69, om 14 71] [kp [2, 4, 7, 8, 11, 12, 13, 14, 65, 66, 67] [4, 11, 44, 46, 64, 78, 90, 111, 157, 62040, 62052]]) (.seq (.reg [od 72 (fa 4 11), od 73 (.ldR 11 1 false (tm 72)), om 74 14, od 75
 (.call 86 [(tm 74)]), od 76 (.call 85 [(tm 75)]), od 77 (.bsl true 33 1 [(tm 76)]), od 78 (.app false 33 1 (tm 73) (tm 77)), od 79 (fa 4 11), on (.stR 11 1 (tm 79) (tm 78))] [kp [2, 4, 7, 8, 11, 12, 13, 14, 65, 66, 67] [4, 11, 44,
 46, 64, 78, 90, 111, 157, 62040, 62052]]) (.seq (.reg [om 80 8, od 81 (.build [(1, (ku 0)), (1, kN), (1, (ki 0)), (1, (ki 0))]), om 82 13, od 83 (.call 87 [(tm 82)]), od 84 (.bin .add (.const (sV [115, 105])) (tm 83)), od 85
 (.hcall 84 [(tm 80), (tm 81), (tm 84)] [44, 46, 111, 62040, 62052] 85000), om 15 85] [.ren 85040 62040, .ren 85052 62052, kp [2, 4, 7, 8, 11, 12, 14, 15, 65, 66, 67] [4, 11, 44, 46, 64, 78, 90, 111, 157, 62040, 62052]]) (.seq (.reg
 [od 86 (fa 6 11), od 87 (ld 1 86), om 88 15, od 89 (.bsl true 3 1 [(tm 88)]), od 90 (.app false 3 1 (tm 87) (tm 89)), od 91 (fa 6 11), on (.store 1 (tm 91) (tm 90))] [kp [2, 4, 7, 8, 11, 12, 14, 15, 65, 66, 67] [4, 11, 44, 46, 64,
 78, 90, 111, 157, 62040, 62052]]) (.seq (.seq (.reg [om 92 14, od 93 (le 0 92), od 94 (.mv (ki 0))] [kp [2, 4, 7, 8, 11, 12, 15, 65, 66, 67, 92, 93, 94] [4, 11, 44, 46, 64, 78, 90, 111, 157, 62040, 62052]]) (.block 4
 Ix)) (.reg [om 103 8, om 104 8, od 105 (.nck (tm 104)), od 106 (fa 0 105), od 107 (fa 3 106), od 108 (ld 1 107), om 109 15, od 110 (.bsl true 3 1 [(tm 109)]), od 111 (.app false 3 1 (tm 108) (tm 110)), od 112 (.nck (tm
 103)), od 113 (fa 0 112), od 114 (fa 3 113), on (.store 1 (tm 114) (tm 111))] [kp [2, 4, 7, 8, 11, 12, 65, 66, 67] [4, 11, 44, 46, 64, 78, 90, 111, 157, 62040, 62052]]))))))) (.reg [od 115 (.bin .add (tm 67) (ki 1)), om 67 115] [kp
 [2, 4, 7, 8, 11, 12, 65, 66, 67] [4, 11, 44, 46, 64, 78, 90, 111, 157, 62040, 62052]])))) [kp [2, 4, 7, 8, 11, 12, 65, 66, 67] [4, 11, 44, 46, 64, 78, 90, 111, 157, 62040, 62052]]
def Iy : IC := .loop q0z
abbrev q10 : IC := .gh (.seq (.reg [od 119 (.bin .lss (tm 118) (tm 117))] [kp [2, 4, 8, 11, 12, 116, 117, 118, 119] [4, 11, 44, 46, 64, 78, 90, 111, 157, 62040, 62052]]) (.seq (.cond (tm 119) .skip (.exit 6)) (.seq (.block 7 (.seq (.reg [om 120 118,
 od 121 (ia 1 116 118), od 122 (ld 1 121), om 18 120, om 19 122] [kp [2, 4, 8, 11, 12, 18, 19, 116, 117, 118] [4, 11, 44, 46, 64, 78, 90, 111, 157, 62040, 62052]]) (.seq (.reg [om 123 8, od 124 (fa 5 11), od 125 (ld 1 124), od 126
 (fa 0 2), od 127 (ld 1 126), om 128 19, od 129 (ia 4 127 128), od 130 (fa 1 129), od 131 (ld 1 130), od 132 (.iadr 1 (tm 131) (ki 0)), od 133 (ld 1 132), om 134 12, om 135 19, od 136 (.lkup (.int .i64) (.int .i64 0) false (tm 134)
 (tm 135)), od 137 (.bsl true 3 1 [(tm 125), (tm 133), (tm 136)]), od 138 (.build [(1, (ku 11)), (1, (tm 137)), (1, (ki 0)), (1, (ki 0))]), om 139 18, od 140 (.call 87 [(tm 139)]), od 141 (.bin .add (.const (sV [115, 109])) (tm
 140)), od 142 (.hcall 84 [(tm 123), (tm 138), (tm 141)] [44, 46, 111, 62040, 62052] 142000), om 20 142] [.ren 142040 62040, .ren 142052 62052, kp [2, 4, 8, 11, 12, 19, 20, 116, 117, 118] [4, 11, 44, 46, 64, 78, 90, 111, 157, 62040,
 62052]]) (.seq (.reg [om 143 8, od 144 (.nck (tm 143)), od 145 (fa 0 144), od 146 (fa 0 145), od 147 (ld 1 146), om 148 19, om 149 20, od 150 (.bsl true 3 1 [(tm 149)]), od 151 (ia 4 147 148), od 152 (fa 1 151), on (.store 1 (tm
 152) (tm 150))] [kp [2, 4, 8, 11, 12, 20, 116, 117, 118] [4, 11, 44, 46, 64, 78, 90, 111, 157, 62040, 62052]]) (.reg [od 153 (fa 7 11), od 154 (ld 1 153), om 155 20, od 156 (.bsl true 3 1 [(tm 155)]), od 157 (.app false 3 1 (tm
 154) (tm 156)), od 158 (fa 7 11), on (.store 1 (tm 158) (tm 157))] [kp [2, 4, 8, 11, 12, 116, 117, 118] [4, 11, 44, 46, 64, 78, 90, 111, 157, 62040, 62052]]))))) (.reg [od 159 (.bin .add (tm 118) (ki 1)), om 118 159] [kp [2, 4, 8,
 11, 12, 116, 117, 118] [4, 11, 44, 46, 64, 78, 90, 111, 157, 62040, 62052]])))) [kp [2, 4, 8, 11, 12, 116, 117, 118] [4, 11, 44, 46, 64, 78, 90, 111, 157, 62040, 62052]]
def Nc : IC := .loop q10
abbrev q11 : IC := (.seq (.reg [od 2 (.box true (tm 0)), od 4 (.alloc false [(.slice none 0 0), (.slice none 0 0), (.slice none 0 0), (.slice none 0 0), (.slice none 0 0), (.int .i64 0), (.slice none 0 0), (.slice none 0 0)]), od 5 (.mv (ki 0))] [kp
 [1, 2, 4] [4, 44, 78, 90, 111, 157, 62040, 62052]]) (.seq (.seq (.reg [od 21 (lG 4 2), om 22 1, od 23 (.call 82 [(tm 21), (tm 22)]), om 6 23] [kp [1, 2, 4, 6] [4, 44, 78, 90, 111, 157, 62040, 62052]]) (.seq (.reg [om 24 6, od 25
 (.bin .neq (tm 24) (ki 0))] [kp [1, 2, 4, 6, 25] [4, 44, 78, 90, 111, 157, 62040, 62052]]) (.cond (tm 25) (.seq (.reg [od 26 (.build [(4, (.const (.agg #[(.slice none 0 0), (.slice none 0 0), (.slice none 0 0), (.slice none 0
 0)]))), (1, kN), (1, (ki 0)), (1, kN), (1, kN)]), om 27 6, on (.store 8 (tm 4) (tm 26)), om 5 27] [kp [4, 5] [4, 44, 78, 90, 111, 157, 62040, 62052]]) .ret) .skip))) (.seq (.reg [od 28 (lG 4 2), od 29 (.call 27 [(tm 28)]), om 7 29]
 [kp [1, 2, 4, 7] [4, 44, 78, 90, 111, 157, 62040, 62052]]) (.seq (.seq (.reg [od 30 (fa 0 2), od 31 (ld 1 30), od 32 (le 0 31), od 33 (.bin .add (tm 32) (ki 1)), om 34 1, od 35 (le 0 34), od 36 (.bin .add (tm 33) (tm 35)), om 37 7,
 od 38 (le 0 37), od 39 (.bin .add (tm 36) (tm 38)), od 40 (.bin .gtr (tm 39) (ki 16384))] [kp [1, 2, 4, 7, 40] [4, 44, 78, 90, 111, 157, 62040, 62052]]) (.cond (tm 40) (.seq (.reg [od 41 (.build [(4, (.const (.agg #[(.slice none 0
 0), (.slice none 0 0), (.slice none 0 0), (.slice none 0 0)]))), (1, kN), (1, (ki 0)), (1, kN), (1, kN)]), on (.store 8 (tm 4) (tm 41)), od 5 (.mv (ki 3))] [kp [4, 5] [4, 44, 78, 90, 111, 157, 62040, 62052]]) .ret) .skip)) (.seq
 (.reg [od 42 (lG 4 2), od 43 (.call 83 [(tm 42)]), od 44 (.mkmap), od 45 (.build [(4, (tm 43)), (1, (tm 44)), (1, kF)]), od 46 (.box false (tm 45)), om 8 46] [kp [1, 2, 4, 7, 8] [4, 44, 46, 78, 90, 111, 157, 62040, 62052]]) (.seq
 (.seq (.reg [od 47 (fa 1 2), od 48 (ld 1 47), od 49 (le 0 48), od 50 (.mv (ki 0))] [kp [1, 2, 4, 7, 8, 48, 49, 50] [4, 44, 46, 78, 90, 111, 157, 62040, 62052]]) (.block 0 Nb)) (.seq (.reg [od 11 (.alloc false [(.slice
 none 0 0), (.slice none 0 0), (.slice none 0 0), (.slice none 0 0), (.slice none 0 0), (.int .i64 0), (.slice none 0 0), (.slice none 0 0)])] [.nlb 11 4 78 33 1, .nlb 11 6 90 3 1, .nlb 11 7 157 3 1, kp [1, 2, 4, 7, 8, 11] [4, 11,
 44, 46, 78, 90, 111, 157, 62040, 62052]]) (.seq (.reg [om 60 8, od 61 (.build [(1, (ku 0)), (1, kN), (1, (ki 0)), (1, (ki 0))]), od 62 (.hcall 84 [(tm 60), (tm 61), (.const (sV [115, 101]))] [44, 46, 111, 62040, 62052] 62000), od
 63 (fa 5 11), on (.store 1 (tm 63) (tm 62))] [kp [1, 2, 4, 7, 8, 11] [4, 11, 44, 46, 78, 90, 111, 157, 62040, 62052]]) (.seq (.reg [od 64 (.mkmap), om 12 64] [kp [1, 2, 4, 7, 8, 11, 12] [4, 11, 44, 46, 64, 78, 90, 111, 157, 62040,
 62052]]) (.seq (.seq (.reg [om 65 1, od 66 (le 0 65), od 67 (.mv (ki 0))] [kp [2, 4, 7, 8, 11, 12, 65, 66, 67] [4, 11, 44, 46, 64, 78, 90, 111, 157, 62040, 62052]]) (.block 2 Iy)) (.seq (.seq (.reg [om 116 7, od 117
 (le 0 116), od 118 (.mv (ki 0))] [kp [2, 4, 8, 11, 12, 116, 117, 118] [4, 11, 44, 46, 64, 78, 90, 111, 157, 62040, 62052]]) (.gh (.block 6 Nc) [.frz 62040, .frz 62052, .frz 111, .frz 78, .frz 90, .frz 157])) (.seq
 (.seq (.reg [om 160 8, od 161 (.nck (tm 160)), od 162 (fa 5 161), od 163 (ld 1 162)] [kp [4, 8, 11, 163] [4, 11, 44, 46, 78, 90, 111, 157, 62040, 62052]]) (.cond (tm 163) (.seq (.reg [od 164 (.build [(4, (.const (.agg #[(.slice
 none 0 0), (.slice none 0 0), (.slice none 0 0), (.slice none 0 0)]))), (1, kN), (1, (ki 0)), (1, kN), (1, kN)]), on (.store 8 (tm 4) (tm 164)), od 5 (.mv (ki 5))] [kp [4, 5] [4, 44, 78, 90, 111, 157, 62040, 62052]]) .ret) .skip))
 (.seq (.reg [om 165 8, om 166 8, om 167 8, om 168 8, od 169 (.nck (tm 168)), od 170 (fa 0 169), od 171 (fa 0 170), od 172 (.ldR 46 1 false (tm 171)), od 173 (.call 88 [(tm 172)]), om 174 8, od 175 (.nck (tm 174)), od 176 (fa 0
 175), od 177 (fa 1 176), od 178 (.ldR 46 1 false (tm 177)), od 179 (.call 89 [(tm 178)]), om 180 8, od 181 (.nck (tm 180)), od 182 (fa 0 181), od 183 (fa 3 182), od 184 (.ldR 46 1 false (tm 183)), od 185 (.call 85 [(tm 184)]), od
 186 (.nck (tm 165)), od 187 (fa 0 186), od 188 (fa 0 187), on (.stR 46 1 (tm 188) (tm 173)), od 189 (.nck (tm 166)), od 190 (fa 0 189), od 191 (fa 1 190), on (.stR 46 1 (tm 191) (tm 179)), od 192 (.nck (tm 167)), od 193 (fa 0 192),
 od 194 (fa 3 193), on (.stR 46 1 (tm 194) (tm 185))] [kp [4, 8, 11] [4, 11, 44, 46, 78, 90, 111, 157, 62040, 62052]]) (.seq (.reg [om 195 8, od 196 (.nck (tm 195)), od 197 (fa 0 196), od 198 (.ldR 46 4 true (tm 197)), od 199 (fa 4
 11), od 200 (.ldR 11 1 false (tm 199)), od 201 (.call 90 [(tm 200)]), od 202 (fa 6 11), od 203 (.ldR 11 1 false (tm 202)), od 204 (.call 85 [(tm 203)]), od 205 (fa 7 11), od 206 (.ldR 11 1 false (tm 205)), od 207 (.call 85 [(tm
 206)]), od 208 (fa 0 11), on (.stR 11 4 (tm 208) (tm 198)), od 209 (fa 4 11), on (.stR 11 1 (tm 209) (tm 201)), od 210 (fa 6 11), on (.stR 11 1 (tm 210) (tm 204)), od 211 (fa 7 11), on (.stR 11 1 (tm 211) (tm 207))] [kp [4, 11] [4,
 11, 44, 78, 90, 111, 157, 62040, 62052]]) (.seq (.reg [od 212 (lG 8 11), on (.store 8 (tm 4) (tm 212)), od 5 (.mv (ki 0))] [kp [4, 5] [4, 44, 78, 90, 111, 157, 62040, 62052]]) .ret)))))))))))))))
theorem V5 (h : ∀ K : St → Prop, K = run P Γ Nb Q → run P Γ q0x (Ar K Q) s) : run P Γ Nb Q s := Ah h
theorem H3 (h : ∀ K : St → Prop, K = run P Γ Ix Q → run P Γ q0y (Ar K Q) s) : run P Γ Ix Q s := Ah h
theorem H4 (h : ∀ K : St → Prop, K = run P Γ Iy Q → run P Γ q0z (Ar K Q) s) : run P Γ Iy Q s := Ah h
theorem M1 (h : ∀ K : St → Prop, K = run P Γ Nc Q → run P Γ q10 (Ar K Q) s) : run P Γ Nc Q s := Ah h
def Uc : List RV := [.cell 4 8 true, .tmp 5]
/- (*probecard/scans.builder).add (function 84) -/
abbrev Tz : IC := .gh (.seq (.seq (.reg [om 7 0, od 8 (.nck (tm 7)), od 9 (fa 4 8), od 10 (ld 1 9), om 11 2, od 12 (.lkup .str (.bool false) false (tm 10) (tm 11))] [kp [0, 2, 4, 12] [40, 52, 1000000, 1000001, 1000002, 1000003, 1000004]]) (.cond (tm
 12) .skip (.exit 0))) (.block 1 (.reg [om 13 2, od 14 (.bin .add (tm 13) (.const (sV [95]))), om 2 14] [kp [0, 2, 4] [40, 52, 1000000, 1000001, 1000002, 1000003, 1000004]]))) [kp [0, 2, 4] [40, 52, 1000000, 1000001, 1000002,
 1000003, 1000004]]
def Kq : IC := .loop Tz
abbrev G9 : IC := (.seq (.reg [od 4 (.box true (tm 1)), od 6 (.mv (ki 0))] [kp [0, 2, 4] [40, 52, 1000000, 1000001, 1000002, 1000003, 1000004]]) (.seq (.block 0 Kq) (.seq (.reg [om 15 0, od 16 (.nck (tm 15)), od 17 (fa 4 16), od 18
 (ld 1 17), om 19 2, on (.mup .str (tm 18) (tm 19) kT)] [kp [0, 2, 4] [40, 52, 1000000, 1000001, 1000002, 1000003, 1000004]]) (.seq (.reg [om 20 0, om 21 0, od 22 (.nck (tm 21)), od 23 (fa 5 22), od 24 (ld 1 23), om 25 24, oF 26
 (.mv (tm 2)) 25, oF 27 (le 1 26) 25, oF 28 (.bin .gtr (tm 27) (ki 32)) 25, od 29 (.pick (tm 25) kT (tm 28)), od 30 (.nck (tm 20)), od 31 (fa 5 30), on (.store 1 (tm 31) (tm 29))] [kp [0, 2, 4] [40, 52, 1000000, 1000001, 1000002,
 1000003, 1000004]]) (.seq (.reg [om 32 0, om 33 0, od 34 (.nck (tm 33)), od 35 (fa 0 34), od 36 (fa 0 35), od 37 (.ldR 1000001 1 false (tm 36)), od 38 (.ldT 4 true (tm 4)), od 39 (.bsl true 104 4 [(tm 38)]), od 40 (.app false 104 4
 (tm 37) (tm 39)), od 41 (.nck (tm 32)), od 42 (fa 0 41), od 43 (fa 0 42), on (.stR 1000001 1 (tm 43) (tm 40))] [kp [0, 2] [40, 52, 1000000, 1000001, 1000002, 1000003, 1000004]]) (.seq (.reg [om 44 0, om 45 0, od 46 (.nck (tm 45)),
 od 47 (fa 0 46), od 48 (fa 1 47), od 49 (ld 1 48), om 50 2, od 51 (.bsl true 9 1 [(tm 50)]), od 52 (.app false 9 1 (tm 49) (tm 51)), od 53 (.nck (tm 44)), od 54 (fa 0 53), od 55 (fa 1 54), on (.store 1 (tm 55) (tm 52))] [kp [0]
 [40, 52, 1000000, 1000001, 1000002, 1000003, 1000004]]) (.seq (.reg [om 56 0, od 57 (.nck (tm 56)), od 58 (fa 0 57), od 59 (fa 0 58), od 60 (ld 1 59), od 61 (le 0 60), od 62 (.bin .sub (tm 61) (ki 1)), om 6 62] [kp [6] [40, 52,
 1000000, 1000001, 1000002, 1000003, 1000004]]) .ret)))))))
theorem Gn (h : ∀ K : St → Prop, K = run P Γ Kq Q → run P Γ Tz (Ar K Q) s) : run P Γ Kq Q s := Ah h
def Ge : List RV := [.tmp 6]
/- probecard/netlists.Copy (function 83) -/
abbrev q03 : IC := .gh (.seq (.reg [od 25 (.bin .lss (tm 24) (tm 23))] [kp [2, 3, 22, 23, 24, 25] [2, 3, 14007]]) (.seq (.cond (tm 25) .skip (.exit 0)) (.seq (.block 1 (.seq (.reg [om 26 24, od 27 (ia 4 22 24), od 28 (lG 4 27), od 5 (.alloc false
 [(.int .u8 0), (.slice none 0 0), (.int .i64 0), (.int .i64 0)]), om 4 26, on (.store 4 (tm 5) (tm 28))] [kp [2, 3, 4, 5, 22, 23, 24] [2, 3, 5, 14007]]) (.reg [od 29 (fa 0 3), od 30 (.ldR 3 1 false (tm 29)), om 31 4, od 32 (fa 1
 5), od 33 (.ldR 5 1 false (tm 32)), od 34 (.callT 136 [(tm 33)]), od 35 (ia 4 30 31), od 36 (fa 1 35), on (.stR 14007 1 (tm 36) (tm 34))] [kp [2, 3, 22, 23, 24] [2, 3, 14007]]))) (.reg [od 37 (.bin .add (tm 24) (ki 1)), om 24 37]
 [kp [2, 3, 22, 23, 24] [2, 3, 14007]])))) [kp [2, 3, 22, 23, 24] [2, 3, 14007]]
def Ky : IC := .loop q03
abbrev q04 : IC := .gh (.seq (.reg [od 42 (.bin .lss (tm 41) (tm 40))] [kp [2, 3, 39, 40, 41, 42] [2, 3, 14007]]) (.seq (.cond (tm 42) .skip (.exit 2)) (.seq (.block 3 (.seq (.reg [om 43 41, od 44 (ia 3 39 41), od 45 (lG 3 44), od 7 (.alloc false
 [(.slice none 0 0), (.slice none 0 0), (.int .i64 0)]), om 6 43, on (.store 3 (tm 7) (tm 45))] [kp [2, 3, 6, 7, 39, 40, 41] [2, 3, 7, 14007]]) (.reg [od 46 (fa 2 3), od 47 (.ldR 3 1 false (tm 46)), om 48 6, od 49 (fa 2 3), od 50
 (.ldR 3 1 false (tm 49)), om 51 6, od 52 (fa 0 7), od 53 (.ldR 7 1 false (tm 52)), od 54 (.callT 136 [(tm 53)]), od 55 (fa 1 7), od 56 (.ldR 7 1 false (tm 55)), od 57 (.callT 136 [(tm 56)]), od 58 (ia 3 47 48), od 59 (fa 0 58), on
 (.stR 14007 1 (tm 59) (tm 54)), od 60 (ia 3 50 51), od 61 (fa 1 60), on (.stR 14007 1 (tm 61) (tm 57))] [kp [2, 3, 39, 40, 41] [2, 3, 14007]]))) (.reg [od 62 (.bin .add (tm 41) (ki 1)), om 41 62] [kp [2, 3, 39, 40, 41] [2, 3,
 14007]])))) [kp [2, 3, 39, 40, 41] [2, 3, 14007]]
def S3 : IC := .loop q04
abbrev q05 : IC := (.seq (.reg [od 1 (.box true (tm 0)), od 2 (.alloc false [(.slice none 0 0), (.slice none 0 0), (.slice none 0 0), (.slice none 0 0)])] [kp [1, 2] [2, 14007]]) (.seq (.reg [od 8 (fa 0 1), od 9 (.ldT 1 false (tm 8)), od 10 (.ncall
 133 [(tm 9)] 10000), od 11 (fa 1 1), od 12 (.ldT 1 false (tm 11)), od 13 (.callT 134 [(tm 12)]), od 14 (fa 2 1), od 15 (.ldT 1 false (tm 14)), od 16 (.callT 135 [(tm 15)]), od 17 (fa 3 1), od 18 (.ldT 1 false (tm 17)), od 19
 (.callT 136 [(tm 18)]), od 20 (.build [(1, (tm 10)), (1, (tm 13)), (1, (tm 16)), (1, (tm 19))]), od 3 (.alloc false [(.slice none 0 0), (.slice none 0 0), (.slice none 0 0), (.slice none 0 0)]), on (.stR 3 4 (tm 3) (tm 20))] [kp
 [2, 3] [2, 3, 14007]]) (.seq (.seq (.reg [od 21 (fa 0 3), od 22 (ld 1 21), od 23 (le 0 22), od 24 (.mv (ki 0))] [kp [2, 3, 22, 23, 24] [2, 3, 14007]]) (.gh (.block 0 Ky) [.frz 14007])) (.seq (.seq (.reg [od 38 (fa 2
 3), od 39 (ld 1 38), od 40 (le 0 39), od 41 (.mv (ki 0))] [kp [2, 3, 39, 40, 41] [2, 3, 14007]]) (.block 2 S3)) (.seq (.reg [od 63 (lG 4 3), on (.store 4 (tm 2) (tm 63))] [kp [2] [2, 14007]]) .ret)))))
theorem U0 (h : ∀ K : St → Prop, K = run P Γ Ky Q → run P Γ q03 (Ar K Q) s) : run P Γ Ky Q s := Ah h
theorem q2P (h : ∀ K : St → Prop, K = run P Γ S3 Q → run P Γ q04 (Ar K Q) s) : run P Γ S3 Q s := Ah h
def q06 : List RV := [.cell 2 4 true]
/- probecard/netlists.copied[probecard/api.Node] (function 133) -/
abbrev Js : IC := (.seq (.reg [od 2 (.mv kN)] [kp [0] []]) (.seq (.reg [om 3 0, od 4 (.hcall 162 [(tm 3)] [] 4000), od 5 (.hcall 88 [(tm 4)] [4007] 5000), om 2 5] [kp [2] [4007]]) .ret))
def Jt : List RV := [.tmp 2]
/- probecard/netlists.copied[string] (function 134) -/
abbrev Lm : IC := (.seq (.reg [od 2 (.mv kN)] [kp [0] []]) (.seq (.reg [om 3 0, od 4 (.call 163 [(tm 3)]), od 5 (.call 89 [(tm 4)]), om 2 5] [kp [2] []]) .ret))
def Ln : List RV := [.tmp 2]
/- probecard/netlists.copied[probecard/api.Memory] (function 135) -/
abbrev Hu : IC := (.seq (.reg [od 2 (.mv kN)] [kp [0] []]) (.seq (.reg [om 3 0, od 4 (.call 165 [(tm 3)]), od 5 (.call 164 [(tm 4)]), om 2 5] [kp [2] []]) .ret))
def Hv : List RV := [.tmp 2]
/- probecard/netlists.copied[int] (function 136) -/
abbrev Qc : IC := (.seq (.reg [od 2 (.mv kN)] [kp [0] []]) (.seq (.reg [om 3 0, od 4 (.call 86 [(tm 3)]), od 5 (.call 85 [(tm 4)]), om 2 5] [kp [2] []]) .ret))
def En : List RV := [.tmp 2]
/- slices.Clone[[]probecard/api.Node,probecard/api.Node] (function 162) -/
abbrev Gp : IC := (.seq (.reg [od 2 (.mv kN)] [kp [0] []]) (.seq (.seq (.reg [om 3 0, od 4 (.isNil true (tm 3))] [kp [0, 4] []]) (.cond (tm 4) (.seq (.reg [od 2 (.mv kN)] [kp [2] [7]]) .ret) .skip)) (.seq (.reg [od 5 (.bsl true 104 4 []), om 6 0, od
 7 (.app false 104 4 (tm 5) (tm 6)), om 2 7] [kp [2] [7]]) .ret)))
def Gq : List RV := [.tmp 2]
/- slices.Clone[[]string,string] (function 163) -/
abbrev Ih : IC := (.seq (.reg [od 2 (.mv kN)] [kp [0] []]) (.seq (.seq (.reg [om 3 0, od 4 (.isNil true (tm 3))] [kp [0, 4] []]) (.cond (tm 4) (.seq (.reg [od 2 (.mv kN)] [kp [2] []]) .ret) .skip)) (.seq (.reg [od 5 (.bsl true 9 1 []), om 6 0, od 7
 (.appT 9 1 (tm 5) (tm 6)), om 2 7] [kp [2] []]) .ret)))
def Ii : List RV := [.tmp 2]
/- slices.Clone[[]probecard/api.Memory,probecard/api.Memory] (function 165) -/
abbrev Kr : IC := (.seq (.reg [od 2 (.mv kN)] [kp [0] []]) (.seq (.seq (.reg [om 3 0, od 4 (.isNil true (tm 3))] [kp [0, 4] []]) (.cond (tm 4) (.seq (.reg [od 2 (.mv kN)] [kp [2] []]) .ret) .skip)) (.seq (.reg [od 5 (.bsl true 110 3 []), om 6 0, od
 7 (.appT 110 3 (tm 5) (tm 6)), om 2 7] [kp [2] []]) .ret)))
def Ks : List RV := [.tmp 2]
/- slices.Clip[[]probecard/api.Node,probecard/api.Node] (function 88) -/
abbrev Hj : IC := (.seq (.reg [od 2 (.mv kN)] [kp [0] [1000000]]) (.seq (.reg [om 3 0, om 4 0, od 5 (le 0 4), om 6 0, od 7 (le 0 6), od 8 (.slice 4 (tm 3) none (some (tm 5)) (some (tm 7))), om 2 8] [kp [2] [1000000]]) .ret))
def Hk : List RV := [.tmp 2]
/- slices.Clip[[]string,string] (function 89) -/
abbrev J5 : IC := (.seq (.reg [od 2 (.mv kN)] [kp [0] []]) (.seq (.reg [om 3 0, om 4 0, od 5 (le 0 4), om 6 0, od 7 (le 0 6), od 8 (.slice 1 (tm 3) none (some (tm 5)) (some (tm 7))), om 2 8] [kp [2] []]) .ret))
def J6 : List RV := [.tmp 2]
/- slices.Clip[[]probecard/api.Memory,probecard/api.Memory] (function 164) -/
abbrev Lo : IC := (.seq (.reg [od 2 (.mv kN)] [kp [0] []]) (.seq (.reg [om 3 0, om 4 0, od 5 (le 0 4), om 6 0, od 7 (le 0 6), od 8 (.slice 3 (tm 3) none (some (tm 5)) (some (tm 7))), om 2 8] [kp [2] []]) .ret))
def Lp : List RV := [.tmp 2]
/- strconv.Itoa (function 87) -/
abbrev q12 : IC := (.seq (.reg [od 2 (.mv (.const (sV [])))] [kp [0] []]) (.seq (.reg [om 3 0, od 4 (.call 137 [(tm 3)]), om 2 4] [kp [2] []]) .ret))
def q13 : List RV := [.tmp 2]
/- internal/strconv.Itoa (function 137) -/
abbrev Ym : IC := (.seq (.reg [od 2 (.mv (.const (sV [])))] [kp [0] []]) (.seq (.reg [om 3 0, od 4 (.call 166 [(tm 3), (ki 10)]), om 2 4] [kp [2] []]) .ret))
def Yn : List RV := [.tmp 2]
/- internal/strconv.FormatInt (function 166) -/
abbrev Qd : IC := (.seq (.reg [od 4 (.mv (.const (sV [])))] [kp [0, 1] []]) (.seq (.seq (.reg [om 10 1, od 11 (.bin .eql (tm 10) (ki 10))] [kp [0, 1, 11] []]) (.cond (tm 11) (.seq (.seq (.reg [om 12 0, od 13 (.bin .leq (ki 0) (tm 12)), om 14 13, oT
 15 (.mv (tm 0)) 14, oT 16 (.bin .lss (tm 15) (ki 100)) 14, od 17 (.pick (tm 14) (tm 16) kF)] [kp [0, 17] []]) (.cond (tm 17) (.seq (.reg [om 18 0, od 19 (.call 183 [(tm 18)]), om 4 19] [kp [4] []]) .ret) .skip)) (.seq (.reg [od 5
 (.alloc false [(.int .u8 0), (.int .u8 0), (.int .u8 0), (.int .u8 0), (.int .u8 0), (.int .u8 0), (.int .u8 0), (.int .u8 0), (.int .u8 0), (.int .u8 0), (.int .u8 0), (.int .u8 0), (.int .u8 0), (.int .u8 0), (.int .u8 0), (.int
 .u8 0), (.int .u8 0), (.int .u8 0), (.int .u8 0), (.int .u8 0), (.int .u8 0), (.int .u8 0), (.int .u8 0), (.int .u8 0)])] [kp [0, 5] [5]]) (.seq (.reg [om 20 0, od 21 (.conv .u64 (tm 20)), om 6 21] [kp [0, 5, 6] [5]]) (.seq (.seq
 (.reg [om 22 0, od 23 (.bin .lss (tm 22) (ki 0))] [kp [0, 5, 6, 23] [5]]) (.cond (tm 23) (.reg [om 24 6, od 25 (.un .neg (tm 24)), om 6 25] [kp [0, 5, 6] [5]]) .skip)) (.seq (.reg [om 26 6, od 27 (.call 184 [(tm 26)]), om 7 27] [kp
 [0, 5, 6, 7] [5]]) .dead))))) .skip)) (.seq (.reg [om 45 0, od 46 (.conv .u64 (tm 45)), om 47 1, om 48 0, od 49 (.bin .lss (tm 48) (ki 0)), od 50 (.call 186 [kN, (tm 46), (tm 47), (tm 49), kF]), om 44 50, od 51 (ex 44 0), od 52 (ex
 44 1), om 8 51, om 9 52] [kp [9] []]) (.seq (.reg [om 53 9, om 4 53] [kp [4] []]) .ret))))
def Qe : List RV := [.tmp 4]
/- internal/strconv.small (function 183) -/
abbrev Nz : IC := (.seq (.reg [od 2 (.mv (.const (sV [])))] [kp [0] []]) (.seq (.seq (.reg [om 3 0, od 4 (.bin .lss (tm 3) (ki 10))] [kp [0, 4] []]) (.cond (tm 4) (.seq (.reg [om 5 0, om 6 0, od 7 (.bin .add (tm 6) (ki 1)), od 8 (.slice 0 (.const
 (sV [48, 49, 50, 51, 52, 53, 54, 55, 56, 57, 97, 98, 99, 100, 101, 102, 103, 104, 105, 106, 107, 108, 109, 110, 111, 112, 113, 114, 115, 116, 117, 118, 119, 120, 121, 122])) (some (tm 5)) (some (tm 7)) none), om 2 8] [kp [2] []])
 .ret) .skip)) (.seq (.reg [om 9 0, od 10 (.bin .mul (tm 9) (ki 2)), om 11 0, od 12 (.bin .mul (tm 11) (ki 2)), od 13 (.bin .add (tm 12) (ki 2)), od 14 (.slice 0 (.const (sV [48, 48, 48, 49, 48, 50, 48, 51, 48, 52, 48, 53, 48, 54,
 48, 55, 48, 56, 48, 57, 49, 48, 49, 49, 49, 50, 49, 51, 49, 52, 49, 53, 49, 54, 49, 55, 49, 56, 49, 57, 50, 48, 50, 49, 50, 50, 50, 51, 50, 52, 50, 53, 50, 54, 50, 55, 50, 56, 50, 57, 51, 48, 51, 49, 51, 50, 51, 51, 51, 52, 51, 53,
 51, 54, 51, 55, 51, 56, 51, 57, 52, 48, 52, 49, 52, 50, 52, 51, 52, 52, 52, 53, 52, 54, 52, 55, 52, 56, 52, 57, 53, 48, 53, 49, 53, 50, 53, 51, 53, 52, 53, 53, 53, 54, 53, 55, 53, 56, 53, 57, 54, 48, 54, 49, 54, 50, 54, 51, 54, 52,
 54, 53, 54, 54, 54, 55, 54, 56, 54, 57, 55, 48, 55, 49, 55, 50, 55, 51, 55, 52, 55, 53, 55, 54, 55, 55, 55, 56, 55, 57, 56, 48, 56, 49, 56, 50, 56, 51, 56, 52, 56, 53, 56, 54, 56, 55, 56, 56, 56, 57, 57, 48, 57, 49, 57, 50, 57, 51,
 57, 52, 57, 53, 57, 54, 57, 55, 57, 56, 57, 57])) (some (tm 10)) (some (tm 13)) none), om 2 14] [kp [2] []]) .ret)))
def O0 : List RV := [.tmp 2]
end
end Go.Lg
namespace Go.Lg
open Go Go.Proofs
theorem q5d : Aw Tryz.prog 29 q11 213 2 Uc = true := by kernel_rfl
theorem J7 : Aw Tryz.prog 84 G9 63 3 Ge = true := by kernel_rfl
theorem q51 : Aw Tryz.prog 83 q05 64 1 q06 = true := by kernel_rfl
theorem Ud : Aw Tryz.prog 133 Js 6 1 Jt = true := by kernel_rfl
theorem Xb : Aw Tryz.prog 134 Lm 6 1 Ln = true := by kernel_rfl
theorem S4 : Aw Tryz.prog 135 Hu 6 1 Hv = true := by kernel_rfl
theorem q07 : Aw Tryz.prog 136 Qc 6 1 En = true := by kernel_rfl
theorem Xq : Aw Tryz.prog 162 Gp 8 1 Gq = true := by kernel_rfl
theorem q08 : Aw Tryz.prog 163 Ih 8 1 Ii = true := by kernel_rfl
theorem Vt : Aw Tryz.prog 165 Kr 8 1 Ks = true := by kernel_rfl
theorem N6 : Aw Tryz.prog 88 Hj 9 1 Hk = true := by kernel_rfl
theorem Qf : Aw Tryz.prog 89 J5 9 1 J6 = true := by kernel_rfl
theorem Xc : Aw Tryz.prog 164 Lo 9 1 Lp = true := by kernel_rfl
theorem q5e : Aw Tryz.prog 87 q12 5 1 q13 = true := by kernel_rfl
theorem q4A : Aw Tryz.prog 137 Ym 5 1 Yn = true := by kernel_rfl
theorem q09 : Aw Tryz.prog 166 Qd 54 2 Qe = true := by kernel_rfl
theorem q3D : Aw Tryz.prog 183 Nz 15 1 O0 = true := by kernel_rfl
end Go.Lg
namespace Go.Lg
open Go Go.Proofs
variable {Γ : Tables}
def Re (i : Nat) : List UInt8 := if i < 10 then [UInt8.ofNat (48 + i)] else [UInt8.ofNat (48 + i / 10), UInt8.ofNat (48 + i % 10)]
def qJp : List UInt8 := [48, 49, 50, 51, 52, 53, 54, 55, 56, 57, 97, 98, 99, 100, 101, 102, 103, 104, 105, 106, 107, 108, 109, 110, 111, 112, 113, 114, 115, 116, 117, 118, 119, 120, 121, 122]
def qJq : List UInt8 := (List.range 100).flatMap fun i => [UInt8.ofNat (48 + i / 10), UInt8.ofNat (48 + i % 10)]
theorem qGW : ∀ i, i < 10 → ((ByteArray.mk qJp.toArray).extract i (i + 1)).data.toList = [UInt8.ofNat (48 + i)] := by decide +kernel
theorem qGX : ∀ i, i < 100 → ((ByteArray.mk qJq.toArray).extract (i * 2) (i * 2 + 2)).data.toList = [UInt8.ofNat (48 + i / 10), UInt8.ofNat (48 + i % 10)] := by decide +kernel
theorem qHC {a : ByteArray} {l : List UInt8} (h : a.data.toList = l) : a = ByteArray.mk l.toArray := by
  cases a; simp only at h; subst h; rfl
theorem qCI (i : Nat) (hi : i < 100) : Aa Tryz.prog Γ 183 [tI i] (tS (Re i)) := by
  refine Ac q3D rfl ?_
  by_cases h : i < 10
  · have h' : (i : Int) < 10 := by omega
    have e := qHC (qGW i h)
    simp only [qJp] at e
    simp (disch := omega) [Nz, sV, h, h', A5]
    have e1 : ((i : Int) + 1).toNat = i + 1 := by omega
    simp [O0, e1, e, Re, h, tS, sV]
    omega
  · have h' : ¬ (i : Int) < 10 := by omega
    have e := qHC (qGX i hi)
    have d2 : qJq = [48, 48, 48, 49, 48, 50, 48, 51, 48, 52, 48, 53, 48, 54, 48, 55, 48, 56, 48, 57, 49, 48, 49, 49, 49, 50, 49, 51, 49, 52, 49, 53, 49, 54, 49, 55, 49, 56, 49, 57, 50, 48, 50, 49, 50, 50, 50, 51, 50, 52, 50, 53, 50, 54, 50, 55, 50, 56, 50, 57, 51, 48, 51, 49, 51, 50, 51, 51, 51, 52, 51, 53, 51, 54, 51, 55, 51, 56, 51, 57, 52, 48, 52, 49, 52, 50, 52, 51, 52, 52, 52, 53, 52, 54, 52, 55, 52, 56, 52, 57, 53, 48, 53, 49, 53, 50, 53, 51, 53, 52, 53, 53, 53, 54, 53, 55, 53, 56, 53, 57, 54, 48, 54, 49, 54, 50, 54, 51, 54, 52, 54, 53, 54, 54, 54, 55, 54, 56, 54, 57, 55, 48, 55, 49, 55, 50, 55, 51, 55, 52, 55, 53, 55, 54, 55, 55, 55, 56, 55, 57, 56, 48, 56, 49, 56, 50, 56, 51, 56, 52, 56, 53, 56, 54, 56, 55, 56, 56, 56, 57, 57, 48, 57, 49, 57, 50, 57, 51, 57, 52, 57, 53, 57, 54, 57, 55, 57, 56, 57, 57] := by decide +kernel
    rw [d2] at e
    simp (disch := omega) [Nz, sV, h, h', A5]
    have e1 : ((i : Int) * 2).toNat = i * 2 := by omega
    have e2 : ((i : Int) * 2 + 2).toNat = i * 2 + 2 := by omega
    simp [O0, e1, e2, e, Re, h, tS, sV]
    omega
theorem q5f (i : Nat) (hi : i < 100) : Aa Tryz.prog Γ 87 [tI i] (tS (Re i)) := by
  have h1 : Aa Tryz.prog Γ 166 [tI i, tI 10] (tS (Re i)) := by
    refine Ac q09 rfl ?_
    have h0 : (0 : Int) ≤ i := by omega
    have h2 : (i : Int) < 100 := by omega
    simp (disch := omega) [Qd, h2]
    refine A3 (qCI i hi) rfl ?_
    simp [Qe, tS, sV]
  have h2 : Aa Tryz.prog Γ 137 [tI i] (tS (Re i)) := by
    refine Ac q4A rfl ?_
    simp [Ym]
    refine A3 h1 rfl ?_
    simp [Yn, tS, sV]
  refine Ac q5e rfl ?_
  simp [q12]
  refine A3 h2 rfl ?_
  simp [q13, tS, sV]
end Go.Lg
namespace Go.Lg
open Go
section
variable {P : Program} {Γ : Tables} {Q : AX → St → Prop} {s : St}
/- probecard/scans.Balance (function 94) -/
abbrev q2Q : IC := .gh (.seq (.reg [od 32 (.bin .lss (tm 31) (tm 30))] [kp [2, 6, 20, 21, 22, 29, 30, 31, 32] [19]]) (.seq (.cond (tm 32) .skip (.exit 2)) (.seq (.block 3 (.seq (.reg [od 33 (ia 1 29 31), od 34 (ld 1 33), om 10 34] [kp [2, 6, 10, 20,
 21, 22, 29, 30, 31] [19]]) (.seq (.seq (.reg [om 35 10, od 36 (.bin .lss (tm 35) (ki 0)), om 37 36, oF 38 (.mv (tm 10)) 37, oF 39 (fa 0 2) 37, oF 40 (ld 1 39) 37, oF 41 (le 0 40) 37, oF 42 (.bin .geq (tm 38) (tm 41)) 37, od 43
 (.pick (tm 37) kT (tm 42)), om 44 43, oF 45 (fa 0 2) 44, oF 46 (ld 1 45) 44, oF 47 (.mv (tm 10)) 44, oF 48 (ia 4 46 47) 44, oF 49 (fa 0 48) 44, oF 50 (ld 1 49) 44, oF 51 (.bin .neq (tm 50) (ku 14)) 44, od 52 (.pick (tm 44) kT (tm
 51)), om 53 52, oF 54 (.mv (tm 6)) 53, oF 55 (.mv (tm 10)) 53, oF 56 (.lkup (.int .i64) (.bool false) false (tm 54) (tm 55)) 53, od 57 (.pick (tm 53) kT (tm 56))] [kp [2, 6, 10, 20, 21, 22, 29, 30, 31, 57] [19]]) (.cond (tm 57)
 (.seq (.reg [od 4 (.mv (ki 1))] [kp [4] []]) .ret) .skip)) (.reg [om 58 6, om 59 10, on (.mup (.int .i64) (tm 58) (tm 59) kT)] [kp [2, 6, 20, 21, 22, 29, 30, 31] [19]])))) (.reg [od 60 (.bin .add (tm 31) (ki 1)), om 31 60] [kp [2,
 6, 20, 21, 22, 29, 30, 31] [19]])))) [kp [2, 6, 20, 21, 22, 29, 30, 31] [19]]
def Qg : IC := .loop q2Q
abbrev q2R : IC := .gh (.seq (.reg [od 23 (.bin .lss (tm 22) (tm 21))] [kp [2, 6, 20, 21, 22, 23] [19]]) (.seq (.cond (tm 23) .skip (.exit 0)) (.seq (.block 1 (.seq (.reg [od 24 (ia 1 20 22), od 25 (ld 1 24), om 8 25] [kp [2, 6, 8, 20, 21, 22] [19]])
 (.seq (.seq (.reg [om 26 8, od 27 (le 0 26), od 28 (.bin .eql (tm 27) (ki 0))] [kp [2, 6, 8, 20, 21, 22, 28] [19]]) (.cond (tm 28) (.seq (.reg [od 4 (.mv (ki 1))] [kp [4] []]) .ret) .skip)) (.seq (.reg [om 29 8, od 30 (le 0 29), od
 31 (.mv (ki 0))] [kp [2, 6, 20, 21, 22, 29, 30, 31] [19]]) (.block 2 Qg))))) (.reg [od 61 (.bin .add (tm 22) (ki 1)), om 22 61] [kp [2, 6, 20, 21, 22] [19]])))) [kp [2, 6, 20, 21, 22] [19]]
def Qh : IC := .loop q2R
abbrev q2S : IC := (.seq (.reg [od 2 (.box true (tm 0)), od 4 (.mv (ki 0))] [kp [1, 2] []]) (.seq (.seq (.reg [od 11 (lG 4 2), od 12 (.call 132 [(tm 11)]), om 5 12] [kp [1, 2, 5] []]) (.seq (.reg [om 13 5, od 14 (.bin .neq (tm 13) (ki 0))] [kp [1, 2,
 5, 14] []]) (.cond (tm 14) (.seq (.reg [om 15 5, om 4 15] [kp [4] []]) .ret) .skip))) (.seq (.seq (.reg [om 16 1, od 17 (le 0 16), od 18 (.bin .gtr (tm 17) (ki 64))] [kp [1, 2, 18] []]) (.cond (tm 18) (.seq (.reg [od 4 (.mv (ki
 3))] [kp [4] []]) .ret) .skip)) (.seq (.reg [od 19 (.mkmap), om 6 19] [kp [1, 2, 6] [19]]) (.seq (.seq (.reg [om 20 1, od 21 (le 0 20), od 22 (.mv (ki 0))] [kp [2, 6, 20, 21, 22] [19]]) (.block 0 Qh)) (.seq (.seq (.reg
 [om 62 6, od 63 (le 2 62), od 64 (lG 4 2), od 65 (.call 27 [(tm 64)]), od 66 (le 0 65), od 67 (.bin .neq (tm 63) (tm 66))] [kp [67] []]) (.cond (tm 67) (.seq (.reg [od 4 (.mv (ki 8))] [kp [4] []]) .ret) .skip)) (.seq (.reg [od 4
 (.mv (ki 0))] [kp [4] []]) .ret)))))))
theorem Xd (h : ∀ K : St → Prop, K = run P Γ Qg Q → run P Γ q2Q (Ar K Q) s) : run P Γ Qg Q s := Ah h
theorem Xe (h : ∀ K : St → Prop, K = run P Γ Qh Q → run P Γ q2R (Ar K Q) s) : run P Γ Qh Q s := Ah h
def Hl : List RV := [.tmp 4]
/- probecard/scans.Length (function 96) -/
end
end Go.Lg
namespace Go.Lg
open Go Go.Proofs
theorem q6c : Aw Tryz.prog 82 q2S 68 2 Hl = true := by kernel_rfl
end Go.Lg
namespace Go.Lg
open Go Go.Proofs
variable {Γ : Tables}
def q14 (l : List Int) : List (Value × T) := l.map fun n => (.int .i64 n, tB true)
theorem q4B (x : Int) : ∀ l : List Int, E0 (.int .i64 x) (q14 l) = if x ∈ l then some (tB true) else none
  | [] => rfl
  | y :: l => by
    have ih := q4B x l
    simp only [q14, List.map_cons, E0, Qu, q9l] at ih ⊢
    by_cases h : x = y
    · simp [h]
    · simp [h, ih]
theorem q9E (x : Int) : ∀ l : List Int, x ∉ l → q0J (.int .i64 x) (tB true) (q14 l) = q14 (l ++ [x])
  | [], _ => rfl
  | y :: l, h => by
    have ih := q9E x l (fun hm => h (List.mem_cons_of_mem _ hm))
    have hne : x ≠ y := fun e => h (by simp [e])
    simp only [q14, List.map_cons, q0J, Qu, q9l, List.cons_append] at ih ⊢
    simp [hne, ih]
theorem qDt (l : List Int) : Hz (.int .i64) (q14 l) := by
  intro e he; obtain ⟨s, _, rfl⟩ := List.mem_map.1 he; rfl
theorem qDu (l : List Int) : (q14 l).length = l.length := by simp [q14]
def Kz (c : B9) (done : List Int) (n : Int) : Bool := decide (n < 0 ∨ (c.nodes.l.length : Int) ≤ n ∨ B7 c n.toNat ≠ 14 ∨ n ∈ done)
def Yo (c : B9) : List Int → List Int → Option (List Int)
  | done, [] => some done
  | done, n :: l => if Kz c done n then none else Yo c (done ++ [n]) l
def Qi (c : B9) : List Int → List (Sl Int) → Option (List Int)
  | done, [] => some done
  | done, s :: l => if s.l = [] then none else (Yo c done s.l).bind fun d => Qi c d l
theorem q7t {Q : AX → St → Prop} (c : B9) (hn : c.nodes.l.length ≤ 1000000000) (chs : T) (a21 a22 : T) (s : Sl Int) (hs : s.l.length ≤ 1000000000) (R : Option (List Int))
    (h0 : ∀ d, R = some d → Q (.exit 2) ⟨[(2, .t (.ip (tC c) 0)), (6, .lm 19), (20, .t chs), (21, .t a21), (22, .t a22), (29, .t (As s)), (30, .t (tI s.l.length)), (31, .t (tI s.l.length)), (32, .t (tB false))], [(19, .mp (q14 d))]⟩)
    (h1 : R = none → Q .ret ⟨[(4, .t (tI 1))], []⟩) : ∀ (kk k : Nat) (done : List Int), kk + k = s.l.length → Yo c done (s.l.drop k) = R →
    run Tryz.prog Γ Qg Q ⟨[(2, .t (.ip (tC c) 0)), (6, .lm 19), (20, .t chs), (21, .t a21), (22, .t a22), (29, .t (As s)), (30, .t (tI s.l.length)), (31, .t (tI k))], [(19, .mp (q14 done))]⟩
  | 0, k, done, h, hR => by
    refine Xd fun K hK => ?_
    have h2 : ¬ k < s.l.length := by omega
    have h3 : k = s.l.length := by omega
    simp [h2]
    subst h3
    rw [List.drop_of_length_le (Nat.le_refl _)] at hR
    exact h0 _ hR.symm
  | kk + 1, k, done, h, hR => by
    refine Xd fun K hK => ?_
    have h2 : k < s.l.length := by omega
    rw [List.drop_eq_getElem_cons h2] at hR
    simp only [Yo] at hR
    have hfit := qDt done
    generalize hx : s.l[k] = n at hR
    by_cases b1 : n < 0
    · rw [if_pos (show Kz c done n = true by simp [Kz, b1])] at hR
      simp (disch := omega) [h2, As, A0, B1 (0 : Int), A9, hx, b1]
      exact h1 hR.symm
    by_cases b2 : (c.nodes.l.length : Int) ≤ n
    · rw [if_pos (show Kz c done n = true by simp [Kz, b2])] at hR
      simp (disch := omega) [h2, As, A0, B1 (0 : Int), A9, hx, b1, b2, tC, Ab, Ae]
      exact h1 hR.symm
    have hj : n.toNat < c.nodes.l.length := by omega
    have hk : B7 c n.toNat = c.nodes.l[n.toNat].k := by simp [B7, hj]
    by_cases b3 : c.nodes.l[n.toNat].k = 14
    case neg =>
      rw [if_pos (show Kz c done n = true by simp [Kz, hk, b3])] at hR
      simp (disch := omega) [h2, As, A0, B1 (0 : Int), A9, hx, b1, b2, tC, Ab, Ae, D3 Nd.d, Ba, Bw, hj, b3]
      exact ⟨by omega, h1 hR.symm⟩
    by_cases b4 : n ∈ done
    · rw [if_pos (show Kz c done n = true by simp [Kz, b4])] at hR
      simp (disch := omega) [h2, As, A0, B1 (0 : Int), A9, hx, b1, b2, tC, Ab, Ae, D3 Nd.d, Ba, Bw, hj, b3, KT.fits, hfit, q4B, b4]
      exact ⟨by omega, h1 hR.symm⟩
    rw [if_neg (show ¬ Kz c done n = true by simp [Kz, b1, b2, hk, b3, b4])] at hR
    simp (disch := omega) [h2, As, A0, B1 (0 : Int), A9, hx, b1, b2, tC, Ab, Ae, D3 Nd.d, Ba, Bw, hj, b3, KT.fits, hfit, q4B, b4, q9E, A5]
    refine ⟨by omega, ?_⟩
    rw [hK]
    have := q7t c hn chs a21 a22 s hs R h0 h1 kk (k + 1) (done ++ [n]) (by omega) hR
    simpa [As, tC, Ab] using this
theorem q6J {Q : AX → St → Prop} (c : B9) (hn : c.nodes.l.length ≤ 1000000000) (chs : Sl (Sl Int)) (hl : chs.l.length ≤ 1000000000) (hs : ∀ s ∈ chs.l, s.l.length ≤ 1000000000) (R : Option (List Int))
    (h0 : ∀ d, R = some d → Q (.exit 0) ⟨[(2, .t (.ip (tC c) 0)), (6, .lm 19), (20, .t (Bc chs)), (21, .t (tI chs.l.length)), (22, .t (tI chs.l.length)), (23, .t (tB false))], [(19, .mp (q14 d))]⟩)
    (h1 : R = none → Q .ret ⟨[(4, .t (tI 1))], []⟩) : ∀ (kk k : Nat) (done : List Int), kk + k = chs.l.length → Qi c done (chs.l.drop k) = R →
    run Tryz.prog Γ Qh Q ⟨[(2, .t (.ip (tC c) 0)), (6, .lm 19), (20, .t (Bc chs)), (21, .t (tI chs.l.length)), (22, .t (tI k))], [(19, .mp (q14 done))]⟩
  | 0, k, done, h, hR => by
    refine Xe fun K hK => ?_
    have h2 : ¬ k < chs.l.length := by omega
    have h3 : k = chs.l.length := by omega
    simp [h2]
    subst h3
    rw [List.drop_of_length_le (Nat.le_refl _)] at hR
    exact h0 _ hR.symm
  | kk + 1, k, done, h, hR => by
    refine Xe fun K hK => ?_
    have h2 : k < chs.l.length := by omega
    have hsl := hs _ (List.getElem_mem h2)
    rw [List.drop_eq_getElem_cons h2] at hR
    simp only [Qi] at hR
    by_cases he : chs.l[k].l = []
    · rw [if_pos he] at hR
      simp (disch := omega) [h2, Bc, A0, B1 Sl.d, A9, As, he, C9]
      exact h1 hR.symm
    rw [if_neg he] at hR
    have he' : ¬ chs.l[k].l.length = 0 := fun e => he (List.eq_nil_of_length_eq_zero e)
    simp (disch := omega) [h2, Bc, A0, B1 Sl.d, A9, As, he, he']
    refine q7t c hn (.sl (Ad As chs.l) chs.cap chs.nl) (tI chs.l.length) (tI k) chs.l[k] hsl (Yo c done chs.l[k].l) (fun d hd => ?_) (fun hd => ?_) chs.l[k].l.length 0 done (by omega) rfl
    · rw [hd] at hR
      simp (disch := omega) [A5]
      rw [hK]
      have := q6J c hn chs hl hs R h0 h1 kk (k + 1) d (by omega) hR
      simpa [Bc] using this
    · rw [hd] at hR
      simp
      exact h1 hR.symm
def U1 (c : B9) (chs : List (Sl Int)) : Int :=
  if E5 c ≠ 0 then E5 c else if 64 < chs.length then 3 else match Qi c [] chs with
    | none => 1
    | some d => if d.length ≠ (A6 c).length then 8 else 0
theorem qB4 (hΓ : GOk Γ) (c : B9) (hc : COk c) (chs : Sl (Sl Int)) (hl : chs.l.length ≤ 1000000000) (hs : ∀ s ∈ chs.l, s.l.length ≤ 1000000000) : Aa Tryz.prog Γ 82 [.agg (tC c), Bc chs] (tI (U1 c chs.l)) := by
  refine Ac q6c rfl ?_
  simp [q2S, tC, Ab, Af, Am, As]
  refine A3 (qCD hΓ c hc) rfl ?_
  by_cases h1 : E5 c = 0
  case neg =>
    have : U1 c chs.l = E5 c := by unfold U1; rw [if_pos h1]
    simp [h1, Hl, this]
  have hp : U1 c chs.l = if 64 < chs.l.length then 3 else match Qi c [] chs.l with
    | none => 1
    | some d => if d.length ≠ (A6 c).length then 8 else 0 := by unfold U1; rw [if_neg (show ¬ (E5 c ≠ 0) by simp [h1])]
  by_cases h2 : 64 < chs.l.length
  · rw [if_pos h2] at hp
    have h2' : (64 : Int) < chs.l.length := by omega
    simp [h1, Bc, A0, h2', Hl, hp]
  rw [if_neg h2] at hp
  have h2' : ¬ (64 : Int) < chs.l.length := by omega
  simp [h1, Bc, A0, h2']
  refine q6J c hc.nodes chs hl hs (Qi c [] chs.l) (fun d hd => ?_) (fun hd => ?_) chs.l.length 0 [] (by omega) rfl
  case refine_2 =>
    rw [hd] at hp
    simp [Hl, hp]
  rw [hd] at hp
  simp only at hp
  simp [qDu, tC, Ab, Af, Am, As]
  refine A8 (Dl c hc) rfl ?_
  by_cases h3 : d.length = (A6 c).length
  · rw [if_neg (show ¬ (d.length ≠ (A6 c).length) by simp [h3])] at hp
    simp [A0, h3, Hl, hp]
  · rw [if_pos h3] at hp
    have h3' : ¬ (d.length : Int) = (A6 c).length := by omega
    simp [A0, h3, h3', Hl, hp]
abbrev Pnt := Int × Int
def qF7 (l : List (Int × Pnt)) (n : Int) : Pnt := match l.find? (fun p => p.1 == n) with | some p => p.2 | none => (0, 0)
def qHD (l : List (Int × Pnt)) : Prop := ∀ p ∈ l, -1000000 ≤ p.2.1 ∧ p.2.1 ≤ 1000000 ∧ -1000000 ≤ p.2.2 ∧ p.2.2 ≤ 1000000
theorem qHD.at {l : List (Int × Pnt)} (h : qHD l) (n : Int) : -1000000 ≤ (qF7 l n).1 ∧ (qF7 l n).1 ≤ 1000000 ∧ -1000000 ≤ (qF7 l n).2 ∧ (qF7 l n).2 ≤ 1000000 := by
  unfold qF7
  split
  · rename_i p hp
    exact h p (List.mem_of_find?_eq_some hp)
  · simp
theorem q9z (c : B9) : (A6 c).Nodup := (J0 _ _ _).2
theorem qCJ (c : B9) : (A6 c).length ≤ c.nodes.l.length := Vj _ _ _
def q2T {α : Type} (s : Sl α) : Prop := (s.nl = some true → s.l = []) ∧ (s.nl = none → s.l ≠ []) ∧ s.l.length ≤ 1000000
def cpS (s : Sl Int) : Sl Int := ⟨s.l, some s.l.length, if s.nl = some true then some true else none⟩
theorem q2U (s : Sl Int) (hs : q2T s) : Aa Tryz.prog Γ 86 [As s] (if s.nl = some true then .sl [] (some 0) (some true) else .sl (Ak s.l) none none) := by
  refine Ac q1y rfl ?_
  obtain ⟨l, cap, nl⟩ := s
  obtain ⟨h1, h2, h3⟩ := hs
  simp only at h1 h2 h3
  rcases nl with _ | _ | _
  · have h4 : Ak l ≠ [] := by simpa [Ad] using h2 rfl
    simp (disch := omega) [Gx, Gy, A9, A0, h4, Bd, As]
    omega
  · simp (disch := omega) [Gx, Gy, A9, A0, Bd, As]
    omega
  · have := h1 rfl
    subst this
    simp [Gx, Gy, As]
theorem q15 (s : Sl Int) (hs : q2T s) : Ag Tryz.prog Γ 136 [As s] (As (cpS s)) := by
  refine Ap q07 rfl ?_
  have e1 := q2U (Γ := Γ) s hs
  obtain ⟨l, cap, nl⟩ := s
  obtain ⟨h1, h2, h3⟩ := hs
  simp only at h1 h2 h3
  simp only at e1
  simp [Qc, As]
  refine A3 e1 rfl ?_
  rcases nl with _ | _ | _
  · simp
    refine A8 (K1 (Ak l) none none A9) rfl ?_
    simp [En, cpS, A0]
  · simp
    refine A8 (K1 (Ak l) none none A9) rfl ?_
    simp [En, cpS, A0]
  · have := h1 rfl
    subst this
    simp
    refine A8 (K1 [] (some 0) (some true) (by simp)) rfl ?_
    simp [En, cpS, A0, C9]
theorem q52 (l : List (List UInt8)) (cap : Option Nat) (nl : Option Bool) (hq : nl ≠ some true) (h : l ≠ []) (hl : l.length ≤ 1000000) : Ag Tryz.prog Γ 134 [.sl (Ad tS l) cap nl] (.sl (Ad tS l) (some l.length) none) := by
  refine Ap Xb rfl ?_
  have h4 : Ad tS l ≠ [] := by simpa [Ad] using h
  have e1 : Ag Tryz.prog Γ 163 [.sl (Ad tS l) cap nl] (.sl (Ad tS l) none none) := by
    refine Ap q08 rfl ?_
    rcases nl with _ | _ | _
    · simp (disch := omega) [Ih, Ii, A9, A0, h4, Bd]
      omega
    · simp (disch := omega) [Ih, Ii, A9, A0, h4, Bd]
      omega
    · exact absurd rfl hq
  have e2 : Ag Tryz.prog Γ 89 [.sl (Ad tS l) none none] (.sl (Ad tS l) (some l.length) none) := by
    refine Ap Qf rfl ?_
    simp [J5, J6, A9, A0]
  simp [Lm]
  refine A8 e1 rfl ?_
  simp
  refine A8 e2 rfl ?_
  simp [Ln]
theorem q6d : Ag Tryz.prog Γ 135 [.sl [] (some 0) (some true)] (.sl [] (some 0) (some true)) := by
  refine Ap S4 rfl ?_
  have e1 : Ag Tryz.prog Γ 165 [.sl [] (some 0) (some true)] (.sl [] (some 0) (some true)) := by
    refine Ap Vt rfl ?_
    simp [Kr, Ks]
  have e2 : Ag Tryz.prog Γ 164 [.sl [] (some 0) (some true)] (.sl [] (some 0) (some true)) := by
    refine Ap Xc rfl ?_
    simp [Lo, Lp]
  simp [Hu]
  refine A8 e1 rfl ?_
  simp
  refine A8 e2 rfl ?_
  simp [Hv]
theorem q7u (l : List Nd) (cap : Option Nat) (nl : Option Bool) (hq : nl ≠ some true) (h : l ≠ []) (hl : l.length ≤ 1000000) : Ef Tryz.prog Γ 133 [] [.t (.sl (Az Bw l) cap nl)] (.ls 4007 0 l.length (some l.length)) [(4007, .sl 104 4 (Az Bw l))] := by
  refine Ey Ud rfl ?_
  have h4 : Az Bw l ≠ [] := by simpa [Az] using h
  have e1 : Ef Tryz.prog Γ 162 [] [.t (.sl (Az Bw l) cap nl)] (.ls 7 0 l.length none) [(7, .sl 104 4 (Az Bw l))] := by
    refine Ey Xq rfl ?_
    rcases nl with _ | _ | _
    · simp (disch := omega) [Gp, Gq, Ba, Ae, h4, Bd]
      omega
    · simp (disch := omega) [Gp, Gq, Ba, Ae, h4, Bd]
      omega
    · exact absurd rfl hq
  have e2 : Ef Tryz.prog Γ 88 [(1000000, .sl 104 4 (Az Bw l))] [.ls 1000000 0 l.length none] (.ls 1000000 0 l.length (some l.length)) [(1000000, .sl 104 4 (Az Bw l))] := by
    refine Ey N6 rfl ?_
    simp [Hj, Hk, Ba, Ae]
  simp [Js]
  refine ⟨_, _, e1, ?_⟩
  simp
  refine ⟨_, _, e2, ?_⟩
  simp [Jt]
theorem q5g (s : Sl Int) (hs : q2T s) : Ag Tryz.prog Γ 93 [tV s] (if s.nl = some true then .sl [] (some 0) (some true) else .sl (Av s.l) none none) := by
  refine Ap X6 rfl ?_
  obtain ⟨l, cap, nl⟩ := s
  obtain ⟨h1, h2, h3⟩ := hs
  simp only at h1 h2 h3
  rcases nl with _ | _ | _
  · have h4 : Av l ≠ [] := by simpa [Ad] using h2 rfl
    simp (disch := omega) [Dy, Dz, A9, A0, h4, Bd, tV]
    omega
  · simp (disch := omega) [Dy, Dz, A9, A0, Bd, tV]
    omega
  · have := h1 rfl
    subst this
    simp [Dy, Dz, tV]
theorem qF8 {w : World} {X : Nat → Prop} {cap : Option Nat} {v : Value} (h : TR w X (.sl [] cap none) v) : TR w X (.sl [] cap (some true)) v ∨ TR w X (.sl [] cap (some false)) v := by
  cases h with
  | nil _ _ a c hc hn hz =>
    cases a with
    | none => exact .inl (.nil cap (some true) none c hc (fun b hb => by cases hb; rfl) hz)
    | some a => exact .inr (.nil cap (some false) (some a) c hc (fun b hb => by cases hb; rfl) hz)
  | sl _ _ _ s b off c f hcell hlen hrel hone hx hle hc hq =>
    exact .inr (.sl [] cap (some false) s b off c f hcell hlen hrel hone hx hle hc (fun q hq => by cases hq; rfl))
theorem qGY {w : World} {X : Nat → Prop} {es : List (List T)} {cap : Option Nat} {nl : Option Bool} {v : Value} (h : TR w X (.sl es cap nl) v) : TR w X (.sl es none none) v := by
  cases h with
  | nil _ _ a c hc hn hz => exact .nil none none a c (fun n h => nomatch h) (fun n h => nomatch h) hz
  | sl _ _ _ s b off c f hcell hlen hrel hone hx hle hc hq => exact .sl es none none s b off c f hcell hlen hrel hone hx hle (fun n h => nomatch h) (fun n h => nomatch h)
theorem q9F {P : Program} {f : FuncId} {args : List T} {es : List (List T)} {cap : Option Nat} {nl : Option Bool} (h : Ag P Γ f args (.sl es cap nl)) : Ag P Γ f args (.sl es none none) :=
  fun w X vs hg hx hr => (h w X vs hg hx hr).mono fun v w' ⟨hb, ht⟩ => ⟨hb, qGY ht⟩
theorem qCK {P : Program} {f : FuncId} {cap : Option Nat} {r : T} (h1 : Ag P Γ f [.sl [] cap (some true)] r) (h2 : Ag P Γ f [.sl [] cap (some false)] r) : Ag P Γ f [.sl [] cap none] r :=
  fun w X vs hg hx hr => by
    obtain ⟨x, ys, rfl, hx1, hy⟩ := hr.cons_inv
    rcases qF8 hx1 with h | h
    · exact h1 w X _ hg hx (Fh.cons h hy)
    · exact h2 w X _ hg hx (Fh.cons h hy)
def M3 (s : Sl Int) : Sl Int := if s.nl = some true then ⟨[], some 0, some true⟩ else ⟨s.l, none, none⟩
theorem q9G (s : Sl Int) (h1 : s.nl = some true → s.l = []) (h2 : s.l.length ≤ 1000000) : Ag Tryz.prog Γ 93 [tV s] (tV (M3 s)) := by
  obtain ⟨l, cap, nl⟩ := s
  simp only at h1 h2
  by_cases h3 : nl = none ∧ l = []
  · obtain ⟨rfl, rfl⟩ := h3
    have a1 := q5g (Γ := Γ) ⟨[], cap, some true⟩ ⟨fun _ => rfl, (fun h => nomatch h), Nat.zero_le _⟩
    have a2 := q5g (Γ := Γ) ⟨[], cap, some false⟩ ⟨(fun h => nomatch h), (fun h => nomatch h), Nat.zero_le _⟩
    exact qCK (q9F a1) (q9F a2)
  · have := q5g (Γ := Γ) ⟨l, cap, nl⟩ ⟨h1, fun a b => h3 ⟨a, b⟩, h2⟩
    unfold M3
    by_cases hn : nl = some true
    · have hl := h1 hn
      subst hn
      subst hl
      simpa [tV, C9] using this
    · simpa [tV, hn] using this
theorem qF9 (s : Sl Int) (h1 : s.nl = some true → s.l = []) : (M3 s).l = s.l := by
  unfold M3
  split
  · rename_i h; exact (h1 h).symm
  · rfl
end Go.Lg
namespace Go.Lg
open Go
section
variable {P : Program} {Γ : Tables} {Q : AX → St → Prop} {s : St}
/- probecard/shifts.Depth (function 39) -/
abbrev q16 : IC := .gh (.seq (.reg [od 9 (.bin .lss (tm 8) (tm 7))] [kp [3, 6, 7, 8, 9] []]) (.seq (.cond (tm 9) .skip (.exit 0)) (.seq (.block 1 (.seq (.reg [od 10 (ia 1 6 8), od 11 (ld 1 10), om 5 11] [kp [3, 5, 6, 7, 8] []]) (.reg [om 12 3, om 13
 5, od 14 (le 0 13), od 15 (.mmx true [(tm 12), (tm 14)]), om 3 15] [kp [3, 6, 7, 8] []]))) (.reg [od 16 (.bin .add (tm 8) (ki 1)), om 8 16] [kp [3, 6, 7, 8] []])))) [kp [3, 6, 7, 8] []]
def Nh : IC := .loop q16
abbrev q17 : IC := (.seq (.reg [od 2 (.mv (ki 0))] [kp [0] []]) (.seq (.reg [od 3 (.mv (ki 0))] [kp [0, 3] []]) (.seq (.seq (.reg [om 6 0, od 7 (le 0 6), od 8 (.mv (ki 0))] [kp [3, 6, 7, 8] []]) (.block 0 Nh)) (.seq (.reg [om 17 3, om 2
 17] [kp [2] []]) .ret))))
theorem V6 (h : ∀ K : St → Prop, K = run P Γ Nh Q → run P Γ q16 (Ar K Q) s) : run P Γ Nh Q s := Ah h
def q18 : List RV := [.tmp 2]
/- probecard/shifts.values (function 101) -/
abbrev S5 : IC := (.seq (.reg [od 4 (.mv (ki 0))] [kp [0, 1] []]) (.seq (.seq (.reg [om 5 0, od 6 (le 0 5), om 7 1, od 8 (.bin .neq (tm 6) (tm 7))] [kp [0, 8] []]) (.cond (tm 8) (.seq (.reg [od 4 (.mv (ki 8))] [kp [4] []]) .ret) .skip)) (.seq (.seq
 (.reg [om 9 0, od 10 (.call 76 [(tm 9), (.func 144)])] [kp [10] []]) (.cond (tm 10) (.seq (.reg [od 4 (.mv (ki 1))] [kp [4] []]) .ret) .skip)) (.seq (.reg [od 4 (.mv (ki 0))] [kp [4] []]) .ret))))
def L0 : List RV := [.tmp 4]
/- probecard/shifts.values$1 (function 144) -/
abbrev Xf : IC := (.seq (.reg [od 2 (.mv kF)] [kp [0] []]) (.seq (.reg [om 3 0, od 4 (.bin .gtr (tm 3) (ku 3)), om 2 4] [kp [2] []]) .ret))
def Xg : List RV := [.tmp 2]
/- probecard/shifts.loads (function 102) -/
abbrev q19 : IC := .gh (.seq (.reg [od 22 (.bin .lss (tm 21) (tm 20))] [kp [1, 2, 7, 19, 20, 21, 22] [17]]) (.seq (.cond (tm 22) .skip (.exit 0)) (.seq (.block 1 (.seq (.reg [om 23 21, od 24 (ia 1 19 21), od 25 (ld 1 24), om 8 23, om 9 25] [kp [1, 2,
 7, 8, 9, 19, 20, 21] [17]]) (.reg [om 26 7, om 27 9, om 28 2, om 29 8, od 30 (ia 1 28 29), od 31 (ld 1 30), od 32 (.call 73 [(tm 31)]), on (.mup (.int .i64) (tm 26) (tm 27) (tm 32))] [kp [1, 2, 7, 19, 20, 21] [17]]))) (.reg [od 33
 (.bin .add (tm 21) (ki 1)), om 21 33] [kp [1, 2, 7, 19, 20, 21] [17]])))) [kp [1, 2, 7, 19, 20, 21] [17]]
def Ni : IC := .loop q19
abbrev q1A : IC := .gh (.seq (.reg [od 46 (.bin .lss (tm 45) (tm 44))] [kp [1, 7, 10, 11, 12, 13, 36, 37, 43, 44, 45, 46] [17, 42, 71]]) (.seq (.cond (tm 46) .skip (.exit 4)) (.seq (.block 5 (.seq (.reg [om 47 45, od 48 (ia 1 43 45), od 49 (ld 1 48),
 om 14 47, om 15 49] [kp [1, 7, 10, 11, 12, 13, 14, 15, 36, 37, 43, 44, 45] [17, 42, 71]]) (.seq (.reg [om 50 10, od 51 (.bin .sub (tm 50) (ki 1)), om 52 12, od 53 (.bin .sub (tm 51) (tm 52)), om 16 53] [kp [1, 7, 10, 11, 12, 13,
 14, 15, 16, 36, 37, 43, 44, 45] [17, 42, 71]]) (.seq (.reg [om 54 16, om 55 15, od 56 (le 0 55), od 57 (.bin .lss (tm 54) (tm 56))] [kp [1, 7, 10, 11, 12, 13, 14, 15, 16, 36, 37, 43, 44, 45, 57] [17, 42, 71]]) (.cond (tm 57) (.reg
 [om 58 13, om 59 14, om 60 7, om 61 15, om 62 16, od 63 (ia 1 61 62), od 64 (ld 1 63), od 65 (.lkup (.int .i64) (.int .u8 0) false (tm 60) (tm 64)), od 66 (ia 1 58 59), on (.store 1 (tm 66) (tm 65))] [kp [1, 7, 10, 11, 12, 13, 36,
 37, 43, 44, 45] [17, 42, 71]]) .skip))))) (.reg [od 67 (.bin .add (tm 45) (ki 1)), om 45 67] [kp [1, 7, 10, 11, 12, 13, 36, 37, 43, 44, 45] [17, 42, 71]])))) [kp [1, 7, 10, 11, 12, 13, 36, 37, 43, 44, 45] [17, 42, 71]]
def Nj : IC := .loop q1A
abbrev q1B : IC := .gh (.seq (.reg [od 38 (.bin .lss (tm 37) (tm 36))] [kp [1, 7, 10, 11, 36, 37, 38] [17, 71]]) (.seq (.cond (tm 38) .skip (.exit 2)) (.seq (.block 3 (.seq (.reg [om 39 37, om 12 39] [kp [1, 7, 10, 11, 12, 36, 37] [17, 71]]) (.seq
 (.reg [om 40 1, od 41 (le 0 40), od 42 (.mk 68 1 [(.int .u8 0)] (tm 41) (tm 41)), om 13 42] [kp [1, 7, 10, 11, 12, 13, 36, 37] [17, 42, 71]]) (.seq (.seq (.reg [om 43 1, od 44 (le 0 43), od 45 (.mv (ki 0))] [kp [1, 7, 10, 11, 12,
 13, 36, 37, 43, 44, 45] [17, 42, 71]]) (.gh (.block 4 Nj) [.frz 42])) (.reg [om 68 11, om 69 13, od 70 (.bsl true 37 1 [(tm 69)]), od 71 (.app false 37 1 (tm 68) (tm 70)), om 11 71] [kp [1, 7, 10, 11, 36, 37] [17,
 71]]))))) (.reg [od 72 (.bin .add (tm 37) (ki 1)), om 37 72] [kp [1, 7, 10, 11, 36, 37] [17, 71]])))) [kp [1, 7, 10, 11, 36, 37] [17, 71]]
def Nk : IC := .loop q1B
abbrev q1C : IC := (.seq (.reg [od 3 (.box true (tm 0)), od 6 (.mv kN)] [kp [1, 2, 3] []]) (.seq (.reg [od 17 (.mkmap), om 7 17] [kp [1, 2, 3, 7] [17]]) (.seq (.seq (.reg [od 18 (lG 4 3), od 19 (.call 27 [(tm 18)]), od 20 (le 0 19), od 21 (.mv (ki
 0))] [kp [1, 2, 7, 19, 20, 21] [17]]) (.block 0 Ni)) (.seq (.reg [om 34 1, od 35 (.call 39 [(tm 34)]), om 10 35] [kp [1, 7, 10] [17]]) (.seq (.reg [od 11 (.mv kN)] [.nl 11 71 37 1, kp [1, 7, 10, 11] [17, 71]]) (.seq
 (.seq (.reg [om 36 10, od 37 (.mv (ki 0))] [kp [1, 7, 10, 11, 36, 37] [17, 71]]) (.gh (.block 2 Nk) [.frz 71])) (.seq (.reg [om 73 11, od 74 (.call 104 [(tm 73)]), om 6 74] [kp [6] []]) .ret)))))))
theorem V7 (h : ∀ K : St → Prop, K = run P Γ Ni Q → run P Γ q19 (Ar K Q) s) : run P Γ Ni Q s := Ah h
theorem V8 (h : ∀ K : St → Prop, K = run P Γ Nj Q → run P Γ q1A (Ar K Q) s) : run P Γ Nj Q s := Ah h
theorem V9 (h : ∀ K : St → Prop, K = run P Γ Nk Q → run P Γ q1B (Ar K Q) s) : run P Γ Nk Q s := Ah h
def q1D : List RV := [.tmp 6]
/- probecard/shifts.Loads (function 38) -/
abbrev q1E : IC := (.seq (.reg [od 3 (.box true (tm 0)), od 6 (.mv kN), od 7 (.mv (ki 0))] [kp [1, 2, 3] []]) (.seq (.seq (.reg [od 12 (lG 4 3), om 13 1, od 14 (.call 29 [(tm 12), (tm 13)]), om 11 14, od 15 (ex 11 0), od 16 (ex 11 1), od 8 (.alloc
 false [(.slice none 0 0), (.slice none 0 0), (.slice none 0 0), (.slice none 0 0), (.slice none 0 0), (.int .i64 0), (.slice none 0 0), (.slice none 0 0)]), on (.store 8 (tm 8) (tm 15)), om 9 16] [kp [1, 2, 3, 9] []]) (.seq (.reg
 [om 17 9, od 18 (.bin .neq (tm 17) (ki 0))] [kp [1, 2, 3, 9, 18] []]) (.cond (tm 18) (.seq (.reg [om 19 9, od 6 (.mv kN), om 7 19] [kp [6, 7] []]) .ret) .skip))) (.seq (.seq (.reg [om 20 2, od 21 (lG 4 3), od 22 (.call 27 [(tm
 21)]), od 23 (le 0 22), od 24 (.call 101 [(tm 20), (tm 23)]), om 10 24] [kp [1, 2, 3, 10] []]) (.seq (.reg [om 25 10, od 26 (.bin .neq (tm 25) (ki 0))] [kp [1, 2, 3, 10, 26] []]) (.cond (tm 26) (.seq (.reg [om 27 10, od 6 (.mv kN),
 om 7 27] [kp [6, 7] []]) .ret) .skip))) (.seq (.reg [od 28 (lG 4 3), om 29 1, om 30 2, od 31 (.call 102 [(tm 28), (tm 29), (tm 30)]), om 6 31, od 7 (.mv (ki 0))] [kp [6, 7] []]) .ret))))
def Nl : List RV := [.tmp 6, .tmp 7]
/- probecard/shifts.Test (function 42) -/
abbrev q2V : IC := .gh (.seq (.reg [od 67 (.bin .lss (tm 66) (tm 65))] [kp [1, 5, 12, 13, 14, 15, 64, 65, 66, 67] [56, 59, 76]]) (.seq (.cond (tm 67) .skip (.exit 0)) (.seq (.block 1 (.seq (.reg [od 68 (ia 1 64 66), od 69 (ld 1 68), om 17 69] [kp [1,
 5, 12, 13, 14, 15, 17, 64, 65, 66] [56, 59, 76]]) (.reg [om 70 15, om 71 14, om 72 12, om 73 17, od 74 (.callv (tm 71) [(tm 72), (ku 1), (tm 73)]), od 75 (.bsl true 37 1 [(tm 74)]), od 76 (.app false 37 1 (tm 70) (tm 75)), om 15
 76] [kp [1, 5, 12, 13, 14, 15, 64, 65, 66] [56, 59, 76]]))) (.reg [od 77 (.bin .add (tm 66) (ki 1)), om 66 77] [kp [1, 5, 12, 13, 14, 15, 64, 65, 66] [56, 59, 76]])))) [kp [1, 5, 12, 13, 14, 15, 64, 65, 66] [56, 59, 76]]
def Qj : IC := .loop q2V
abbrev q2W : IC := .gh (.seq (.reg [od 89 (.bin .lss (tm 88) (tm 87))] [kp [12, 13, 14, 15, 87, 88, 89] [56, 59, 76]]) (.seq (.cond (tm 89) .skip (.exit 2)) (.seq (.block 3 (.reg [om 90 15, om 91 14, om 92 12, om 93 13, od 94 (.callv (tm 91) [(tm
 92), (ku 1), (tm 93)]), od 95 (.bsl true 37 1 [(tm 94)]), oz 96 (.app false 37 1 (tm 90) (tm 95)) 76, om 15 96] [kp [12, 13, 14, 15, 87, 88] [56, 59, 76]])) (.reg [od 97 (.bin .add (tm 88) (ki 1)), om 88 97] [kp [12, 13, 14, 15,
 87, 88] [56, 59, 76]])))) [kp [12, 13, 14, 15, 87, 88] [56, 59, 76]]
def Qk : IC := .loop q2W
abbrev q2X : IC := (.seq (.reg [od 3 (.box true (tm 0)), od 5 (.box true (tm 2)), od 6 (.mv kN), od 7 (.mv (ki 0))] [kp [1, 3, 5] []]) (.seq (.seq (.reg [od 19 (lG 4 3), om 20 1, od 21 (.call 29 [(tm 19), (tm 20)]), om 18 21, od 22 (ex 18 0), od 23
 (ex 18 1), od 8 (.alloc false [(.slice none 0 0), (.slice none 0 0), (.slice none 0 0), (.slice none 0 0), (.slice none 0 0), (.int .i64 0), (.slice none 0 0), (.slice none 0 0)]), on (.store 8 (tm 8) (tm 22)), om 9 23] [kp [1, 3,
 5, 9] []]) (.seq (.reg [om 24 9, od 25 (.bin .neq (tm 24) (ki 0))] [kp [1, 3, 5, 9, 25] []]) (.cond (tm 25) (.seq (.reg [om 26 9, od 6 (.mv kN), om 7 26] [kp [6, 7] []]) .ret) .skip))) (.seq (.reg [od 27 (lG 4 3), od 28 (.call 41
 [(tm 27)]), od 29 (le 0 28), od 30 (lG 4 3), od 31 (.call 27 [(tm 30)]), od 32 (le 0 31), om 10 29, om 11 32] [kp [1, 3, 5, 10, 11] []]) (.seq (.seq (.reg [od 33 (fa 0 5), od 34 (ld 1 33), od 35 (le 0 34), om 36 10, od 37 (.bin
 .neq (tm 35) (tm 36)), om 38 37, oF 39 (fa 1 5) 38, oF 40 (ld 1 39) 38, oF 41 (le 0 40) 38, oF 42 (.mv (tm 11)) 38, oF 43 (.bin .neq (tm 41) (tm 42)) 38, od 44 (.pick (tm 38) kT (tm 43))] [kp [1, 3, 5, 10, 11, 44] []]) (.cond (tm
 44) (.seq (.reg [od 6 (.mv kN), od 7 (.mv (ki 8))] [kp [6, 7] []]) .ret) .skip)) (.seq (.seq (.reg [od 45 (fa 0 5), od 46 (ld 1 45), om 47 10, od 48 (.call 101 [(tm 46), (tm 47)]), od 49 (fa 1 5), od 50 (ld 1 49), om 51 11, od 52
 (.call 101 [(tm 50), (tm 51)]), od 53 (.mmx true [(tm 48), (tm 52)]), od 54 (.bin .neq (tm 53) (ki 0))] [kp [1, 3, 5, 10, 54] []]) (.cond (tm 54) (.seq (.reg [od 6 (.mv kN), od 7 (.mv (ki 1))] [kp [6, 7] []]) .ret) .skip)) (.seq
 (.reg [om 55 10, od 56 (.mk 68 1 [(.int .u8 0)] (tm 55) (tm 55)), om 12 56] [.frz 56, kp [1, 3, 5, 12] [56]]) (.seq (.reg [om 57 1, od 58 (le 0 57), od 59 (.mk 68 1 [(.int .u8 0)] (tm 58) (tm 58)), om 13 59] [.frz 59, kp [1, 3, 5,
 12, 13] [56, 59]]) (.seq (.reg [od 14 (.mv (.func 103))] [kp [1, 3, 5, 12, 13, 14] [56, 59]]) (.seq (.reg [od 15 (.mv kN)] [.nl 15 76 37 1, kp [1, 3, 5, 12, 13, 14, 15] [56, 59, 76]]) (.seq (.seq (.reg [od 60 (lG 4 3), om 61 1, od
 62 (fa 1 5), od 63 (ld 1 62), od 64 (.call 102 [(tm 60), (tm 61), (tm 63)]), od 65 (le 0 64), od 66 (.mv (ki 0))] [kp [1, 5, 12, 13, 14, 15, 64, 65, 66] [56, 59, 76]]) (.block 0 Qj)) (.seq (.reg [om 78 15, om 79 14, od
 80 (fa 0 5), od 81 (ld 1 80), om 82 13, od 83 (.callv (tm 79) [(tm 81), (ku 0), (tm 82)]), od 84 (.bsl true 37 1 [(tm 83)]), oz 85 (.app false 37 1 (tm 78) (tm 84)) 76, om 15 85] [kp [1, 12, 13, 14, 15] [56, 59, 76]]) (.seq (.seq
 (.reg [om 86 1, od 87 (.call 39 [(tm 86)]), od 88 (.mv (ki 0))] [kp [12, 13, 14, 15, 87, 88] [56, 59, 76]]) (.gh (.block 2 Qk) [.frz 76])) (.seq (.reg [om 98 15, od 99 (.call 104 [(tm 98)]), om 6 99, od 7 (.mv (ki 0))]
 [kp [6, 7] []]) .ret)))))))))))))
theorem Xh (h : ∀ K : St → Prop, K = run P Γ Qj Q → run P Γ q2V (Ar K Q) s) : run P Γ Qj Q s := Ah h
theorem Xi (h : ∀ K : St → Prop, K = run P Γ Qk Q → run P Γ q2W (Ar K Q) s) : run P Γ Qk Q s := Ah h
def Fb : List RV := [.tmp 6, .tmp 7]
/- probecard/shifts.Test$1 (function 103) -/
abbrev q0A : IC := (.seq (.reg [od 6 (.mv kN)] [kp [0, 1, 2] []]) (.seq (.reg [om 7 0, om 8 1, od 9 (.bsl true 68 1 [(tm 8)]), om 10 2, od 11 (.bsl true 37 1 [(tm 7), (tm 9), (tm 10)]), od 12 (.call 91 [(tm 11)]), od 13 (.call 74 [(tm 12)]), om 6 13]
 [kp [6] []]) .ret))
def q0B : List RV := [.tmp 6]
/- probecard/shifts.Collect (function 43) -/
abbrev Lq : IC := (.seq (.reg [od 2 (.mv kN)] [kp [0] []]) (.seq (.reg [om 3 0, om 4 0, od 5 (le 0 4), om 6 0, od 7 (le 0 6), od 8 (.slice 1 (tm 3) none (some (tm 5)) (some (tm 7))), om 2 8] [kp [2] []]) .ret))
def Lr : List RV := [.tmp 2]
/- slices.ContainsFunc[[]probecard/api.Response,probecard/api.Response] (function 105) -/
end
end Go.Lg
namespace Go.Lg
open Go Go.Proofs
theorem q5h : Aw Tryz.prog 39 q17 18 1 q18 = true := by kernel_rfl
theorem q53 : Aw Tryz.prog 101 S5 11 2 L0 = true := by kernel_rfl
theorem q3E : Aw Tryz.prog 144 Xf 5 1 Xg = true := by kernel_rfl
theorem q5i : Aw Tryz.prog 102 q1C 75 3 q1D = true := by kernel_rfl
theorem q5j : Aw Tryz.prog 38 q1E 32 3 Nl = true := by kernel_rfl
theorem q6e : Aw Tryz.prog 42 q2X 100 3 Fb = true := by kernel_rfl
theorem q54 : Aw Tryz.prog 103 q0A 14 3 q0B = true := by kernel_rfl
theorem Xj : Aw Tryz.prog 104 Lq 9 1 Lr = true := by kernel_rfl
end Go.Lg
namespace Go.Lg
open Go
section
variable {P : Program} {Γ : Tables} {Q : AX → St → Prop} {s : St}
/- probecard/probecardlaw34.ScansModes (function 5) -/
abbrev q1F : IC := .gh (.seq (.seq (.reg [om 9 8, om 10 1, od 11 (.bin .lss (tm 9) (tm 10))] [kp [0, 1, 2, 7, 8, 11] [19, 31]]) (.cond (tm 11) .skip (.exit 0))) (.seq (.block 1 (.seq (.reg [om 14 0, od 15 (le 0 14), od 16 (.bin .eql (tm 15) (ki 0))]
 [kp [0, 1, 2, 7, 8, 16] [19, 31]]) (.cond (tm 16) (.reg [om 17 7, od 18 (.bsl true 68 1 [(ku 2)]), od 19 (.app false 68 1 (tm 17) (tm 18)), om 7 19] [kp [0, 1, 2, 7, 8] [19, 31]]) (.reg [om 20 7, om 21 0, om 22 8, om 23 0, od 24
 (le 0 23), od 25 (.bin .rem (tm 22) (tm 24)), od 26 (ia 1 21 25), od 27 (ld 1 26), om 28 2, od 29 (.bin .rem (tm 27) (tm 28)), od 30 (.bsl true 68 1 [(tm 29)]), od 31 (.app false 68 1 (tm 20) (tm 30)), om 7 31] [kp [0, 1, 2, 7, 8]
 [19, 31]])))) (.reg [om 12 8, od 13 (.bin .add (tm 12) (ki 1)), om 8 13] [kp [0, 1, 2, 7, 8] [19, 31]]))) [kp [0, 1, 2, 7, 8] [19, 31]]
def Ue : IC := .loop q1F
abbrev q1G : IC := (.seq (.reg [od 6 (.mv kN)] [kp [0, 1, 2] []]) (.seq (.reg [od 7 (.mv kN)] [kp [0, 1, 2, 7] [19, 31]]) (.seq (.seq (.reg [od 8 (.mv (ki 0))] [kp [0, 1, 2, 7, 8] [19, 31]]) (.block 0 Ue)) (.seq (.reg [om 32 7, om 6 32]
 [kp [6] [19, 31]]) .ret))))
theorem q3F (h : ∀ K : St → Prop, K = run P Γ Ue Q → run P Γ q1F (Ar K Q) s) : run P Γ Ue Q s := Ah h
def q1H : List RV := [.tmp 6]
/- (probecard/probecardlaw06.P).Of (function 14) -/
abbrev q2Y : IC := (.seq (.reg [od 2 (.box true (tm 0)), od 3 (.box true (tm 1)), od 4 (.alloc false [(.slice none 0 0), (.slice none 0 0)])] [kp [2, 3, 4] [4]]) (.seq (.reg [od 5 (fa 0 2), od 6 (.ldT 1 false (tm 5)), od 7 (.ldT 4 true (tm 3)), od 8
 (.call 52 [(tm 7), (ku 0)]), od 9 (.call 51 [(tm 6), (tm 8), (ku 4)]), od 10 (fa 1 2), od 11 (.ldT 1 false (tm 10)), od 12 (.ldT 4 true (tm 3)), od 13 (.call 52 [(tm 12), (ku 14)]), od 14 (.call 51 [(tm 11), (tm 13), (ku 3)]), od
 15 (.build [(1, (tm 9)), (1, (tm 14))]), on (.stR 4 2 (tm 4) (tm 15))] [kp [4] [4]]) .ret))
def q2Z : List RV := [.cell 4 2 true]
end
end Go.Lg
namespace Go.Lg
open Go Go.Proofs
theorem q5k : Aw Tryz.prog 51 q1G 33 3 q1H = true := by kernel_rfl
theorem q6f : Aw Tryz.prog 14 q2Y 16 2 q2Z = true := by kernel_rfl
end Go.Lg
namespace Go.Lg
open Go Go.Proofs
variable {Γ : Tables}
theorem Yp {f : FuncId} {as' : List AV} {ts : List T} {res : T} {K : T → Prop} (h : Ag Tryz.prog Γ f ts res) (ht : B2 (as'.map toT) = some ts) (hk : K res) : qC3 Tryz.prog Γ f as' K ⟨⟩ := ⟨ts, res, ht, .inl h, hk⟩
theorem qB5 {α : Type} {f : α → List T} {l : List α} {n : Nat} {x : α} : (Az f l).set n (f x) = Az f (l.set n x) := by simp [Az, List.map_set]
theorem gN {l : List Nd} {i : Nat} (h : i < l.length) : (Az Bw l)[i]?.getD [] = Bw (l.getD i Nd.d) := by
  rw [D3 Nd.d h]; rfl
def Z6 (x : Nd) : Nd := ⟨x.k, cpS x.inn, x.mem, x.bit⟩
def cpL : Nat → Nat → List Nd → List Nd
  | 0, _, L => L
  | k + 1, i, L => cpL k (i + 1) (L.set i (Z6 (L.getD i Nd.d)))
theorem qFA : ∀ (k i : Nat) (L : List Nd), i + k = L.length → cpL k i L = L.take i ++ (L.drop i).map Z6
  | 0, i, L, h => by rw [List.drop_of_length_le (by omega), List.take_of_length_le (by omega)]; simp [cpL]
  | k + 1, i, L, h => by
    have hi : i < L.length := by omega
    simp only [cpL]
    rw [qFA k (i + 1) _ (by simp; omega), List.drop_eq_getElem_cons hi]
    have e : L.getD i Nd.d = L[i] := by simp [List.getD_eq_getElem?_getD, hi]
    rw [e]
    have h1 : (L.set i (Z6 L[i])).take (i + 1) = L.take i ++ [Z6 L[i]] := by
      rw [List.take_add_one, List.take_set_of_le (Nat.le_refl i)]
      simp [hi]
    rw [h1, List.drop_set_of_lt (by omega), List.map_cons, List.append_assoc]
    rfl
def cpH (n : Nat) (nm mm oo : T) (L : List Nd) : List (Nat × Bf) :=
  [(2, .bx [.t (.sl [] (some 0) (some true)), .t (.sl [] (some 0) (some true)), .t (.sl [] (some 0) (some true)), .t (.sl [] (some 0) (some true))]), (3, .bx [.ls 14007 0 n (some n), .t nm, .t mm, .t oo]), (14007, .sl 104 4 (Az Bw L))]
theorem q9H {Q : AX → St → Prop} (n : Nat) (hn : n ≤ 1000000) (nm mm oo : T) (R : List Nd)
    (h0 : Q (.exit 0) ⟨[(2, .lp 2 0 0), (3, .lp 3 0 0), (22, .ls 14007 0 n (some n)), (23, .t (tI n)), (24, .t (tI n)), (25, .t (tB false))], cpH n nm mm oo R⟩) :
    ∀ (k i : Nat) (L : List Nd), k + i = n → L.length = n → (∀ j, i ≤ j → j < n → q2T (L.getD j Nd.d).inn) → cpL k i L = R →
    run Tryz.prog Γ Ky Q ⟨[(2, .lp 2 0 0), (3, .lp 3 0 0), (22, .ls 14007 0 n (some n)), (23, .t (tI n)), (24, .t (tI i))], cpH n nm mm oo L⟩
  | 0, i, L, h, hl, hs, hR => by
    refine U0 fun K hK => ?_
    have h3 : i = n := by omega
    subst h3
    simp only [cpL] at hR
    subst hR
    simp [cpH]
    simpa [cpH] using h0
  | k + 1, i, L, h, hl, hs, hR => by
    refine U0 fun K hK => ?_
    have h2 : i < n := by omega
    have hi : i < L.length := by omega
    simp only [cpL] at hR
    have e := gN hi
    have hx : q2T (L.getD i Nd.d).inn := hs i (Nat.le_refl i) h2
    have e1 := q15 (Γ := Γ) _ hx
    have ih := q9H n hn nm mm oo R h0 k (i + 1) (L.set i (Z6 (L.getD i Nd.d))) (by omega) (by simp [hl]) (fun j hj hjn => by
      have : (L.set i (Z6 (L.getD i Nd.d))).getD j Nd.d = L.getD j Nd.d := by
        rw [List.getD_eq_getElem?_getD, List.getElem?_set, if_neg (by omega), ← List.getD_eq_getElem?_getD]
      rw [this]
      exact hs j (by omega) hjn) hR
    generalize L.getD i Nd.d = x at *
    have e' : ∀ h : i < (Az Bw L).length, (Az Bw L)[i] = Bw x := fun h => by rw [← e]; simp [hi, Ae]
    have hset : (Az Bw L).set i [tK x.k, As (cpS x.inn), tI x.mem, tI x.bit] = Az Bw (L.set i (Z6 x)) := qB5 (f := Bw) (x := Z6 x)
    simp only [As] at e1 hset
    simp (disch := omega) [cpH, h2, Ae, Ba, e, e', hl, A5, Bw, As]
    refine Yp e1 rfl ?_
    simp (disch := omega) [cpH, h2, hi, Ae, Ba, e, e', hl, A5, Bw, As, hset]
    rw [hK]
    simpa [cpH] using ih
def qFB (c : B9) : B9 := ⟨⟨c.nodes.l.map Z6, some c.nodes.l.length, none⟩, ⟨c.names.l, some c.names.l.length, none⟩, ⟨[], some 0, some true⟩, cpS c.outs⟩
structure qIC (c : B9) : Prop where
  n0 : c.nodes.l ≠ []
  n1 : c.nodes.l.length ≤ 1000000
  nn : c.nodes.nl ≠ some true
  m0 : c.names.l ≠ []
  m1 : c.names.l.length ≤ 1000000
  mn : c.names.nl ≠ some true
  mems : c.mems = ⟨[], some 0, some true⟩
  inn : ∀ x ∈ c.nodes.l, q2T x.inn
  outs : q2T c.outs
theorem qDv (c : B9) (hc : qIC c) : Ag Tryz.prog Γ 83 [.agg (tC c)] (.agg (tC (qFB c))) := by
  refine Ap q51 rfl ?_
  have e1 := q7u (Γ := Γ) c.nodes.l c.nodes.cap c.nodes.nl hc.nn hc.n0 hc.n1
  have e2 := q52 (Γ := Γ) c.names.l c.names.cap c.names.nl hc.mn hc.m0 hc.m1
  have e3 := q6d (Γ := Γ)
  have e4 := q15 (Γ := Γ) c.outs hc.outs
  have hcp : cpL c.nodes.l.length 0 c.nodes.l = c.nodes.l.map Z6 := by rw [qFA _ _ _ (by omega)]; simp
  have hn1 := hc.n1
  have g1 := fun Q nm mm oo h0 => q9H (Γ := Γ) (Q := Q) c.nodes.l.length hc.n1 nm mm oo _ h0 c.nodes.l.length 0 c.nodes.l (by omega) rfl (fun j _ hj => hc.inn _ (by rw [List.getD_eq_getElem?_getD, List.getElem?_eq_getElem hj]; exact List.getElem_mem hj)) hcp
  have hml : (Az Bw (c.nodes.l.map Z6)).take c.nodes.l.length = Az Bw (c.nodes.l.map Z6) := List.take_of_length_le (by simp [Az])
  simp [q05, tC, Ab, Af, Am, As, hc.mems]
  refine ⟨_, _, e1, ?_⟩
  simp
  refine Yp e2 rfl ?_
  simp
  refine Yp e3 rfl ?_
  simp
  simp [As] at e4
  refine Yp e4 rfl ?_
  simp
  simp [cpH] at g1
  refine g1 _ _ _ _ ?_
  simp [St.freeze, Bf.closed, D6, frz1, frz0, F4, del, Aj, hml]
  refine q2P fun K hK => ?_
  simp [q06, qFB, Ae, C9, show Az tMm [] = [] from rfl]
theorem qID (seen : List (List UInt8)) (nodes : List Nd) (names : List (List UInt8)) (ol : List Int) (oc : Option Nat) (on : Option Bool) (x : Nd) (nm : List UInt8) (hn : nodes.length ≤ 1000000) (hm : names.length ≤ 1000000) (hs : nm ∉ seen) (hl : nm.length ≤ 32) :
    Ef Tryz.prog Γ 84 [(1000000, .mp (Q3 seen)), (1000001, .bx [.t (.sl (Az Bw nodes) (some nodes.length) none), .t (.sl (Ad tS names) (some names.length) none), .t (.sl [] (some 0) (some true)), .t (.sl (Ak ol) oc on), .lm 1000000, .t (tB false)])] [.lp 1000001 0 0, .ag ((Bw x).map .t), .t (tS nm)] (.t (tI nodes.length))
      [(40, .sl 104 4 (Az Bw (nodes ++ [x]))), (52, .sl 9 1 (Ad tS (names ++ [nm]))), (1000000, .mp (Q3 (seen ++ [nm]))), (1000001, .bx [.ls 40 0 (nodes.length + 1) none, .ls 52 0 (names.length + 1) none, .t (.sl [] (some 0) (some true)), .t (.sl (Ak ol) oc on), .lm 1000000, .t (tB false)])] := by
  refine Ey J7 rfl ?_
  have q1 : Az Bw nodes ++ [[tK x.k, .sl (Ak x.inn.l) x.inn.cap x.inn.nl, tI x.mem, tI x.bit]] = Az Bw (nodes ++ [x]) := Rw (f := Bw) (x := x)
  have q2 : Ad tS names ++ [[.v (sV nm)]] = Ad tS (names ++ [nm]) := Bq
  have w1 : E1 4 [[tK x.k, .sl (Ak x.inn.l) x.inn.cap x.inn.nl, tI x.mem, tI x.bit]] := by intro e he; simp at he; subst he; rfl
  have w2 : E1 1 [[T.v (sV nm)]] := by intro e he; simp at he; subst he; rfl
  have t1 : (Az Bw nodes).take nodes.length = Az Bw nodes := Si
  have t2 : (Ad tS names).take names.length = Ad tS names := B6
  have f1 := Wz nm seen
  rw [if_neg hs] at f1
  have f2 := Vw nm seen hs
  have f3 := Zq seen
  have h32 : ¬ 32 < nm.length := by omega
  have h32' : ¬ (32 : Int) < nm.length := by omega
  have hfit : KT.str.fits (sV nm) = true := rfl
  simp only [sV] at q2 w2 f1 f2 hfit
  simp [G9, Bw, As, tS, sV]
  refine Gn fun K hK => ?_
  simp (maxSteps := 1000000) (disch := omega) [f1, f2, f3, hfit, h32, h32', q1, q2, w1, w2, t1, t2, Ae, A0, Ba, A9, A5]
  simp (disch := omega) [Ge, A5, hn, hm]
  omega
theorem qIE (seen : List (List UInt8)) (nodes : List Nd) (names : List (List UInt8)) (ol : List Int) (oc : Option Nat) (on : Option Bool) (x : Nd) (nm : List UInt8) (hn : nodes.length ≤ 1000000) (hm : names.length ≤ 1000000) (hs : nm ∉ seen) (hl : nm.length ≤ 32) :
    Ef Tryz.prog Γ 84 [(1000000, .mp (Q3 seen)), (1000001, .bx [.ls 1000003 0 nodes.length none, .ls 1000004 0 names.length none, .t (.sl [] (some 0) (some true)), .t (.sl (Ak ol) oc on), .lm 1000000, .t (tB false)]), (1000003, .sl 104 4 (Az Bw nodes)), (1000004, .sl 9 1 (Ad tS names))] [.lp 1000001 0 0, .ag ((Bw x).map .t), .t (tS nm)] (.t (tI nodes.length))
      [(40, .sl 104 4 (Az Bw (nodes ++ [x]))), (52, .sl 9 1 (Ad tS (names ++ [nm]))), (1000000, .mp (Q3 (seen ++ [nm]))), (1000001, .bx [.ls 40 0 (nodes.length + 1) none, .ls 52 0 (names.length + 1) none, .t (.sl [] (some 0) (some true)), .t (.sl (Ak ol) oc on), .lm 1000000, .t (tB false)])] := by
  refine Ey J7 rfl ?_
  have q1 : Az Bw nodes ++ [[tK x.k, .sl (Ak x.inn.l) x.inn.cap x.inn.nl, tI x.mem, tI x.bit]] = Az Bw (nodes ++ [x]) := Rw (f := Bw) (x := x)
  have q2 : Ad tS names ++ [[.v (sV nm)]] = Ad tS (names ++ [nm]) := Bq
  have w1 : E1 4 [[tK x.k, .sl (Ak x.inn.l) x.inn.cap x.inn.nl, tI x.mem, tI x.bit]] := by intro e he; simp at he; subst he; rfl
  have w2 : E1 1 [[T.v (sV nm)]] := by intro e he; simp at he; subst he; rfl
  have t1 : (Az Bw nodes).take nodes.length = Az Bw nodes := Si
  have t2 : (Ad tS names).take names.length = Ad tS names := B6
  have f1 := Wz nm seen
  rw [if_neg hs] at f1
  have f2 := Vw nm seen hs
  have f3 := Zq seen
  have h32 : ¬ 32 < nm.length := by omega
  have h32' : ¬ (32 : Int) < nm.length := by omega
  have hfit : KT.str.fits (sV nm) = true := rfl
  simp only [sV] at q2 w2 f1 f2 hfit
  simp [G9, Bw, As, tS, sV]
  refine Gn fun K hK => ?_
  simp (maxSteps := 1000000) (disch := omega) [f1, f2, f3, hfit, h32, h32', q1, q2, w1, w2, t1, t2, Ae, A0, Ba, A9, A5]
  simp (disch := omega) [Ge, A5, hn, hm]
  omega
theorem qFC (seen : List (List UInt8)) (nodes : List Nd) (names : List (List UInt8)) (ol : List Int) (x : Nd) (nm : List UInt8) (hn : nodes.length ≤ 1000000) (hm : names.length ≤ 1000000) (hs : nm ∉ seen) (hl : nm.length ≤ 32) :
    Ef Tryz.prog Γ 84 [(1000000, .mp (Q3 seen)), (1000001, .bx [.ls 1000003 0 nodes.length none, .ls 1000004 0 names.length none, .t (.sl [] (some 0) (some true)), .ls 1000002 0 ol.length none, .lm 1000000, .t (tB false)]), (1000002, .sl 3 1 (Ak ol)), (1000003, .sl 104 4 (Az Bw nodes)), (1000004, .sl 9 1 (Ad tS names))] [.lp 1000001 0 0, .ag ((Bw x).map .t), .t (tS nm)] (.t (tI nodes.length))
      [(40, .sl 104 4 (Az Bw (nodes ++ [x]))), (52, .sl 9 1 (Ad tS (names ++ [nm]))), (1000000, .mp (Q3 (seen ++ [nm]))), (1000001, .bx [.ls 40 0 (nodes.length + 1) none, .ls 52 0 (names.length + 1) none, .t (.sl [] (some 0) (some true)), .ls 1000002 0 ol.length none, .lm 1000000, .t (tB false)]), (1000002, .sl 3 1 (Ak ol))] := by
  refine Ey J7 rfl ?_
  have q1 : Az Bw nodes ++ [[tK x.k, .sl (Ak x.inn.l) x.inn.cap x.inn.nl, tI x.mem, tI x.bit]] = Az Bw (nodes ++ [x]) := Rw (f := Bw) (x := x)
  have q2 : Ad tS names ++ [[.v (sV nm)]] = Ad tS (names ++ [nm]) := Bq
  have w1 : E1 4 [[tK x.k, .sl (Ak x.inn.l) x.inn.cap x.inn.nl, tI x.mem, tI x.bit]] := by intro e he; simp at he; subst he; rfl
  have w2 : E1 1 [[T.v (sV nm)]] := by intro e he; simp at he; subst he; rfl
  have t1 : (Az Bw nodes).take nodes.length = Az Bw nodes := Si
  have t2 : (Ad tS names).take names.length = Ad tS names := B6
  have f1 := Wz nm seen
  rw [if_neg hs] at f1
  have f2 := Vw nm seen hs
  have f3 := Zq seen
  have h32 : ¬ 32 < nm.length := by omega
  have h32' : ¬ (32 : Int) < nm.length := by omega
  have hfit : KT.str.fits (sV nm) = true := rfl
  simp only [sV] at q2 w2 f1 f2 hfit
  simp [G9, Bw, As, tS, sV]
  refine Gn fun K hK => ?_
  simp (maxSteps := 1000000) (disch := omega) [f1, f2, f3, hfit, h32, h32', q1, q2, w1, w2, t1, t2, Ae, A0, Ba, A9, A5]
  simp (disch := omega) [Ge, A5, hn, hm]
  omega
def qA0 (l : List (Int × Int)) : List (Value × T) := l.map fun p => (.int .i64 p.1, tI p.2)
def Rf (l : List (Int × Int)) (n : Int) : Int := match l.find? (fun p => p.1 == n) with | some p => p.2 | none => 0
theorem q7v (l : List (Int × Int)) : Hz (.int .i64) (qA0 l) := by
  intro e he; obtain ⟨s, _, rfl⟩ := List.mem_map.1 he; rfl
theorem q9I (n : Int) : ∀ l : List (Int × Int), (E0 (.int .i64 n) (qA0 l)).getD (tI 0) = tI (Rf l n)
  | [] => rfl
  | (a, p) :: l => by
    have ih := q9I n l
    simp only [qA0, Rf, List.map_cons, E0, Qu, List.find?_cons] at ih ⊢
    by_cases h : n = a
    · simp [h]
    · have h' : ¬ a = n := fun e => h e.symm
      simp [h, h', ih]
theorem q7w (n a : Int) : ∀ l : List (Int × Int), n ∉ l.map (·.1) → q0J (.int .i64 n) (tI a) (qA0 l) = qA0 (l ++ [(n, a)])
  | [], _ => rfl
  | (b, p) :: l, h => by
    have ih := q7w n a l (fun hm => h (by simp only [List.map_cons, List.mem_cons]; exact .inr hm))
    have hne : n ≠ b := fun e => h (by simp [e])
    simp only [qA0, List.map_cons, q0J, Qu, List.cons_append] at ih ⊢
    simp [hne, ih]
def q2a : Int → List Int → List (Int × Int)
  | _, [] => []
  | a, n :: l => (n, a) :: q2a n l
def q0C : Int → List Int → Int
  | a, [] => a
  | _, n :: l => q0C n l
theorem q7x : ∀ (l : List Int) (a : Int), (q2a a l).map (·.1) = l
  | [], _ => rfl
  | n :: l, a => by simp only [q2a, List.map_cons, q7x l n]
def q0D : T := .sl [] (some 0) (some true)
def Z8 : List AV := [.t q0D, .t q0D, .t q0D, .t q0D, .t q0D, .t (tI 0), .t q0D, .t q0D]
theorem gi1 {f : Int → T} {l : List Int} {i : Nat} (hi : i < l.length) : (Ad f l)[i]?.getD [] = [f (l.getD i 0)] := by
  rw [B1 0 hi]; rfl
theorem qFD {Q : AX → St → Prop} (t1 t7 : T) (c : B9) (names : Sl (List UInt8)) (hl : names.l.length ≤ 1000000) (hnd : names.l.Nodup) (N M O : T)
    (h0 : Q (.exit 0) ⟨[(1, .t t1), (2, .t (.ip (tC c) 0)), (4, .lp 4 0 0), (7, .t t7), (8, .lp 46 0 0), (48, .t (Af names)), (49, .t (tI names.l.length)), (50, .t (tI names.l.length)), (51, .t (tB false))], [(4, .bx Z8), (44, .mp (Q3 names.l)), (46, .bx [.t N, .t M, .t q0D, .t O, .lm 44, .t (tB false)])]⟩) :
    ∀ (k i : Nat), k + i = names.l.length →
    run Tryz.prog Γ Nb Q ⟨[(1, .t t1), (2, .t (.ip (tC c) 0)), (4, .lp 4 0 0), (7, .t t7), (8, .lp 46 0 0), (48, .t (Af names)), (49, .t (tI names.l.length)), (50, .t (tI i))], [(4, .bx Z8), (44, .mp (Q3 (names.l.take i))), (46, .bx [.t N, .t M, .t q0D, .t O, .lm 44, .t (tB false)])]⟩
  | 0, i, h => by
    refine V5 fun K hK => ?_
    have h3 : i = names.l.length := by omega
    subst h3
    rw [List.take_of_length_le (Nat.le_refl _)]
    simp [Z8]
    simpa [Z8] using h0
  | k + 1, i, h => by
    refine V5 fun K hK => ?_
    have h2 : i < names.l.length := by omega
    have ih := qFD t1 t7 c names hl hnd N M O h0 k (i + 1) (by omega)
    have ht : names.l.take (i + 1) = names.l.take i ++ [names.l[i]] := by rw [List.take_add_one]; simp [h2]
    have hm : names.l[i] ∉ names.l.take i := fun hm => by
      obtain ⟨j, hj, e⟩ := List.getElem_of_mem hm
      simp at hj e
      have hji : j < i := by omega
      exact List.pairwise_iff_getElem.1 (List.nodup_iff_pairwise_ne.1 hnd) j i (by omega) h2 hji e
    have e := B1 (f := tS) [] h2
    have e2 : names.l[i]?.getD [] = names.l[i] := by simp [h2]
    rw [e2] at e
    rw [ht] at ih
    generalize names.l[i] = x at *
    have e' : ∀ h : i < (Ad tS names.l).length, (Ad tS names.l)[i] = [tS x] := fun h => by rw [← e]; simp [h]
    have f2 := Vw x _ hm
    have f3 := Zq (names.l.take i)
    have hfit : KT.str.fits (sV x) = true := rfl
    simp only [tS, sV] at e e' f2 hfit
    simp [h2, Af, A0, A9, e, e', f2, f3, hfit, Z8]
    rw [A5 (by omega) (by omega), hK]
    simpa [Af, Z8] using ih
def i3E (t2 t7 t65 t66 t67 t93 : T) (L : List Int) (lc : Option Nat) (ln : Option Bool) (last : Int) (i : Nat) : List (Nat × AV) :=
  [(2, .t t2), (4, .lp 4 0 0), (7, .t t7), (8, .lp 46 0 0), (11, .lp 11 0 0), (12, .lm 64), (15, .t (tI last)), (65, .t t65), (66, .t t66), (67, .t t67), (92, .t (.sl (Ak L) lc ln)), (93, .t t93), (94, .t (tI i))]
def i3H (r11 r44 r46 r78 r90 r157 rN rM : Bf) (bef : List (Int × Int)) : List (Nat × Bf) :=
  [(4, .bx Z8), (11, r11), (44, r44), (46, r46), (64, .mp (qA0 bef)), (78, r78), (90, r90), (157, r157), (62040, rN), (62052, rM)]
theorem qFE {Q : AX → St → Prop} (t2 t7 t65 t66 t67 : T) (r11 r44 r46 r78 r90 r157 rN rM : Bf) (L : List Int) (hL : L.length ≤ 1000000) (lc : Option Nat) (ln : Option Bool) (hnd : L.Nodup) (R : List (Int × Int)) (z : Int)
    (h0 : Q (.exit 4) ⟨i3E t2 t7 t65 t66 t67 (tI L.length) L lc ln z L.length ++ [(95, .t (tB false))], i3H r11 r44 r46 r78 r90 r157 rN rM R⟩) :
    ∀ (k i : Nat) (last : Int) (bef : List (Int × Int)), k + i = L.length → (∀ n ∈ L.drop i, n ∉ bef.map (·.1)) → bef ++ q2a last (L.drop i) = R → q0C last (L.drop i) = z →
    run Tryz.prog Γ Ix Q ⟨i3E t2 t7 t65 t66 t67 (tI L.length) L lc ln last i, i3H r11 r44 r46 r78 r90 r157 rN rM bef⟩
  | 0, i, last, bef, h, hk, hR, hz => by
    refine H3 fun K hK => ?_
    have h3 : i = L.length := by omega
    subst h3
    rw [List.drop_of_length_le (Nat.le_refl _)] at hR hz
    simp only [q2a, q0C, List.append_nil] at hR hz
    subst hR; subst hz
    simp [i3E, i3H, Z8]
    simpa [i3E, i3H, Z8] using h0
  | k + 1, i, last, bef, h, hk, hR, hz => by
    refine H3 fun K hK => ?_
    have h2 : i < L.length := by omega
    have e := gi1 (f := tI) h2
    rw [Cc h2] at e
    have hd : L.drop (i + 1) = (L.drop i).tail := by simp
    rw [List.drop_eq_getElem_cons h2] at hR hz hk
    have hxm := List.pairwise_iff_getElem.1 (List.nodup_iff_pairwise_ne.1 hnd)
    have hnx : ∀ n ∈ L.drop (i + 1), n ≠ L[i] := fun n hn e => by
      obtain ⟨j, hj, rfl⟩ := List.getElem_of_mem hn
      simp at hj e
      exact hxm i (i + 1 + j) h2 (by omega) (by omega) e.symm
    generalize L[i] = x at *
    simp only [q2a, q0C] at hR hz
    have hx : x ∉ bef.map (·.1) := hk x List.mem_cons_self
    have ih := qFE t2 t7 t65 t66 t67 r11 r44 r46 r78 r90 r157 rN rM L hL lc ln hnd R z h0 k (i + 1) x (bef ++ [(x, last)]) (by omega) (fun n hn => by
      rw [List.map_append, List.mem_append]
      rintro (h | h)
      · exact hk n (List.mem_cons_of_mem _ hn) h
      · simp at h; exact hnx n hn h) (by rw [List.append_assoc]; exact hR) hz
    have f2 := q7w x last bef hx
    have f3 := q7v bef
    have hfit : (KT.int .i64).fits (.int .i64 x) = true := rfl
    have e' : ∀ h : i < (Ak L).length, (Ak L)[i] = [tI x] := fun h => by rw [← e]; simp [h]
    simp only [i3E, i3H] at ih ⊢
    simp [h2, A0, A9, e, e', f2, f3, hfit]
    rw [A5 (by omega) (by omega), hK]
    simpa using ih
def i3G (r11 r44 r46 r78 r90 r111 r157 rN rM : Bf) (bef : List (Int × Int)) : List (Nat × Bf) :=
  [(4, .bx Z8), (11, r11), (44, r44), (46, r46), (64, .mp (qA0 bef)), (78, r78), (90, r90), (111, r111), (157, r157), (62040, rN), (62052, rM)]
theorem qFF {Q : AX → St → Prop} (t2 t7 t65 t66 t67 : T) (r11 r44 r46 r78 r90 r111 r157 rN rM : Bf) (L : List Int) (hL : L.length ≤ 1000000) (lc : Option Nat) (ln : Option Bool) (hnd : L.Nodup) (R : List (Int × Int)) (z : Int)
    (h0 : Q (.exit 4) ⟨i3E t2 t7 t65 t66 t67 (tI L.length) L lc ln z L.length ++ [(95, .t (tB false))], i3G r11 r44 r46 r78 r90 r111 r157 rN rM R⟩) :
    ∀ (k i : Nat) (last : Int) (bef : List (Int × Int)), k + i = L.length → (∀ n ∈ L.drop i, n ∉ bef.map (·.1)) → bef ++ q2a last (L.drop i) = R → q0C last (L.drop i) = z →
    run Tryz.prog Γ Ix Q ⟨i3E t2 t7 t65 t66 t67 (tI L.length) L lc ln last i, i3G r11 r44 r46 r78 r90 r111 r157 rN rM bef⟩
  | 0, i, last, bef, h, hk, hR, hz => by
    refine H3 fun K hK => ?_
    have h3 : i = L.length := by omega
    subst h3
    rw [List.drop_of_length_le (Nat.le_refl _)] at hR hz
    simp only [q2a, q0C, List.append_nil] at hR hz
    subst hR; subst hz
    simp [i3E, i3G, Z8]
    simpa [i3E, i3G, Z8] using h0
  | k + 1, i, last, bef, h, hk, hR, hz => by
    refine H3 fun K hK => ?_
    have h2 : i < L.length := by omega
    have e := gi1 (f := tI) h2
    rw [Cc h2] at e
    have hd : L.drop (i + 1) = (L.drop i).tail := by simp
    rw [List.drop_eq_getElem_cons h2] at hR hz hk
    have hxm := List.pairwise_iff_getElem.1 (List.nodup_iff_pairwise_ne.1 hnd)
    have hnx : ∀ n ∈ L.drop (i + 1), n ≠ L[i] := fun n hn e => by
      obtain ⟨j, hj, rfl⟩ := List.getElem_of_mem hn
      simp at hj e
      exact hxm i (i + 1 + j) h2 (by omega) (by omega) e.symm
    generalize L[i] = x at *
    simp only [q2a, q0C] at hR hz
    have hx : x ∉ bef.map (·.1) := hk x List.mem_cons_self
    have ih := qFF t2 t7 t65 t66 t67 r11 r44 r46 r78 r90 r111 r157 rN rM L hL lc ln hnd R z h0 k (i + 1) x (bef ++ [(x, last)]) (by omega) (fun n hn => by
      rw [List.map_append, List.mem_append]
      rintro (h | h)
      · exact hk n (List.mem_cons_of_mem _ hn) h
      · simp at h; exact hnx n hn h) (by rw [List.append_assoc]; exact hR) hz
    have f2 := q7w x last bef hx
    have f3 := q7v bef
    have hfit : (KT.int .i64).fits (.int .i64 x) = true := rfl
    have e' : ∀ h : i < (Ak L).length, (Ak L)[i] = [tI x] := fun h => by rw [← e]; simp [h]
    simp only [i3E, i3G] at ih ⊢
    simp [h2, A0, A9, e, e', f2, f3, hfit]
    rw [A5 (by omega) (by omega), hK]
    simpa using ih
structure IS where
  nodes : List Nd
  names : List (List UInt8)
  cl : List (Sl Int)
  ins : List Int
  bef : List (Int × Int)
  outs : List Int
def siN (i : Nat) : List UInt8 := [115, 105] ++ Re i
def smN (i : Nat) : List UInt8 := [115, 109] ++ Re i
def J8 (i : Nat) (s : Sl Int) (S : IS) : IS :=
  ⟨S.nodes ++ [He], S.names ++ [siN i], S.cl ++ [⟨s.l, some s.l.length, none⟩], S.ins ++ [(S.nodes.length : Int)], S.bef ++ q2a S.nodes.length s.l, S.outs ++ [q0C S.nodes.length s.l]⟩
def q6g : Nat → List (Sl Int) → IS → IS
  | _, [], S => S
  | i, s :: l, S => q6g (i + 1) l (J8 i s S)
structure ISz (S : IS) : Prop where
  nodes : S.nodes.length ≤ 100000
  names : S.names.length ≤ 100000
  cl : S.cl.length ≤ 100000
  ins : S.ins.length ≤ 100000
  outs : S.outs.length ≤ 100000
structure qJr (i : Nat) (s : Sl Int) (S : IS) : Prop where
  z : ISz S
  nm : siN i ∉ S.names
  i100 : i < 100
  ne : s.l ≠ []
  nl : s.nl ≠ some true
  len : s.l.length ≤ 1000000
  nd : s.l.Nodup
  key : ∀ n ∈ s.l, n ∉ S.bef.map (·.1)
def qFG : Nat → List (Sl Int) → IS → Prop
  | _, [], S => True
  | i, s :: l, S => qJr i s S ∧ qFG (i + 1) l (J8 i s S)
theorem q7y {t : T} : E1 1 [[t]] = True := eq_true (by intro e he; simp at he; subst he; rfl)
theorem qCL (a b : List UInt8) : ByteArray.mk a.toArray ++ ByteArray.mk b.toArray = ByteArray.mk (a ++ b).toArray := by
  ext1; simp [ByteArray.data_append]
theorem qD0 {i : Nat} : (siN i).length ≤ 32 := by unfold siN Re; split <;> simp
theorem qGZ {i : Nat} : (smN i).length ≤ 32 := by unfold smN Re; split <;> simp
def i6E (c : B9) (t7 : T) (chs : Sl (Sl Int)) (i : Nat) : List (Nat × AV) :=
  [(2, .t (.ip (tC c) 0)), (4, .lp 4 0 0), (7, .t t7), (8, .lp 46 0 0), (11, .lp 11 0 0), (12, .lm 64), (65, .t (.sl (Ad As chs.l) chs.cap chs.nl)), (66, .t (tI chs.l.length)), (67, .t (tI i))]
def r11 (en : Int) (i : Nat) (k : Nat) : Bf := .bx [.t q0D, .t q0D, .t q0D, .t q0D, .ls 78 0 i none, .t (tI en), .ls 90 0 i none, .ls 157 0 k none]
def r46 (n m : Nat) (O : AV) : Bf := .bx [.ls 62040 0 n none, .ls 62052 0 m none, .t q0D, O, .lm 44, .t (tB false)]
def i6R (en : Int) (S : IS) : List (Nat × Bf) :=
  i3G (r11 en S.cl.length 0) (.mp (Q3 S.names)) (r46 S.nodes.length S.names.length (.ls 111 0 S.outs.length none)) (.sl 33 1 (Ad As S.cl)) (.sl 3 1 (Ak S.ins)) (.sl 3 1 (Ak S.outs)) (.sl 3 1 []) (.sl 104 4 (Az Bw S.nodes)) (.sl 9 1 (Ad tS S.names)) S.bef
def i6T (en : Int) (ol : List Int) (oc : Option Nat) (on : Option Bool) (S : IS) : List (Nat × Bf) :=
  i3H (r11 en S.cl.length 0) (.mp (Q3 S.names)) (r46 S.nodes.length S.names.length (.t (.sl (Ak ol) oc on))) (.sl 33 1 (Ad As S.cl)) (.sl 3 1 (Ak S.ins)) (.sl 3 1 []) (.sl 104 4 (Az Bw S.nodes)) (.sl 9 1 (Ad tS S.names)) S.bef
set_option maxHeartbeats 2000000 in
theorem qFH {Q : AX → St → Prop} (c : B9) (t7 : T) (chs : Sl (Sl Int)) (hcl : chs.l.length ≤ 100) (en : Int) (R : IS)
    (h0 : Q (.exit 2) ⟨i6E c t7 chs chs.l.length ++ [(68, .t (tB false))], i6R en R⟩) :
    ∀ (k i : Nat) (S : IS), k + i = chs.l.length → S.ins.length = S.cl.length → qFG i (chs.l.drop i) S → q6g i (chs.l.drop i) S = R →
    run Tryz.prog Γ Iy Q ⟨i6E c t7 chs i, i6R en S⟩
  | 0, i, S, h, hic, hk, hR => by
    refine H4 fun K hK => ?_
    have h3 : i = chs.l.length := by omega
    subst h3
    rw [List.drop_of_length_le (Nat.le_refl _)] at hR
    simp only [q6g] at hR
    subst hR
    simp [i6E, i6R, i3G, Z8]
    simpa [i6E, i6R, i3G, Z8] using h0
  | k + 1, i, S, h, hic, hk, hR => by
    refine H4 fun K hK => ?_
    have h2 : i < chs.l.length := by omega
    rw [List.drop_eq_getElem_cons h2] at hR hk
    have e := B1 (f := As) ⟨[], none, none⟩ h2
    have e2 : chs.l[i]?.getD ⟨[], none, none⟩ = chs.l[i] := by simp [h2]
    rw [e2] at e
    generalize chs.l[i] = s at *
    obtain ⟨h1, h5⟩ := hk
    simp only [q6g] at hR
    have ih := qFH c t7 chs hcl en R h0 k (i + 1) (J8 i s S) (by omega) (by simp [J8, hic]) h5 hR
    have e' : ∀ h : i < (Ad As chs.l).length, (Ad As chs.l)[i] = [As s] := fun h => by rw [← e]; simp [h]
    have hz := h1.z
    have hso : q2T s := ⟨fun h => absurd h h1.nl, fun _ => h1.ne, h1.len⟩
    have c1 := q2U (Γ := Γ) s hso
    rw [if_neg h1.nl] at c1
    have c2 := K1 (Γ := Γ) (Ak s.l) none none A9
    have c3 := q5f (Γ := Γ) i h1.i100
    have z1 := hz.nodes
    have z2 := hz.names
    have c4 := qFC (Γ := Γ) S.names S.nodes S.names S.outs He (siN i) (by omega) (by omega) h1.nm qD0
    have tk1 : (Ad As S.cl).take S.cl.length = Ad As S.cl := B6
    have q1 : Ad As S.cl ++ [[.sl (Ak s.l) (some s.l.length) none]] = Ad As (S.cl ++ [⟨s.l, some s.l.length, none⟩]) := Bq (f := As) (x := ⟨s.l, some s.l.length, none⟩)
    simp only [As] at c1 e e' q1
    simp [i6E, i6R, i3G, r11, r46, h2, A0, A9, e, e']
    refine A3 c1 rfl ?_
    simp
    refine A8 c2 rfl ?_
    simp [A0, A9, tk1, q1, q7y, Z8]
    have hcl2 : S.cl.length ≤ 2147483647 := by have := hz.cl; omega
    refine ⟨hcl2, ?_⟩
    refine A3 c3 rfl ?_
    simp [tS, sV, qCL, List.idxOf_cons]
    have hil : 2 + (Re i).length ≤ 9223372036854775807 := by unfold Re; split <;> simp
    refine ⟨hil, ?_⟩
    simp [Bw, He, As, C9, tS, sV, siN] at c4
    have g3 := fun Q r11 r44 r46 r78 r90 r111 r157 rN rM h0 => qFF (Γ := Γ) (Q := Q) (.ip (tC c) 0) t7 (.sl (Ad As chs.l) chs.cap chs.nl) (tI chs.l.length) (tI i) r11 r44 r46 r78 r90 r111 r157 rN rM s.l h1.len s.cap s.nl h1.nd _ _ h0 s.l.length 0 S.nodes.length S.bef (by omega) h1.key rfl rfl
    simp [i3E, i3G, Z8] at g3
    have q2 : Ak S.ins ++ [[tI S.nodes.length]] = Ak (S.ins ++ [(S.nodes.length : Int)]) := Bq
    have tk2 : (Ak S.ins).take S.cl.length = Ak S.ins := by rw [← hic]; exact B6
    have q3 : Ak S.outs ++ [[tI (q0C S.nodes.length s.l)]] = Ak (S.outs ++ [q0C S.nodes.length s.l]) := Bq
    have tk3 : (Ak S.outs).take S.outs.length = Ak S.outs := B6
    refine ⟨_, _, c4, ?_⟩
    simp [List.idxOf_cons, Zi, q7y, hcl2, tk2, q2, A0]
    refine g3 _ _ _ _ _ _ _ _ _ _ ?_
    simp [q7y, tk3, q3, A0]
    refine ⟨by have := hz.outs; omega, ?_⟩
    rw [A5 (by omega) (by omega), hK]
    simpa [i6E, i6R, i3G, r11, r46, Z8, J8, q0D, He, siN, hic, As] using ih
set_option maxHeartbeats 2000000 in
theorem qGa {Q : AX → St → Prop} (c : B9) (t7 : T) (chs : Sl (Sl Int)) (hcl : chs.l.length ≤ 100) (en : Int) (R : IS) (on : Option Bool) (S : IS)
    (h0 : chs.l ≠ [] → Q (.exit 2) ⟨i6E c t7 chs chs.l.length ++ [(68, .t (tB false))], i6R en R⟩)
    (h0t : chs.l = [] → Q (.exit 2) ⟨i6E c t7 chs 0 ++ [(68, .t (tB false))], i6T en S.outs (some S.outs.length) on S⟩)
    (hic : S.ins.length = S.cl.length) (hk : qFG 0 chs.l S) (hR : q6g 0 chs.l S = R) :
    run Tryz.prog Γ Iy Q ⟨i6E c t7 chs 0, i6T en S.outs (some S.outs.length) on S⟩ := by
  by_cases hne : chs.l = []
  · have hh := h0t hne
    refine H4 fun K hK => ?_
    have hl0 : chs.l.length = 0 := by rw [hne]; rfl
    simp [i6E, i6T, i3H, Z8, hl0] at hh ⊢
    simpa [i6E, i6T, i3H, Z8] using hh
  · have h0 := h0 hne
    have hlen : 0 < chs.l.length := List.length_pos_iff.2 hne
    have step := fun S hs h1 h2 => qFH (Γ := Γ) (Q := Q) c t7 chs hcl en R h0 (chs.l.length - 1) 1 S (by omega) hs h1 h2
    refine H4 fun K hK => ?_
    have hdr : chs.l = chs.l[0] :: chs.l.drop 1 := by
      have := List.drop_eq_getElem_cons hlen
      simpa using this
    rw [hdr] at hk hR
    have e := B1 (f := As) ⟨[], none, none⟩ hlen
    have e2 : chs.l[0]?.getD ⟨[], none, none⟩ = chs.l[0] := by simp [hlen]
    rw [e2] at e
    generalize chs.l[0] = s at *
    obtain ⟨h1, h5⟩ := hk
    simp only [q6g] at hR
    have ih := step (J8 0 s S) (by simp [J8, hic]) h5 hR
    have e' : ∀ h : 0 < (Ad As chs.l).length, (Ad As chs.l)[0] = [As s] := fun h => by rw [← e]; simp [h]
    have hz := h1.z
    have hso : q2T s := ⟨fun h => absurd h h1.nl, fun _ => h1.ne, h1.len⟩
    have c1 := q2U (Γ := Γ) s hso
    rw [if_neg h1.nl] at c1
    have c2 := K1 (Γ := Γ) (Ak s.l) none none A9
    have c3 := q5f (Γ := Γ) 0 h1.i100
    have z1 := hz.nodes
    have z2 := hz.names
    have c4 := qIE (Γ := Γ) S.names S.nodes S.names S.outs (some S.outs.length) on He (siN 0) (by omega) (by omega) h1.nm qD0
    have tk1 : (Ad As S.cl).take S.cl.length = Ad As S.cl := B6
    have q1 : Ad As S.cl ++ [[.sl (Ak s.l) (some s.l.length) none]] = Ad As (S.cl ++ [⟨s.l, some s.l.length, none⟩]) := Bq (f := As) (x := ⟨s.l, some s.l.length, none⟩)
    have hlen' : chs.l.length ≠ 0 := by omega
    simp only [As] at c1 e e' q1
    simp [i6E, i6T, i3H, r11, r46, hlen, A0, A9, e, e']
    refine A3 c1 rfl ?_
    simp
    refine A8 c2 rfl ?_
    simp [A0, A9, tk1, q1, q7y, Z8]
    have hcl2 : S.cl.length ≤ 2147483647 := by have := hz.cl; omega
    refine ⟨hcl2, ?_⟩
    refine A3 c3 rfl ?_
    simp [tS, sV, qCL, List.idxOf_cons]
    have hil : 2 + (Re 0).length ≤ 9223372036854775807 := by unfold Re; split <;> simp
    refine ⟨hil, ?_⟩
    simp [Bw, He, As, C9, tS, sV, siN] at c4
    have g3 := fun Q r11 r44 r46 r78 r90 r157 rN rM h0 => qFE (Γ := Γ) (Q := Q) (.ip (tC c) 0) t7 (.sl (Ad As chs.l) chs.cap chs.nl) (tI chs.l.length) (tI 0) r11 r44 r46 r78 r90 r157 rN rM s.l h1.len s.cap s.nl h1.nd _ _ h0 s.l.length 0 S.nodes.length S.bef (by omega) h1.key rfl rfl
    simp [i3E, i3H, Z8] at g3
    have q2 : Ak S.ins ++ [[tI S.nodes.length]] = Ak (S.ins ++ [(S.nodes.length : Int)]) := Bq
    have tk2 : (Ak S.ins).take S.cl.length = Ak S.ins := by rw [← hic]; exact B6
    have q3 : Ak S.outs ++ [[tI (q0C S.nodes.length s.l)]] = Ak (S.outs ++ [q0C S.nodes.length s.l]) := Bq
    have tk3 : (Ak S.outs).take S.outs.length = Ak S.outs := B6
    refine ⟨_, _, c4, ?_⟩
    simp [List.idxOf_cons, Zi, q7y, hcl2, tk2, q2, A0]
    refine g3 _ _ _ _ _ _ _ _ _ ?_
    simp [q7y, tk3, q3, A0, A9]
    refine ⟨by have := hz.outs; omega, ?_⟩
    rw [A5 (by omega) (by omega), hK]
    simpa [i6E, i6R, i3G, r11, r46, Z8, J8, q0D, He, siN, hic, As] using ih
end Go.Lg
namespace Go.Lg
open Go Go.Proofs
structure NG (B : Bool) (ns : List Nd) (i : Nat) (x : Nd) : Prop where
  k : 0 ≤ x.k ∧ x.k ≤ 15
  f : (U4 x.k).1 ≤ x.inn.l.length ∧ (x.inn.l.length : Int) ≤ (U4 x.k).2
  inn : ∀ p ∈ x.inn.l, 0 ≤ p ∧ p < ns.length
  top : 1 ≤ x.k ∧ x.k ≤ 13 → ∀ p ∈ x.inn.l, p < i
  bus : x.k = 13 → ∀ p ∈ x.inn.l, (ns.getD p.toNat Nd.d).k = 12
  mm : (x.k ≠ 15 → x.mem = 0 ∧ x.bit = 0) ∧ (x.k = 15 → B = true ∧ x.mem = 0 ∧ 0 ≤ x.bit ∧ x.bit ≤ 1)
theorem NG.mono {B : Bool} {ns ys : List Nd} {i : Nat} {x : Nd} (h : NG B ns i x) : NG B (ns ++ ys) i x :=
  ⟨h.k, h.f, fun p hp => by have := h.inn p hp; simp; omega, h.top, fun hk p hp => by
    have h1 := h.inn p hp
    rw [List.getD_eq_getElem?_getD, List.getElem?_append_left (by omega), ← List.getD_eq_getElem?_getD]
    exact h.bus hk p hp, h.mm⟩
def GNs (B : Bool) (ns : List Nd) : Prop := ∀ i (h : i < ns.length), NG B ns i ns[i]
theorem GNs.add {B : Bool} {ns : List Nd} {y : Nd} (h : GNs B ns) (hy : NG B (ns ++ [y]) ns.length y) : GNs B (ns ++ [y]) := by
  intro i hi
  by_cases h1 : i < ns.length
  · rw [List.getElem_append_left h1]; exact (h i h1).mono
  · have : i = ns.length := by simp at hi; omega
    subst this
    simpa using hy
theorem S7 : U4 0 = (0, 0) ∧ U4 1 = (0, 0) ∧ U4 2 = (0, 0) ∧ U4 3 = (1, 1) ∧ U4 4 = (1, 1) ∧ U4 5 = (2, 16) ∧ U4 6 = (2, 16) ∧ U4 7 = (2, 16) ∧ U4 8 = (2, 16) ∧ U4 9 = (2, 16) ∧ U4 10 = (2, 16) ∧ U4 11 = (3, 3) ∧ U4 12 = (2, 2) ∧ U4 13 = (1, 16) ∧ U4 14 = (1, 1) ∧ U4 15 = (0, 0) := by decide
theorem qIF {B : Bool} {ns : List Nd} {i : Nat} : NG B ns i He := ⟨by decide, by decide, by simp [He], by simp [He], by simp [He], by simp [He]⟩
theorem qIG {B : Bool} {ns : List Nd} {i : Nat} {v : Int} (h : 0 ≤ v ∧ v < ns.length) : NG B ns i (q4j v) := ⟨by simp [q4j], by simp [q4j, S7], by simp [q4j]; exact h, by simp [q4j], by simp [q4j], by simp [q4j]⟩
theorem qFI {ns : List Nd} {i : Nat} {b : Int} (h : b = 0 ∨ b = 1) : NG true ns i (q43 b) := ⟨by simp [q43], by simp [q43, S7], by simp [q43], by simp [q43], by simp [q43], by simp [q43]; omega⟩
theorem qIH {ns : List Nd} : ∀ p ∈ q39 ns, 0 ≤ p ∧ p < ns.length ∧ (ns.getD p.toNat Nd.d).k = 12 := by
  intro p hp
  obtain ⟨h1, h2, h3⟩ := q25 [12] ns 0 p hp
  refine ⟨by omega, by omega, ?_⟩
  simpa using h3
theorem qD1 {l : List Int} {q : Nat} (h : q < l.length) : l.getD q 0 ∈ l := by
  rw [List.getD_eq_getElem?_getD, List.getElem?_eq_getElem h]; exact List.getElem_mem h
theorem qGb {B bus : Bool} {g : Gd} {ns : List Nd} (hg : q7b g) (h0 : 1 ≤ ns.length) : NG B (ns ++ [Yd bus g ns]) ns.length (Yd bus g ns) := by
  have a := Bm (n := ns.length) hg.2.1.1 (by omega)
  have b := Bm (n := ns.length) hg.2.2.1.1 (by omega)
  have d := Bm (n := ns.length) hg.2.2.2.1 (by omega)
  have m13 : 0 ≤ g.k.tmod 13 ∧ g.k.tmod 13 < 13 := Bm (n := 13) hg.1.1 (by omega)
  have m9 : 0 ≤ g.k.tmod 9 ∧ g.k.tmod 9 < 9 := Bm (n := 9) hg.1.1 (by omega)
  have ma : 0 ≤ g.a.tmod 2 ∧ g.a.tmod 2 < 2 := Bm (n := 2) hg.2.1.1 (by omega)
  have hkk : 0 ≤ (if bus then g.k.tmod 13 else g.k.tmod 9) ∧ (if bus then g.k.tmod 13 else g.k.tmod 9) < 13 := by cases bus <;> simp <;> omega
  have ht := qIH (ns := ns)
  obtain ⟨y, hy⟩ : ∃ y, y = Yd bus g ns := ⟨_, rfl⟩
  rw [← hy]
  have hlen : (ns ++ [y]).length = ns.length + 1 := by simp
  have old : ∀ p : Int, 0 ≤ p → p < ns.length → ((ns ++ [y]).getD p.toNat Nd.d).k = (ns.getD p.toNat Nd.d).k := fun p h1 h2 => by
    rw [List.getD_eq_getElem?_getD, List.getElem?_append_left (by omega), ← List.getD_eq_getElem?_getD]
  -- what suffices of a plain gate
  have mk : ∀ (k : Int) (l : List Int) (cap : Option Nat) (nl : Option Bool), 0 ≤ k → k ≤ 15 → k ≠ 13 → k ≠ 15 → (U4 k).1 ≤ l.length → (l.length : Int) ≤ (U4 k).2 → (∀ p ∈ l, 0 ≤ p ∧ p < ns.length) → NG B (ns ++ [y]) ns.length ⟨k, ⟨l, cap, nl⟩, 0, 0⟩ := fun k l cap nl h1 h2 h3 h4 h5 h6 h7 =>
    ⟨⟨h1, h2⟩, ⟨h5, h6⟩, fun p hp => by have := h7 p hp; omega, fun _ p hp => (h7 p hp).2, fun e => absurd e h3, fun _ => ⟨rfl, rfl⟩, fun e => absurd e h4⟩
  unfold Yd q7c at hy
  simp only at hy
  generalize g.a.tmod ns.length = a' at *
  generalize g.b.tmod ns.length = b' at *
  generalize g.d.tmod ns.length = d' at *
  generalize (if bus = true then g.k.tmod 13 else g.k.tmod 9) = kk at *
  have two : ∀ p ∈ [a', b'], 0 ≤ p ∧ p < ns.length := by intro p hp; simp at hp; rcases hp with rfl | rfl; exact a; exact b
  have three : ∀ p ∈ [a', b', d'], 0 ≤ p ∧ p < ns.length := by intro p hp; simp at hp; rcases hp with rfl | rfl | rfl; exact a; exact b; exact d
  have one : ∀ p ∈ [a'], 0 ≤ p ∧ p < ns.length := by intro p hp; simp at hp; rcases hp with rfl; exact a
  split at hy
  · rename_i h6
    have hc : kk = 0 ∨ kk = 1 ∨ kk = 2 ∨ kk = 3 ∨ kk = 4 ∨ kk = 5 := by omega
    split at hy
    · rw [hy]
      have hf : (U4 (5 + kk)).1 = 2 ∧ (U4 (5 + kk)).2 = 16 := by rcases hc with rfl | rfl | rfl | rfl | rfl | rfl <;> decide
      rw [← hy]
      have := mk (5 + kk) [a', b', d'] none none (by omega) (by omega) (by omega) (by omega) (by rw [hf.1]; simp) (by rw [hf.2]; simp) three
      rw [← hy] at this; exact this
    · have hf : (U4 (5 + kk)).1 = 2 ∧ (U4 (5 + kk)).2 = 16 := by rcases hc with rfl | rfl | rfl | rfl | rfl | rfl <;> decide
      have := mk (5 + kk) [a', b'] none none (by omega) (by omega) (by omega) (by omega) (by rw [hf.1]; simp) (by rw [hf.2]; simp) two
      rw [← hy] at this; exact this
  split at hy
  · have := mk 4 [a'] none none (by omega) (by omega) (by omega) (by omega) (by simp [S7]) (by simp [S7]) one
    rw [← hy] at this; exact this
  split at hy
  · have := mk 11 [a', b', d'] none none (by omega) (by omega) (by omega) (by omega) (by simp [S7]) (by simp [S7]) three
    rw [← hy] at this; exact this
  split at hy
  · have := mk 12 [a', b'] none none (by omega) (by omega) (by omega) (by omega) (by simp [S7]) (by simp [S7]) two
    rw [← hy] at this; exact this
  split at hy
  · rename_i ht2
    generalize q39 ns = t at *
    have mt := Bm (n := t.length) hg.2.1.1 ht2.2
    have mt2 := Bm (a := g.a.tmod t.length + 1) (n := t.length) (by omega) ht2.2
    have q1 := ht _ (qD1 (l := t) (q := (g.a.tmod t.length).toNat) (by omega))
    have q2 := ht _ (qD1 (l := t) (q := ((g.a.tmod t.length + 1).tmod t.length).toNat) (by omega))
    generalize t.getD (g.a.tmod t.length).toNat 0 = u1 at *
    generalize t.getD ((g.a.tmod t.length + 1).tmod t.length).toNat 0 = u2 at *
    have mkb : ∀ (l : List Int) (cap : Option Nat) (nl : Option Bool), 1 ≤ l.length → l.length ≤ 16 → (∀ p ∈ l, 0 ≤ p ∧ p < ns.length ∧ (ns.getD p.toNat Nd.d).k = 12) → NG B (ns ++ [y]) ns.length ⟨13, ⟨l, cap, nl⟩, 0, 0⟩ := fun l cap nl h5 h6 h7 =>
      ⟨by simp, ⟨by simp [S7]; omega, by simp [S7]; omega⟩, fun p hp => by have := h7 p hp; omega, fun _ p hp => (h7 p hp).2.1, fun _ p hp => by rw [old p (h7 p hp).1 (h7 p hp).2.1]; exact (h7 p hp).2.2, fun _ => ⟨rfl, rfl⟩, fun e => by simp at e⟩
    split at hy
    · have := mkb [u1, u2] none none (by simp) (by simp) (by intro p hp; simp at hp; rcases hp with rfl | rfl; exact q1; exact q2)
      rw [← hy] at this; exact this
    · have := mkb [u1] none none (by simp) (by simp) (by intro p hp; simp at hp; rcases hp with rfl; exact q1)
      rw [← hy] at this; exact this
  split at hy
  · have hc : g.a.tmod 2 = 0 ∨ g.a.tmod 2 = 1 := by omega
    have hf : (U4 (1 + g.a.tmod 2)).1 = 0 ∧ (U4 (1 + g.a.tmod 2)).2 = 0 := by rcases hc with e | e <;> rw [e] <;> decide
    have := mk (1 + g.a.tmod 2) [] (some 0) (some true) (by omega) (by omega) (by omega) (by omega) (by rw [hf.1]; simp) (by rw [hf.2]; simp) (by simp)
    rw [← hy] at this; exact this
  · have := mk 3 [a'] none none (by omega) (by omega) (by omega) (by omega) (by simp [S7]) (by simp [S7]) one
    rw [← hy] at this; exact this
theorem q9J {B bus : Bool} : ∀ {l : List Gd} {ns : List Nd}, (∀ g ∈ l, q7b g) → 1 ≤ ns.length → GNs B ns → GNs B (K5 bus l ns)
  | [], ns, _, _, h => h
  | g :: l, ns, hg, h0, h => by
    simp only [K5]
    exact q9J (fun y hy => hg y (List.mem_cons_of_mem _ hy)) (by simp) (h.add (qGb (hg g List.mem_cons_self) h0))
theorem qGc {B : Bool} {ns : List Nd} {j : Nat} {v : Int} (h : GNs B ns) (hj : j < ns.length) (hk : ns[j].k = 14) (hv : 0 ≤ v ∧ v < ns.length) : GNs B (Hf ns j v) := by
  have hm := (h j hj).mm.1 (by rw [hk]; decide)
  have hgd : ns.getD j Nd.d = ns[j] := by simp [List.getD_eq_getElem?_getD, hj]
  have kinds : ∀ q : Nat, ((Hf ns j v).getD q Nd.d).k = (ns.getD q Nd.d).k := fun q => by
    unfold Hf
    simp only [List.getD_eq_getElem?_getD, List.getElem?_set]
    split
    · rename_i e; subst e; simp [hj]
    · rfl
  intro i hi
  have hi' : i < ns.length := by rw [Ou] at hi; exact hi
  by_cases hij : i = j
  · subst hij
    have : (Hf ns i v)[i] = ⟨14, ⟨[v], some 1, some false⟩, 0, 0⟩ := by
      simp only [Hf, hgd, hk, hm.1, hm.2, List.getElem_set_self]
    rw [this]
    exact ⟨by simp, by simp [S7], by simp [Ou]; exact hv, by simp, by simp, by simp⟩
  · have : (Hf ns j v)[i] = ns[i] := by
      simp only [Hf]
      rw [List.getElem_set_ne (fun e => hij e.symm)]
    rw [this]
    have hn := h i hi'
    exact ⟨hn.k, hn.f, fun p hp => by rw [Ou]; exact hn.inn p hp, hn.top, fun hk p hp => by rw [kinds]; exact hn.bus hk p hp, hn.mm⟩
theorem q7z {ns : List Nd} {j q : Nat} {v : Int} : ((Hf ns j v).getD q Nd.d).k = (ns.getD q Nd.d).k := by
  unfold Hf
  simp only [List.getD_eq_getElem?_getD, List.getElem?_set]
  split
  · rename_i e; subst e
    split
    · simp
    · rename_i h; simp [List.getElem?_eq_none (Nat.le_of_not_lt h)]
  · rfl
theorem qB6 {B : Bool} {x : CD} {first : Nat} (h0 : Qq x.d0) (h1 : Qq x.d1) : ∀ {k i : Nat} {ns : List Nd}, GNs B ns → (∀ q, q < i + k → first + q < ns.length ∧ (ns.getD (first + q) Nd.d).k = 14) → GNs B (Ux x first k i ns)
  | 0, _, _, h, _ => h
  | k + 1, i, ns, h, hq => by
    simp only [Ux]
    obtain ⟨hl, hk⟩ := hq i (by omega)
    have hd : 0 ≤ ddN x i := by unfold ddN; split; exact h0.1; exact h1.1
    have hv := Bm (n := ns.length) hd (by omega)
    refine qB6 h0 h1 (qGc h hl (by simpa [List.getD_eq_getElem?_getD, hl] using hk) hv) fun q hq' => ?_
    rw [Ou, q7z]
    exact hq q (by omega)
theorem q2b {bus : Bool} : ∀ {l : List Gd} {ns : List Nd} {q : Nat}, q < ns.length → ((K5 bus l ns).getD q Nd.d) = (ns.getD q Nd.d)
  | [], _, _, _ => rfl
  | g :: l, ns, q, h => by
    simp only [K5]
    rw [q2b (by simp; omega)]
    rw [List.getD_eq_getElem?_getD, List.getElem?_append_left h, ← List.getD_eq_getElem?_getD]
theorem qA1 {B : Bool} {x : Nd} (h : ∀ ns : List Nd, 1 ≤ ns.length → ∀ i, NG B ns i x) : ∀ (k : Nat) {ns : List Nd}, GNs B ns → GNs B (ns ++ List.replicate k x)
  | 0, ns, hn => by simpa using hn
  | k + 1, ns, hn => by
    rw [List.replicate_succ, List.append_cons]
    exact qA1 h k (hn.add (h _ (by simp) _))
theorem Yq {x : CD} (hx : q1V x) : GNs x.mem (Bt x) := by
  have m4 : 0 ≤ x.i.tmod 4 ∧ x.i.tmod 4 < 4 := Bm (n := 4) hx.i.1 (by omega)
  have m3 : 0 ≤ x.f.tmod 3 ∧ x.f.tmod 3 < 3 := Bm (n := 3) hx.f.1 (by omega)
  have g0 : GNs x.mem [] := fun i h => by simp at h
  have g1 : GNs x.mem (Dq x) := by
    have := qA1 (B := x.mem) (x := He) (fun ns _ i => qIF) (x.i.tmod 4 + 1).toNat g0
    simpa [Dq] using this
  have l1 : 1 ≤ (Dq x).length := by simp [Dq]; omega
  have g2 : GNs x.mem (C7 x) := qA1 (fun ns h i => qIG ⟨by omega, by omega⟩) _ g1
  have l2 : (C7 x).length = (Dq x).length + (x.f.tmod 3).toNat := by simp [C7]
  have g3 : GNs x.mem (C5 x) := by
    unfold C5
    split
    · rename_i hm
      rw [hm] at g2 ⊢
      have a1 := g2.add (y := q43 0) (qFI (.inl rfl))
      have a2 := a1.add (y := q43 1) (qFI (.inr rfl))
      rw [List.append_assoc] at a2
      exact a2
    · exact g2
  have l3 : (C7 x).length ≤ (C5 x).length := by unfold C5; split <;> simp
  have g4 : GNs x.mem (Be x) := q9J (fun g hg => hx.gates g (List.mem_of_mem_take hg)) (by omega) g3
  have l4 : (C5 x).length ≤ (Be x).length := by unfold Be; rw [Nx]; omega
  refine qB6 hx.d0 hx.d1 g4 fun q hq => ⟨by omega, ?_⟩
  unfold Be
  rw [q2b (by omega)]
  have e : (C5 x).getD ((Dq x).length + q) Nd.d = (C7 x).getD ((Dq x).length + q) Nd.d := by
    unfold C5
    split
    · rw [List.getD_eq_getElem?_getD, List.getElem?_append_left (by omega), ← List.getD_eq_getElem?_getD]
    · rfl
  rw [e]
  unfold C7
  rw [List.getD_eq_getElem?_getD, List.getElem?_append_right (by omega)]
  simp only [Nat.add_sub_cancel_left]
  rw [List.getElem?_replicate, if_pos (by omega)]
  rfl
theorem q0e {α : Type} {f : α → Int} : ∀ {l : List α}, (∀ x ∈ l, f x = 0) → Dc (l.map f) = 0
  | [], _ => rfl
  | x :: l, h => by
    simp only [List.map_cons, Dc, h x List.mem_cons_self, ne_eq, not_true_eq_false, if_false]
    exact q0e fun y hy => h y (List.mem_cons_of_mem _ hy)
theorem qCM : ∀ n, n ≤ 16 → Iq [] ((List.range' 0 n).map Le) = 0 := by
  intro n hn
  have : n = 0 ∨ n = 1 ∨ n = 2 ∨ n = 3 ∨ n = 4 ∨ n = 5 ∨ n = 6 ∨ n = 7 ∨ n = 8 ∨ n = 9 ∨ n = 10 ∨ n = 11 ∨ n = 12 ∨ n = 13 ∨ n = 14 ∨ n = 15 ∨ n = 16 := by omega
  rcases this with rfl | rfl | rfl | rfl | rfl | rfl | rfl | rfl | rfl | rfl | rfl | rfl | rfl | rfl | rfl | rfl | rfl <;> decide +kernel
theorem qDw {x : CD} (hx : q1V x) : E2 (K6 x) = 0 := by
  have hl := q0X hx
  have h5 := q45 hx
  have hg := Yq hx
  have hN : (K6 x).nodes.l = Bt x := rfl
  have hmods : ∀ b, Qq b → 0 ≤ b.tmod (Be x).length ∧ b.tmod (Be x).length < (Bt x).length := fun b hb => by
    have := Bm (n := (Be x).length) hb.1 (by omega); omega
  have hout : ∀ n, 0 ≤ n ∧ n < ((Bt x).length : Int) → Qp (K6 x) n = false := fun n h => by simp [Qp, hN]; omega
  have hnode : ∀ y ∈ Bt x, Dn (K6 x) y = 0 := by
    intro y hy
    obtain ⟨i, hi, rfl⟩ := List.getElem_of_mem hy
    have hn := hg i hi
    unfold Dn
    rw [if_neg (by have := hn.k; omega), if_neg (by have := hn.f; omega)]
    have h1 : (Bt x)[i].inn.l.any (Qp (K6 x)) = false := List.any_eq_false.2 fun p hp => by rw [hout p (hn.inn p hp)]; simp
    rw [h1]
    have h2 : ¬ ((Bt x)[i].k = 13 ∧ (Bt x)[i].inn.l.any (q21 (K6 x)) = true) := by
      rintro ⟨hk, ha⟩
      obtain ⟨p, hp, hq⟩ := List.any_eq_true.1 ha
      have := hn.bus hk p hp
      simp [q21, hN] at hq
      rw [List.getD_eq_getElem?_getD] at this
      exact hq this
    rw [if_neg (by simp), if_neg h2]
    have h3 : q0s (K6 x) (Bt x)[i] = true := by
      unfold q0s
      by_cases hk : (Bt x)[i].k = 15
      · obtain ⟨hm, e1, e2, e3⟩ := hn.mm.2 hk
        simp only [hk, ne_eq, not_true_eq_false, if_false, decide_eq_true_eq]
        simp [K6, q8R, hm, e1]
        omega
      · have := hn.mm.1 hk
        simp [hk, this]
    rw [h3]; simp
  unfold E2
  have e1 : ¬ (16384 < (K6 x).nodes.l.length ∨ 16 < (K6 x).mems.l.length ∨ 16384 < (K6 x).outs.l.length) := by
    have : (K6 x).mems.l.length ≤ 1 := by simp only [K6, q8R]; split <;> simp
    have : (K6 x).outs.l.length ≤ 4 := by simp [K6]; omega
    rw [hN]; omega
  have e2 : (K6 x).names.l.length = (K6 x).nodes.l.length := by rw [hN]; simp [K6]; omega
  rw [if_neg e1, if_neg (by simp [e2]), if_neg (by rw [hN, q0e hnode]; simp), if_neg (by
    rw [show (K6 x).names.l = (List.range' 0 (Be x).length).map Le from rfl, qCM _ hl.2]; simp), if_neg (by
    rw [q0e]
    · simp
    · intro m hm
      simp only [K6, q8R] at hm
      split at hm
      · simp at hm; subst hm
        unfold Q2
        have a0 := hout _ (hmods _ hx.p0)
        have a1 := hout _ (hmods _ hx.p1)
        have a2 := hout _ (hmods _ hx.p2)
        have a3 := hout _ (hmods _ hx.p3)
        simp [Wy, a0, a1, a2, a3]
      · cases hm)]
  have ho : (K6 x).outs.l.any (Qp (K6 x)) = false := by
    refine List.any_eq_false.2 fun p hp => ?_
    have : 0 ≤ p ∧ p < ((Bt x).length : Int) := by
      simp only [K6, List.mem_append, List.mem_map, List.mem_singleton] at hp
      rcases hp with ⟨b, hb, rfl⟩ | rfl
      · exact hmods b (hx.outs b (List.mem_of_mem_take hb))
      · omega
    rw [hout p this]; simp
  rw [ho]; rfl
theorem q9K {x : CD} (hx : q1V x) : Do (K6 x) = 0 := by
  have hs := qDw hx
  have hg := Yq hx
  have hN : (K6 x).nodes.l = Bt x := rfl
  have hin : ∀ y ∈ (K6 x).nodes.l, ∀ p ∈ y.inn.l, 0 ≤ p ∧ p < (K6 x).nodes.l.length := by
    intro y hy p hp
    rw [hN] at hy ⊢
    obtain ⟨i, hi, rfl⟩ := List.getElem_of_mem hy
    exact (hg i hi).inn p hp
  have hd := qAr (K6 x) (Ot hs).2.1 hin (by
    intro i hi hc p hp
    rw [hN] at hi
    have e : (K6 x).nodes.l.getD i Nd.d = (Bt x)[i] := by rw [hN]; simp [List.getD_eq_getElem?_getD, hi]
    simp only [B7, Gt, e] at hc hp
    exact (hg i hi).top (by simpa [Fj] using hc) p hp)
  unfold Do
  rw [if_neg (by simp [hs]), if_neg hd]
theorem q5l {x : CD} (hx : q1V x) (hm : x.mem = false) : E5 (K6 x) = 0 := by
  have hv := q9K hx
  have hg := Yq hx
  have h1 : (K6 x).mems.l = [] := by simp [K6, q8R, hm]
  have h2 : mems (K6 x) = [] := by
    refine List.eq_nil_iff_forall_not_mem.2 fun n hn => ?_
    obtain ⟨a, b, h3⟩ := q25 [15] (K6 x).nodes.l 0 n hn
    have hi : n.toNat < (Bt x).length := by have : (K6 x).nodes.l = Bt x := rfl; rw [this] at b; omega
    have hk : (Bt x)[n.toNat].k = 15 := by
      have : (K6 x).nodes.l = Bt x := rfl
      rw [this] at h3
      simpa [List.getD_eq_getElem?_getD, hi] using h3
    have := ((hg _ hi).mm.2 hk).1
    rw [hm] at this; cases this
  unfold E5
  rw [if_neg (by simp [hv]), h1, h2]; simp
end Go.Lg
namespace Go.Lg
open Go Go.Proofs
variable {Γ : Tables}
structure JS where
  nodes : List Nd
  names : List (List UInt8)
  muxes : List Int
def q1X (e d b : Int) : Nd := ⟨11, ⟨[e, d, b], some 3, some false⟩, 0, 0⟩
def in0 (c : B9) (n : Int) : Int := (Gt c n.toNat).getD 0 0
def J9 (c : B9) (en : Int) (bef : List (Int × Int)) (i : Nat) (n : Int) (J : JS) : JS :=
  ⟨Hf (J.nodes ++ [q1X en (in0 c n) (Rf bef n)]) n.toNat J.nodes.length, J.names ++ [smN i], J.muxes ++ [(J.nodes.length : Int)]⟩
def q3G (c : B9) (en : Int) (bef : List (Int × Int)) : Nat → List Int → JS → JS
  | _, [], J => J
  | i, n :: l, J => q3G c en bef (i + 1) l (J9 c en bef i n J)
structure qJs (c : B9) (i : Nat) (n : Int) (J : JS) : Prop where
  nodes : J.nodes.length ≤ 100000
  names : J.names.length ≤ 100000
  muxes : J.muxes.length ≤ 100000
  nm : smN i ∉ J.names
  i100 : i < 100
  n0 : 0 ≤ n
  n1 : n < c.nodes.l.length
  n2 : n < J.nodes.length
  inn : Gt c n.toNat ≠ []
def qGd (c : B9) (en : Int) (bef : List (Int × Int)) : Nat → List Int → JS → Prop
  | _, [], _ => True
  | i, n :: l, J => qJs c i n J ∧ qGd c en bef (i + 1) l (J9 c en bef i n J)
def i8E (c : B9) (st : List Int) (sc : Option Nat) (sn : Option Bool) (i : Nat) : List (Nat × AV) :=
  [(2, .t (.ip (tC c) 0)), (4, .lp 4 0 0), (8, .lp 46 0 0), (11, .lp 11 0 0), (12, .lm 64), (116, .t (.sl (Ak st) sc sn)), (117, .t (tI st.length)), (118, .t (tI i))]
def i8R (en : Int) (S : IS) (J : JS) : List (Nat × Bf) :=
  i3G (r11 en S.cl.length J.muxes.length) (.mp (Q3 J.names)) (r46 J.nodes.length J.names.length (.ls 111 0 S.outs.length none)) (.sl 33 1 (Ad As S.cl)) (.sl 3 1 (Ak S.ins)) (.sl 3 1 (Ak S.outs)) (.sl 3 1 (Ak J.muxes)) (.sl 104 4 (Az Bw J.nodes)) (.sl 9 1 (Ad tS J.names)) S.bef
theorem qJt {c : B9} {n : Int} (h0 : 0 ≤ n) (h : n < c.nodes.l.length) : (Az Bw c.nodes.l)[n.toNat]?.getD [] = Bw (c.nodes.l.getD n.toNat Nd.d) := gN (by omega)
set_option maxHeartbeats 2000000 in
theorem qFJ {Q : AX → St → Prop} (c : B9) (hcn : c.nodes.l.length ≤ 100000) (st : List Int) (hst : st.length ≤ 100) (sc : Option Nat) (sn : Option Bool) (en : Int) (S : IS) (R : JS)
    (h0 : Q (.exit 6) ⟨i8E c st sc sn st.length ++ [(119, .t (tB false))], i8R en S R⟩) :
    ∀ (k i : Nat) (J : JS), k + i = st.length → qGd c en S.bef i (st.drop i) J → q3G c en S.bef i (st.drop i) J = R →
    run Tryz.prog Γ Nc Q ⟨i8E c st sc sn i, i8R en S J⟩
  | 0, i, J, h, hk, hR => by
    refine M1 fun K hK => ?_
    have h3 : i = st.length := by omega
    subst h3
    rw [List.drop_of_length_le (Nat.le_refl _)] at hR
    simp only [q3G] at hR
    subst hR
    simp [i8E, i8R, i3G, Z8]
    simpa [i8E, i8R, i3G, Z8] using h0
  | k + 1, i, J, h, hk, hR => by
    refine M1 fun K hK => ?_
    have h2 : i < st.length := by omega
    rw [List.drop_eq_getElem_cons h2] at hR hk
    have e := gi1 (f := tI) h2
    rw [Cc h2] at e
    generalize st[i] = n at *
    obtain ⟨h1, h5⟩ := hk
    simp only [q3G] at hR
    have ih := qFJ c hcn st hst sc sn en S R h0 k (i + 1) (J9 c en S.bef i n J) (by omega) h5 hR
    have e' : ∀ h : i < (Ak st).length, (Ak st)[i] = [tI n] := fun h => by rw [← e]; simp [h]
    have n0 := h1.n0
    have n1 := h1.n1
    have n2 := h1.n2
    have n3 : n.toNat < c.nodes.l.length := by omega
    have n4 : n.toNat < J.nodes.length := by omega
    have en1 := qJt (c := c) n0 n1
    have en1' : ∀ h : n.toNat < (Az Bw c.nodes.l).length, (Az Bw c.nodes.l)[n.toNat] = Bw (c.nodes.l.getD n.toNat Nd.d) := fun h => by rw [← en1]; simp [h]
    have hin : Gt c n.toNat = (c.nodes.l.getD n.toNat Nd.d).inn.l := rfl
    have hne := h1.inn
    have hd : (Ak (c.nodes.l.getD n.toNat Nd.d).inn.l)[0]?.getD [] = [tI (in0 c n)] := by
      rw [← hin]
      cases hl : Gt c n.toNat with
      | nil => exact absurd hl hne
      | cons a l => simp [in0, hl, Ad]
    rw [hin] at hne
    have hlp : 0 < (c.nodes.l.getD n.toNat Nd.d).inn.l.length := List.length_pos_iff.2 hne
    generalize c.nodes.l.getD n.toNat Nd.d = x at *
    have hd' : ∀ h : 0 < (Ak x.inn.l).length, (Ak x.inn.l)[0] = [tI (in0 c n)] := fun h => by rw [← hd]; simp [h]
    have hb := q9I n S.bef
    have hbf := q7v S.bef
    have c3 := q5f (Γ := Γ) i h1.i100
    have z1 := h1.nodes
    have z2 := h1.names
    have c4 := qFC (Γ := Γ) J.names J.nodes J.names S.outs (q1X en (in0 c n) (Rf S.bef n)) (smN i) (by omega) (by omega) h1.nm qGZ
    have hil : 2 + (Re i).length ≤ 9223372036854775807 := by unfold Re; split <;> simp
    have q1 : Ak J.muxes ++ [[tI J.nodes.length]] = Ak (J.muxes ++ [(J.nodes.length : Int)]) := Bq
    have tk1 : (Ak J.muxes).take J.muxes.length = Ak J.muxes := B6
    simp [i8E, i8R, i3G, r11, r46, h2, A0, A9, e, e', tC, Ab, Ae, Ba, n0, n1, en1, en1', Bw, As, hd, hd', hlp, hb, hbf, KT.fits]
    refine A3 c3 rfl ?_
    simp [tS, sV, qCL, List.idxOf_cons, Z8]
    refine ⟨hil, ?_⟩
    simp [Bw, q1X, As, C9, tS, sV, smN] at c4
    have hm : (⟨11, ⟨[en, in0 c n, Rf S.bef n], some 3, some false⟩, 0, 0⟩ : Nd) = q1X en (in0 c n) (Rf S.bef n) := rfl
    rw [hm] at c4
    have hLl : (J.nodes ++ [q1X en (in0 c n) (Rf S.bef n)]).length = J.nodes.length + 1 := by simp
    have y1 := gN (l := J.nodes ++ [q1X en (in0 c n) (Rf S.bef n)]) (i := n.toNat) (by omega)
    have y2 : ∀ y : Nd, (J.nodes ++ [q1X en (in0 c n) (Rf S.bef n)]).getD n.toNat Nd.d = y → (Az Bw (J.nodes ++ [q1X en (in0 c n) (Rf S.bef n)])).set n.toNat [tK y.k, .sl [[tI J.nodes.length]] (some 1) (some false), tI y.mem, tI y.bit] = Az Bw (Hf (J.nodes ++ [q1X en (in0 c n) (Rf S.bef n)]) n.toNat J.nodes.length) := fun y hy => by
      unfold Hf
      rw [hy]
      exact qB5 (f := Bw) (x := ⟨y.k, ⟨[(J.nodes.length : Int)], some 1, some false⟩, y.mem, y.bit⟩)
    have ihn : (J9 c en S.bef i n J).nodes = Hf (J.nodes ++ [q1X en (in0 c n) (Rf S.bef n)]) n.toNat J.nodes.length := rfl
    have ihl : (Hf (J.nodes ++ [q1X en (in0 c n) (Rf S.bef n)]) n.toNat J.nodes.length).length = J.nodes.length + 1 := by unfold Hf; simp
    simp [i8E, i8R, i3G, r11, r46, Z8, ihn, ihl, tC, Ab] at ih
    generalize J.nodes ++ [q1X en (in0 c n) (Rf S.bef n)] = L at *
    generalize Hf L n.toNat J.nodes.length = L2 at *
    have y3 := y2 _ rfl
    generalize L.getD n.toNat Nd.d = y at *
    have y1' : ∀ h : n.toNat < (Az Bw L).length, (Az Bw L)[n.toNat] = Bw y := fun h => by rw [← y1]; simp [h]
    have n5 : n < (J.nodes.length : Int) + 1 := by omega
    have n6 : n.toNat < J.nodes.length + 1 := by omega
    refine ⟨_, _, c4, ?_⟩
    simp [List.idxOf_cons, Zi, q7y, tk1, q1, A0, Ae, hLl, n0, n5, n6, y1, y1', y3, Ba, Bw, As]
    refine ⟨by have := h1.muxes; omega, ?_⟩
    rw [A5 (by omega) (by omega), hK]
    simpa [J9, q0D, smN, As] using ih
end Go.Lg
