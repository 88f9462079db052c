/- The levels of a circuit: what they are. Conditions: none. -/
import Derived.Test.YtgnghiijbegacaaDoorPF
set_option linter.unusedSimpArgs false
set_option linter.unusedVariables false
set_option maxRecDepth 100000
namespace Go.Lg
open Go Go.Proofs

/-- Every line names a node. -/
def LinesIn (N : Nat) (rows : List Row) : Prop := ∀ r ∈ rows, ∀ p ∈ r, ∃ i : Nat, i < N ∧ p.1 = i

theorem LinesIn.add {N : Nat} {rows : List Row} {n i : Nat} {k : Int} (h : LinesIn N rows) (hi : i < N) : LinesIn N (addRow rows n (i, k)) := by
  intro r hr p hp
  unfold addRow at hr
  by_cases hn : n < rows.length
  · rcases List.mem_or_eq_of_mem_set hr with hr | rfl
    · exact h r hr p hp
    · rcases List.mem_append.1 hp with hp | hp
      · have e : rows.getD n [] = rows[n] := by simp [hn]
        rw [e] at hp
        exact h _ (List.getElem_mem hn) p hp
      · simp at hp; subst hp; exact ⟨i, hi, rfl⟩
  · rw [List.set_eq_of_length_le (by omega)] at hr
    exact h r hr p hp
theorem fanPins_in {N : Nat} (c : Cir) (i : Nat) (hi : i < N) : ∀ (l : List Int) (k : Nat) (rows : List Row), LinesIn N rows → LinesIn N (fanPins c i l k rows)
  | [], _, _, h => h
  | n :: l, k, rows, h => by
    simp only [fanPins]
    split
    · exact fanPins_in c i hi l (k + 1) rows h
    · exact fanPins_in c i hi l (k + 1) _ (h.add hi)
theorem fanNodes_in {N : Nat} (c : Cir) : ∀ (l : List Nd) (i : Nat) (rows : List Row), i + l.length ≤ N → LinesIn N rows → LinesIn N (fanNodes c l i rows)
  | [], _, _, _, h => h
  | x :: l, i, rows, hl, h => by
    simp only [fanNodes]
    simp at hl
    exact fanNodes_in c l (i + 1) _ (by omega) (fanPins_in c i (by omega) _ _ _ h)
theorem fanRows_in (c : Cir) : LinesIn c.nodes.l.length (fanRows c) := by
  refine fanNodes_in c c.nodes.l 0 _ (by omega) fun r hr p hp => ?_
  rw [List.eq_of_mem_replicate hr] at hp; cases hp
theorem fanNodes_rb (c : Cir) : ∀ (l : List Nd) (i B : Nat) (rows : List Row), (∀ x ∈ l, x.inn.l.length ≤ 16) → RB rows B → RB (fanNodes c l i rows) (B + 16 * l.length)
  | [], _, _, _, _, h => h
  | x :: l, i, B, rows, hl, h => by
    simp only [fanNodes, List.length_cons]
    have h1 := (fanPins_ok c i x.inn.l 0 rows B h).2
    have h2 := hl x List.mem_cons_self
    exact (fanNodes_rb c l (i + 1) (B + 16) _ (fun y hy => hl y (List.mem_cons_of_mem _ hy)) (h1.mono (by omega))).mono (by omega)
theorem fanRows_rb (c : Cir) (hn : c.nodes.l.length ≤ 16384) (hi : ∀ x ∈ c.nodes.l, x.inn.l.length ≤ 16) : RB (fanRows c) 262144 := by
  refine (fanNodes_rb c c.nodes.l 0 0 _ hi fun r hr => ?_).mono (by omega)
  rw [List.eq_of_mem_replicate hr]; simp

structure LS where
  out : List Int
  left : List Int
  rdy : List Int

def combB (k : Int) : Bool := decide (1 ≤ k ∧ k ≤ 13)
def kindAt (c : Cir) (j : Nat) : Int := (c.nodes.l.getD j Nd.d).k

def stepL (c : Cir) (n : Nat) (s : LS) (p : Int × Int) : LS :=
  if combB (kindAt c p.1.toNat) then
    ⟨s.out.set p.1.toNat (max (s.out.getD p.1.toNat 0) (s.out.getD n 0 + 1)), s.left.set p.1.toNat (s.left.getD p.1.toNat 0 - 1), if s.left.getD p.1.toNat 0 - 1 = 0 then s.rdy ++ [p.1] else s.rdy⟩
  else s
def rowOf (c : Cir) (n : Nat) : Row := (fanRows c).getD n []
def mainL (c : Cir) : Nat → Nat → LS → Nat × LS
  | 0, d, s => (d, s)
  | f + 1, d, s => if d < s.rdy.length then mainL c f (d + 1) ((rowOf c (s.rdy.getD d 0).toNat).foldl (stepL c (s.rdy.getD d 0).toNat) s) else (d, s)

def leftOf (x : Nd) : Int := if combB x.k then x.inn.l.length else 0
def rdyFrom : List Nd → Nat → List Int
  | [], _ => []
  | x :: l, i => if leftOf x = 0 then (i : Int) :: rdyFrom l (i + 1) else rdyFrom l (i + 1)
def initL (c : Cir) : LS := ⟨List.replicate c.nodes.l.length 0, c.nodes.l.map leftOf, rdyFrom c.nodes.l 0⟩
def endL (c : Cir) : Nat × LS := mainL c (c.nodes.l.length + 1) 0 (initL c)

/-- What holds on the way: M bounds the numbers. -/
structure LI (N M : Nat) (s : LS) : Prop where
  lo : s.out.length = N
  ll : s.left.length = N
  rd : ∀ j ∈ s.rdy, ∃ i : Nat, i < N ∧ j = i ∧ s.left.getD i 0 ≤ 0
  nd : s.rdy.Nodup
  bo : ∀ i, 0 ≤ s.out.getD i 0 ∧ s.out.getD i 0 ≤ M
  bl : ∀ i, -(M : Int) ≤ s.left.getD i 0 ∧ s.left.getD i 0 ≤ 1000

theorem nodup_len {N : Nat} {l : List Int} (h : l.Nodup) (hb : ∀ j ∈ l, ∃ i : Nat, i < N ∧ j = i) : l.length ≤ N := by
  have h1 : (l.map Int.toNat).Nodup := by
    rw [List.nodup_iff_pairwise_ne] at h ⊢
    rw [List.pairwise_map]
    refine h.imp_of_mem fun {a b} ha hb' hne e => hne ?_
    obtain ⟨i, _, rfl⟩ := hb a ha
    obtain ⟨j, _, rfl⟩ := hb b hb'
    have : i = j := by simpa using e
    rw [this]
  have h2 : (l.map Int.toNat) ⊆ List.range N := by
    intro j hj
    obtain ⟨a, ha, rfl⟩ := List.mem_map.1 hj
    obtain ⟨i, hi, rfl⟩ := hb a ha
    simpa using hi
  have := (List.Nodup.length_le_of_subset h1 h2)
  simpa using this

theorem LI.len {N M : Nat} {s : LS} (h : LI N M s) : s.rdy.length ≤ N := nodup_len h.nd fun j hj => by obtain ⟨i, h1, h2, _⟩ := h.rd j hj; exact ⟨i, h1, h2⟩

theorem getD_set {l : List Int} {j i : Nat} {v : Int} (hj : j < l.length) : (l.set j v).getD i 0 = if i = j then v else l.getD i 0 := by
  simp only [List.getD, List.getElem?_set]
  by_cases h : j = i
  · subst h; simp [hj]
  · simp [h, Ne.symm h]

theorem LI.step {N M : Nat} {c : Cir} {s : LS} {n i : Nat} {k : Int} (h : LI N M s) (hi : i < N) : LI N (M + 1) (stepL c n s (i, k)) := by
  unfold stepL
  simp only [Int.toNat_natCast]
  split
  case isFalse => exact ⟨h.lo, h.ll, h.rd, h.nd, fun j => ⟨(h.bo j).1, by have := (h.bo j).2; omega⟩, fun j => ⟨by have := (h.bl j).1; omega, (h.bl j).2⟩⟩
  refine ⟨by simp [h.lo], by simp [h.ll], ?_, ?_, ?_, ?_⟩
  · intro j hj
    have old : ∀ j ∈ s.rdy, ∃ i0 : Nat, i0 < N ∧ j = i0 ∧ (s.left.set i (s.left.getD i 0 - 1)).getD i0 0 ≤ 0 := by
      intro j hj
      obtain ⟨i0, h1, h2, h3⟩ := h.rd j hj
      refine ⟨i0, h1, h2, ?_⟩
      rw [getD_set (by rw [h.ll]; exact hi)]
      split
      · rename_i e; subst e; omega
      · exact h3
    split at hj
    · rename_i hz
      rcases List.mem_append.1 hj with hj | hj
      · exact old j hj
      · simp at hj; subst hj
        refine ⟨i, hi, rfl, ?_⟩
        rw [getD_set (by rw [h.ll]; exact hi), if_pos rfl]; omega
    · exact old j hj
  · split
    · rename_i hz
      rw [List.nodup_append]
      refine ⟨h.nd, by simp, ?_⟩
      intro a ha b hb e
      simp at hb; subst hb; subst e
      obtain ⟨i0, h1, h2, h3⟩ := h.rd _ ha
      have : i = i0 := by omega
      subst this
      omega
    · exact h.nd
  · intro j
    rw [getD_set (by rw [h.lo]; exact hi)]
    have h1 := h.bo j
    have h2 := h.bo i
    have h3 := h.bo n
    split
    · rename_i e
      omega
    · omega
  · intro j
    rw [getD_set (by rw [h.ll]; exact hi)]
    have h1 := h.bl j
    have h2 := h.bl i
    split <;> omega

theorem LI.fold {N : Nat} {c : Cir} {n : Nat} : ∀ {r : Row} {s : LS} {M : Nat}, LI N M s → (∀ p ∈ r, ∃ i : Nat, i < N ∧ p.1 = i) → LI N (M + r.length) (r.foldl (stepL c n) s)
  | [], _, _, h, _ => h
  | p :: r, s, M, h, hr => by
    obtain ⟨i, hi, he⟩ := hr p List.mem_cons_self
    obtain ⟨p1, p2⟩ := p
    simp only at he; subst he
    have := LI.fold (c := c) (n := n) (h.step (c := c) (n := n) (k := p2) hi) fun q hq => hr q (List.mem_cons_of_mem _ hq)
    simp only [List.foldl_cons, List.length_cons]
    rw [show M + (r.length + 1) = M + 1 + r.length by omega]
    exact this

theorem rdyFrom_in : ∀ (l : List Nd) (i : Nat), (∀ j ∈ rdyFrom l i, ∃ a : Nat, i ≤ a ∧ a < i + l.length ∧ j = a ∧ (l.map leftOf).getD (a - i) 0 = 0) ∧ (rdyFrom l i).Nodup
  | [], _ => ⟨fun j h => (by cases h), List.nodup_nil⟩
  | x :: l, i => by
    obtain ⟨h1, h2⟩ := rdyFrom_in l (i + 1)
    have h3 : ∀ j ∈ rdyFrom l (i + 1), ∃ a : Nat, i ≤ a ∧ a < i + (l.length + 1) ∧ j = a ∧ ((x :: l).map leftOf).getD (a - i) 0 = 0 := by
      intro j hj
      obtain ⟨a, e1, e2, e3, e4⟩ := h1 j hj
      refine ⟨a, by omega, by omega, e3, ?_⟩
      rw [show a - i = (a - (i + 1)) + 1 by omega]
      simpa using e4
    simp only [rdyFrom, List.length_cons]
    split
    · rename_i hz
      refine ⟨fun j hj => ?_, ?_⟩
      · rcases List.mem_cons.1 hj with rfl | hj
        · exact ⟨i, by omega, by omega, rfl, by simp [hz]⟩
        · exact h3 j hj
      · rw [List.nodup_cons]
        refine ⟨fun hm => ?_, h2⟩
        obtain ⟨a, e1, _, e3, _⟩ := h1 _ hm
        omega
    · exact ⟨h3, h2⟩

theorem initL_ok (c : Cir) (hi : ∀ x ∈ c.nodes.l, x.inn.l.length ≤ 16) : LI c.nodes.l.length 0 (initL c) := by
  obtain ⟨h1, h2⟩ := rdyFrom_in c.nodes.l 0
  refine ⟨by simp [initL], by simp [initL], fun j hj => ?_, h2, fun i => ?_, fun i => ?_⟩
  · obtain ⟨a, _, e2, e3, e4⟩ := h1 j hj
    exact ⟨a, by omega, e3, by simp only [Nat.sub_zero] at e4; simp only [initL]; omega⟩
  · simp only [initL, List.getD, List.getElem?_replicate]
    split <;> simp
  · simp only [initL, List.getD, List.getElem?_map]
    cases hx : c.nodes.l[i]? with
    | none => simp
    | some x =>
      have := hi x (List.mem_of_getElem? hx)
      simp only [Option.map_some, Option.getD_some, leftOf]
      split <;> simp <;> omega
end Go.Lg

/- The levels of a circuit: the walk. Conditions: none. -/
set_option linter.unusedSimpArgs false
set_option linter.unusedVariables false
set_option maxRecDepth 100000
namespace Go.Lg
open Go Go.Proofs
variable {Γ : Tables}

theorem enc1_get_set {α : Type} {f : α → T} {l : List α} {j : Nat} {x : α} (h : j < l.length) : (enc1 f (l.set j x))[j]?.getD [] = [f x] := by simp [enc1, h]
theorem tLn_get {r : Row} {i : Nat} (h : i < r.length) : (encN tLn r)[i]?.getD [] = tLn r[i] := by simp [encN, h]

/-- Where the levels, the counts and the nodes that are ready lie. -/
def lsH (s : LS) : List (Nat × Reg) := [(23, .sl 3 1 (ints s.out)), (27, .sl 3 1 (ints s.left)), (53, .sl 3 1 (ints s.rdy))]

theorem lines_loop {Q : AX → St → Prop} (c : Cir) (hc : CirOk c) (hn : c.nodes.l.length ≤ 16384) (n : Nat) (hnn : n < c.nodes.l.length) (d : Int) (r : Row) (nl : Option Bool) (hr : r.length ≤ 262144) (hin : ∀ p ∈ r, ∃ i : Nat, i < c.nodes.l.length ∧ p.1 = i) (fan : T) (S : LS)
    (h0 : Q (.exit 4) ⟨[(1, .t (.ip (tC c) 0)), (5, .ls 23 0 c.nodes.l.length none), (6, .ls 27 0 c.nodes.l.length none), (7, .ls 53 0 S.rdy.length none), (10, .t fan), (11, .t (tI d)), (12, .t (tI n)), (76, .t (.sl (encN tLn r) (some r.length) nl)), (77, .t (tI r.length)), (78, .t (tI r.length)), (79, .t (tB false))], lsH S⟩) :
    ∀ (kk k : Nat) (s : LS) (M : Nat), kk + k = r.length → LI c.nodes.l.length M s → M + kk ≤ 4611686018427387904 → (r.drop k).foldl (stepL c n) s = S →
    run Tryd.prog Γ netlists_Levels_l3 Q ⟨[(1, .t (.ip (tC c) 0)), (5, .ls 23 0 c.nodes.l.length none), (6, .ls 27 0 c.nodes.l.length none), (7, .ls 53 0 s.rdy.length none), (10, .t fan), (11, .t (tI d)), (12, .t (tI n)), (76, .t (.sl (encN tLn r) (some r.length) nl)), (77, .t (tI r.length)), (78, .t (tI k))], lsH s⟩
  | 0, k, s, M, h, hI, hM, hS => by
    refine netlists_Levels_l3_run fun K hK => ?_
    have h2 : ¬ k < r.length := by omega
    have h3 : k = r.length := by omega
    simp [h2, lsH]
    subst h3
    rw [List.drop_of_length_le (Nat.le_refl _)] at hS
    simp only [List.foldl_nil] at hS
    subst hS
    exact h0
  | kk + 1, k, s, M, h, hI, hM, hS => by
    refine netlists_Levels_l3_run fun K hK => ?_
    have h2 : k < r.length := by omega
    rw [List.drop_eq_getElem_cons h2] at hS
    simp only [List.foldl_cons] at hS
    obtain ⟨j, hj, hpj⟩ := hin _ (List.getElem_mem h2)
    have hstep := hI.step (c := c) (n := n) (k := r[k].2) hj
    have hpair : r[k] = ((j : Int), r[k].2) := by rw [← hpj]
    rw [hpair] at hS
    generalize r[k].2 = q at hS hstep hpair
    have e := comb_spec (Γ := Γ) c.nodes.l[j].k
    have hkind : kindAt c j = c.nodes.l[j].k := by simp [kindAt, hj]
    simp (disch := omega) [h2, lsH, encN_len, tLn_get h2, tLn_wid, hpair, tLn, tC, tNodes, encN_get Nd.d, tNd_wid, tNd, tSl, hj]
    refine callK_fresh e rfl ?_
    by_cases hcb : combB c.nodes.l[j].k = true
    case neg =>
      have hcb' : decide (1 ≤ c.nodes.l[j].k ∧ c.nodes.l[j].k ≤ 13) = false := by simpa [combB] using hcb
      have hcb2 : combB (kindAt c j) = false := by rw [hkind]; exact hcb'
      have hst : stepL c n s ((j : Int), q) = s := by unfold stepL; simp [hcb2]
      rw [hst] at hS hstep
      rw [hcb']
      simp (disch := omega) [wrap_i64]
      rw [hK]
      have := lines_loop c hc hn n hnn d r nl hr hin fan S h0 kk (k + 1) s (M + 1) (by omega) hstep (by omega) hS
      simpa [lsH, tC, tNodes, tSl] using this
    have hcb' : decide (1 ≤ c.nodes.l[j].k ∧ c.nodes.l[j].k ≤ 13) = true := by simpa [combB] using hcb
    have hcb2 : combB (kindAt c j) = true := by rw [hkind]; exact hcb'
    rw [hcb']
    have ho := hI.lo
    have hll := hI.ll
    have b1 := hI.bo n
    have b2 := hI.bo j
    have b3 := hI.bl j
    have hrl := hI.len
    have hst : stepL c n s ((j : Int), q) = ⟨s.out.set j (max (s.out.getD j 0) (s.out.getD n 0 + 1)), s.left.set j (s.left.getD j 0 - 1), if s.left.getD j 0 - 1 = 0 then s.rdy ++ [(j : Int)] else s.rdy⟩ := by
      unfold stepL; simp [hcb2]
    have hw : wid 1 [[tI (j : Int)]] := by intro e he; simp at he; subst he; rfl
    have hmax : max (s.out.getD j 0) (s.out.getD n 0 + 1) = if s.out.getD j 0 < s.out.getD n 0 + 1 then s.out.getD n 0 + 1 else s.out.getD j 0 := by
      split <;> omega
    have ih := fun S2 (e : S2 = stepL c n s ((j : Int), q)) => lines_loop c hc hn n hnn d r nl hr hin fan S h0 kk (k + 1) S2 (M + 1) (by omega) (e ▸ hstep) (by omega) (e ▸ hS)
    have ljo : j < s.out.length := by omega
    have lno : n < s.out.length := by omega
    have ljl : j < s.left.length := by omega
    simp only [List.getD, List.getElem?_eq_getElem ljo, List.getElem?_eq_getElem lno, List.getElem?_eq_getElem ljl, Option.getD_some] at b1 b2 b3 hst hmax
    have b1a := b1.1
    have b1b := b1.2
    have b2a := b2.1
    have b2b := b2.2
    have b3a := b3.1
    have b3b := b3.2
    simp (disch := omega) [wrap_i64, enc1_len, enc1_get (0 : Int), enc1_wid, enc1_set, ljo, lno, ljl, hj, hnn]
    rw [show (if s.out[j] < s.out[n] + 1 then s.out[n] + 1 else s.out[j]) = max s.out[j] (s.out[n] + 1) from hmax.symm]
    by_cases hz : s.left[j] - 1 = 0
    · rw [if_pos hz] at hst
      have ih' := ih _ hst.symm
      simp (disch := omega) [hz, wrap_i64, enc1_len, enc1_wid, hw, enc1_get_set]
      refine ⟨by omega, ?_⟩
      rw [hK]
      rw [enc1_snoc (f := tI) (x := (j : Int))]
      simpa [lsH, tC, tNodes, tSl, hz] using ih'
    · rw [if_neg hz] at hst
      have ih' := ih _ hst.symm
      simp (disch := omega) [hz, wrap_i64, enc1_get_set, enc1_wid]
      rw [hK]
      simpa [lsH, tC, tNodes, tSl] using ih'
end Go.Lg

/- The levels of a circuit: the contract. Conditions: none. -/
set_option linter.unusedSimpArgs false
set_option linter.unusedVariables false
set_option maxRecDepth 100000
namespace Go.Lg
open Go Go.Proofs
variable {Γ : Tables}

theorem main_loop {Q : AX → St → Prop} (c : Cir) (hc : CirOk c) (hn : c.nodes.l.length ≤ 16384) (hi : ∀ x ∈ c.nodes.l, x.inn.l.length ≤ 16) (R : Nat × LS)
    (h0 : Q (.exit 2) ⟨[(1, .t (.ip (tC c) 0)), (5, .ls 23 0 c.nodes.l.length none), (6, .ls 27 0 c.nodes.l.length none), (7, .ls 53 0 R.2.rdy.length none), (10, .t (tFan (fanRows c))), (11, .t (tI R.1)), (60, .t (tB false))], lsH R.2⟩) :
    ∀ (f d : Nat) (s : LS) (M : Nat), f + d = c.nodes.l.length + 1 → LI c.nodes.l.length M s → M = d * 262144 → mainL c f d s = R →
    run Tryd.prog Γ netlists_Levels_l5 Q ⟨[(1, .t (.ip (tC c) 0)), (5, .ls 23 0 c.nodes.l.length none), (6, .ls 27 0 c.nodes.l.length none), (7, .ls 53 0 s.rdy.length none), (10, .t (tFan (fanRows c))), (11, .t (tI d))], lsH s⟩
  | 0, d, s, M, h, hI, hM, hR => by
    refine netlists_Levels_l5_run fun K hK => ?_
    have hlen := hI.len
    have h2 : ¬ d < s.rdy.length := by omega
    simp [h2, lsH]
    simp only [mainL] at hR
    subst hR
    exact h0
  | f + 1, d, s, M, h, hI, hM, hR => by
    refine netlists_Levels_l5_run fun K hK => ?_
    have hlen := hI.len
    by_cases h2 : d < s.rdy.length
    case neg =>
      simp [h2, lsH]
      simp only [mainL, h2, ↓reduceIte] at hR
      subst hR
      exact h0
    simp only [mainL, h2, ↓reduceIte] at hR
    obtain ⟨j, hj, he, hz⟩ := hI.rd _ (List.getElem_mem h2)
    have hgd : s.rdy.getD d 0 = (j : Int) := by simp [h2, he]
    rw [hgd] at hR
    simp only [Int.toNat_natCast] at hR
    have hfr := fanRows_len c
    have hrl : rowOf c j ∈ fanRows c := by
      have e : rowOf c j = (fanRows c)[j]'(by omega) := by simp [rowOf, hfr, hj]
      rw [e]; exact List.getElem_mem _
    have hin := fanRows_in c _ hrl
    have hrb := fanRows_rb c hn hi _ hrl
    have hfold := hI.fold (c := c) (n := j) hin
    have hel : (fanRows c)[j]? = some (rowOf c j) := by
      have hlt : j < (fanRows c).length := by omega
      simp [rowOf, hlt]
    have hrt : rowTC (rowOf c j) = .sl (encN tLn (rowOf c j)) (some (rowOf c j).length) (if rowOf c j = [] then some true else none) := rfl
    have hg1 : (enc1 rowTC (fanRows c))[j]?.getD [] = [rowTC (rowOf c j)] := by simp [enc1, hel]
    have hM2 : LI c.nodes.l.length ((d + 1) * 262144) ((rowOf c j).foldl (stepL c j) s) := ⟨hfold.lo, hfold.ll, hfold.rd, hfold.nd, fun i => ⟨(hfold.bo i).1, by have := (hfold.bo i).2; omega⟩, fun i => ⟨by have := (hfold.bl i).1; omega, (hfold.bl i).2⟩⟩
    have ih := main_loop c hc hn hi R h0 f (d + 1) _ _ (by omega) hM2 rfl hR
    have hrdy : (s.rdy)[d]?.getD 0 = (j : Int) := by simpa using hgd
    simp (disch := omega) [h2, lsH, enc1_len, enc1_get (0 : Int), enc1_wid, wrap_i64, he, tFan, hfr, hj, hg1, hrt, encN_len]
    by_cases hr0 : (rowOf c j).length = 0
    · have hr0' : rowOf c j = [] := List.eq_nil_of_length_eq_zero hr0
      simp [hr0', Later]
      rw [hK]
      rw [hr0'] at ih
      simp only [List.foldl_nil, tFan, hfr, lsH] at ih
      exact_mod_cast ih
    · have hr0' : ¬ rowOf c j = [] := fun e => hr0 (by simp [e])
      simp (disch := omega) [Later, hr0', lsH, enc1_len, enc1_get (0 : Int), enc1_wid, wrap_i64, he, tFan, hfr, hj, hg1, hrt, encN_len]
      refine lines_loop c hc hn j hj ((d : Int) + 1) (rowOf c j) _ (by omega) hin _ _ ?_ (rowOf c j).length 0 s M (by omega) hI (by omega) rfl
      simp [lsH]
      rw [hK]
      simp only [tFan, hfr, lsH] at ih
      exact_mod_cast ih

theorem rdyFrom_snoc (x : Nd) : ∀ (l : List Nd) (i : Nat), rdyFrom (l ++ [x]) i = if leftOf x = 0 then rdyFrom l i ++ [((i + l.length : Nat) : Int)] else rdyFrom l i
  | [], i => by simp [rdyFrom]
  | y :: l, i => by
    have := rdyFrom_snoc x l (i + 1)
    simp only [List.cons_append, rdyFrom, this, List.length_cons]
    rw [show i + 1 + l.length = i + (l.length + 1) by omega]
    split <;> split <;> rfl
theorem rdyFrom_len : ∀ (l : List Nd) (i : Nat), (rdyFrom l i).length ≤ l.length
  | [], _ => by simp [rdyFrom]
  | x :: l, i => by
    have := rdyFrom_len l (i + 1)
    simp only [rdyFrom]
    split <;> simp <;> omega

/-- The counts as far as they are laid. -/
def leftAt (c : Cir) (i : Nat) : List Int := (c.nodes.l.take i).map leftOf ++ List.replicate (c.nodes.l.length - i) 0
theorem leftAt_len {c : Cir} {i : Nat} (h : i ≤ c.nodes.l.length) : (leftAt c i).length = c.nodes.l.length := by simp [leftAt]; omega
theorem leftAt_set {c : Cir} {i : Nat} (h : i < c.nodes.l.length) : (leftAt c i).set i (leftOf c.nodes.l[i]) = leftAt c (i + 1) := by
  unfold leftAt
  have e1 : ((c.nodes.l.take i).map leftOf).length = i := by simp; omega
  rw [List.set_append_right _ _ (by rw [e1]; exact Nat.le_refl i), e1, Nat.sub_self]
  rw [show c.nodes.l.length - i = (c.nodes.l.length - (i + 1)) + 1 by omega, List.replicate_succ, List.set_cons_zero]
  have e3 : (c.nodes.l.map leftOf).take (i + 1) = (c.nodes.l.map leftOf).take i ++ [leftOf c.nodes.l[i]] := by rw [List.take_add_one]; simp [h]
  simp [e3]
theorem leftAt_same {c : Cir} {i : Nat} (h : i < c.nodes.l.length) (h0 : leftOf c.nodes.l[i] = 0) : leftAt c i = leftAt c (i + 1) := by
  unfold leftAt
  rw [show c.nodes.l.length - i = (c.nodes.l.length - (i + 1)) + 1 by omega, List.replicate_succ]
  have e3 : (c.nodes.l.map leftOf).take (i + 1) = (c.nodes.l.map leftOf).take i ++ [leftOf c.nodes.l[i]] := by rw [List.take_add_one]; simp [h]
  simp [e3, h0]
theorem leftAt_get {c : Cir} {i : Nat} (h : i < c.nodes.l.length) : (leftAt c i)[i]?.getD 0 = 0 := by
  unfold leftAt
  have e1 : ((c.nodes.l.take i).map leftOf).length = i := by simp; omega
  rw [List.getElem?_append_right (by rw [e1]; exact Nat.le_refl i), e1, Nat.sub_self]
  rw [show c.nodes.l.length - i = (c.nodes.l.length - (i + 1)) + 1 by omega, List.replicate_succ]
  rfl

theorem init_loop {Q : AX → St → Prop} (c : Cir) (hn : c.nodes.l.length ≤ 16384) (hi : ∀ x ∈ c.nodes.l, x.inn.l.length ≤ 16) (out : List Int)
    (h0 : Q (.exit 0) ⟨[(1, .t (.ip (tC c) 0)), (5, .ls 23 0 c.nodes.l.length none), (6, .ls 27 0 c.nodes.l.length none), (7, .ls 53 0 (rdyFrom c.nodes.l 0).length none), (29, .t (tNodes c.nodes)), (30, .t (tI c.nodes.l.length)), (31, .t (tI c.nodes.l.length)), (32, .t (tB false))], [(23, .sl 3 1 (ints out)), (27, .sl 3 1 (ints (c.nodes.l.map leftOf))), (53, .sl 3 1 (ints (rdyFrom c.nodes.l 0)))]⟩) :
    ∀ (kk i : Nat), kk + i = c.nodes.l.length →
    run Tryd.prog Γ netlists_Levels_l1 Q ⟨[(1, .t (.ip (tC c) 0)), (5, .ls 23 0 c.nodes.l.length none), (6, .ls 27 0 c.nodes.l.length none), (7, .ls 53 0 (rdyFrom (c.nodes.l.take i) 0).length none), (29, .t (tNodes c.nodes)), (30, .t (tI c.nodes.l.length)), (31, .t (tI i))], [(23, .sl 3 1 (ints out)), (27, .sl 3 1 (ints (leftAt c i))), (53, .sl 3 1 (ints (rdyFrom (c.nodes.l.take i) 0)))]⟩
  | 0, i, h => by
    refine netlists_Levels_l1_run fun K hK => ?_
    have h2 : ¬ i < c.nodes.l.length := by omega
    have h3 : i = c.nodes.l.length := by omega
    simp [h2]
    subst h3
    simpa [leftAt] using h0
  | kk + 1, i, h => by
    refine netlists_Levels_l1_run fun K hK => ?_
    have h2 : i < c.nodes.l.length := by omega
    have hx := hi _ (List.getElem_mem h2)
    have ht : c.nodes.l.take (i + 1) = c.nodes.l.take i ++ [c.nodes.l[i]] := by rw [List.take_add_one]; simp [h2]
    have htl : (c.nodes.l.take i).length = i := by simp; omega
    have hrl := rdyFrom_len (c.nodes.l.take i) 0
    have hll := leftAt_len (c := c) (i := i) (by omega)
    have hll1 := leftAt_len (c := c) (i := i + 1) (by omega)
    have hsn := rdyFrom_snoc c.nodes.l[i] (c.nodes.l.take i) 0
    rw [← ht, htl, Nat.zero_add] at hsn
    have e := comb_spec (Γ := Γ) c.nodes.l[i].k
    have ih := init_loop c hn hi out h0 kk (i + 1) (by omega)
    have hw : wid 1 [[tI (i : Int)]] := by intro e he; simp at he; subst he; rfl
    simp (disch := omega) [h2, encN_len, encN_get Nd.d, tNd_wid, tNodes, tNd, tSl, -netlists_Levels_r12]
    refine callK_fresh e rfl ?_
    have tail : ∀ (lf : List Int), lf = leftAt c (i + 1) → run Tryd.prog Γ (.seq (.reg netlists_Levels_r12 [.keep [1, 5, 6, 7, 8, 29, 30, 31, 49] [23, 27, 53]]) (.cond (.tmp 49) (.reg netlists_Levels_r13 [.keep [1, 5, 6, 7, 29, 30, 31] [23, 27, 53]]) .skip))
        (blockX 1 (thenX (run Tryd.prog Γ (.reg netlists_Levels_r14 [.keep [1, 5, 6, 7, 29, 30, 31] [23, 27, 53]]) (thenX (fun s => thenX K Q .normal (ghs [.keep [1, 5, 6, 7, 29, 30, 31] [23, 27, 53]] s)) (thenX K Q))) (thenX (fun s => thenX K Q .normal (ghs [.keep [1, 5, 6, 7, 29, 30, 31] [23, 27, 53]] s)) (thenX K Q))))
        ⟨[(1, .t (.ip (tC c) 0)), (5, .ls 23 0 c.nodes.l.length none), (6, .ls 27 0 c.nodes.l.length none), (7, .ls 53 0 (rdyFrom (c.nodes.l.take i) 0).length none), (8, .t (tI i)), (29, .t (tNodes c.nodes)), (30, .t (tI c.nodes.l.length)), (31, .t (tI i))], [(23, .sl 3 1 (ints out)), (27, .sl 3 1 (ints lf)), (53, .sl 3 1 (ints (rdyFrom (c.nodes.l.take i) 0)))]⟩ := by
      rintro lf rfl
      have hget : (leftAt c (i + 1))[i]?.getD 0 = leftOf c.nodes.l[i] := by
        rw [← leftAt_set h2]
        simp [hll, h2]
      have hge := hget
      rw [List.getElem?_eq_getElem (by rw [hll1]; exact h2), Option.getD_some] at hge
      by_cases hz : leftOf c.nodes.l[i] = 0
      · rw [if_pos hz] at hsn
        simp (disch := omega) [h2, enc1_len, enc1_get (0 : Int), enc1_wid, hll1, hge, hz, hw, wrap_i64]
        refine ⟨by omega, ?_⟩
        rw [hK]
        rw [hsn] at ih
        rw [enc1_snoc (f := tI) (x := (i : Int))]
        simpa using ih
      · rw [if_neg hz] at hsn
        simp (disch := omega) [h2, enc1_len, enc1_get (0 : Int), enc1_wid, hll1, hge, hz, wrap_i64]
        rw [hK]
        rw [hsn] at ih
        exact_mod_cast ih
    by_cases hcb : combB c.nodes.l[i].k = true
    · have hcb' : decide (1 ≤ c.nodes.l[i].k ∧ c.nodes.l[i].k ≤ 13) = true := by simpa [combB] using hcb
      have hlo : leftOf c.nodes.l[i] = c.nodes.l[i].inn.l.length := by simp [leftOf, hcb]
      rw [hcb']
      have := tail ((leftAt c i).set i c.nodes.l[i].inn.l.length) (by rw [← hlo]; exact leftAt_set h2)
      simp (disch := omega) [h2, enc1_len, enc1_wid, hll, enc1_set, -netlists_Levels_r12]
      exact this
    · have hcb' : decide (1 ≤ c.nodes.l[i].k ∧ c.nodes.l[i].k ≤ 13) = false := by simpa [combB] using hcb
      have hlo : leftOf c.nodes.l[i] = 0 := by simp [leftOf, hcb]
      rw [hcb', leftAt_same h2 hlo]
      rw [if_pos hlo] at hsn
      have hge : (leftAt c (i + 1))[i]'(by rw [hll1]; exact h2) = 0 := by
        have hget : (leftAt c (i + 1))[i]?.getD 0 = leftOf c.nodes.l[i] := by
          rw [← leftAt_set h2]
          simp [hll, h2]
        rw [List.getElem?_eq_getElem (by rw [hll1]; exact h2), Option.getD_some] at hget
        rw [hget, hlo]
      simp (disch := omega) [h2, enc1_len, enc1_get (0 : Int), enc1_wid, hll1, hge, hw, wrap_i64]
      refine ⟨by omega, ?_⟩
      rw [hK]
      rw [hsn] at ih
      rw [enc1_snoc (f := tI) (x := (i : Int))]
      simpa [tNodes] using ih

/-- What Levels hands back: the levels and the error. -/
def levErr (c : Cir) : Int := if shapeErr c ≠ 0 then shapeErr c else if (endL c).1 < c.nodes.l.length then 6 else 0

theorem fan_le (k : Int) : (fan k).2 ≤ 16 := by
  unfold fan
  split
  · decide
  · have : ∀ n : Nat, (fanL.getD n (0, 0)).2 ≤ 16 := by
      intro n
      by_cases h : n < 16
      · have : n = 0 ∨ n = 1 ∨ n = 2 ∨ n = 3 ∨ n = 4 ∨ n = 5 ∨ n = 6 ∨ n = 7 ∨ n = 8 ∨ n = 9 ∨ n = 10 ∨ n = 11 ∨ n = 12 ∨ n = 13 ∨ n = 14 ∨ n = 15 := by omega
        rcases this with rfl | rfl | rfl | rfl | rfl | rfl | rfl | rfl | rfl | rfl | rfl | rfl | rfl | rfl | rfl | rfl <;> decide
      · rw [List.getD, List.getElem?_eq_none (by simp [fanL]; omega)]; decide
    exact this _

theorem firstErr_zero {α : Type} {f : α → Int} : ∀ {l : List α}, firstErr (l.map f) = 0 → ∀ x ∈ l, f x = 0
  | [], _, x, h => by cases h
  | y :: l, h, x, hx => by
    simp only [List.map_cons, firstErr] at h
    split at h
    · rename_i hy; exact absurd h hy
    · rename_i hy
      rcases List.mem_cons.1 hx with rfl | hx
      · simpa using hy
      · exact firstErr_zero h x hx

theorem shape_facts {c : Cir} (h : shapeErr c = 0) : c.nodes.l.length ≤ 16384 ∧ (∀ x ∈ c.nodes.l, x.inn.l.length ≤ 16) ∧ (∀ x ∈ c.nodes.l, nodeErr c x = 0) ∧ c.mems.l.length ≤ 16 := by
  unfold shapeErr at h
  split at h
  · cases h
  rename_i h1
  split at h
  · cases h
  split at h
  · rename_i h2; exact absurd h h2
  rename_i h2
  have h3 := firstErr_zero (by simpa using h2)
  refine ⟨by omega, fun x hx => ?_, h3, by omega⟩
  have h4 := h3 x hx
  have h5 := fan_le x.k
  unfold nodeErr at h4
  split at h4
  · cases h4
  split at h4
  · cases h4
  rename_i h6
  omega

theorem levels_spec (hΓ : GOk Γ) (c : Cir) (hc : CirOk c) (ha : ∀ s ∈ c.names.l, ∀ b ∈ s, b < 128) :
    FreshCalls Tryd.prog Γ 45 [.agg (tC c)] (.tup [if levErr c = 0 then .sl (ints (endL c).2.out) none none else .sl [] (some 0) (some true), tI (levErr c)]) := by
  refine run_freshQ netlists_Levels_chk rfl ?_
  have e1 := shape_spec hΓ c hc ha
  simp [netlists_Levels_ic, tC, tNodes, tNames, tMems, tSl]
  refine callK_fresh e1 rfl ?_
  by_cases h1 : shapeErr c = 0
  case neg =>
    have : levErr c = shapeErr c := by unfold levErr; rw [if_pos h1]
    simp [h1, netlists_Levels_rv, this]
  obtain ⟨hn, hi, _⟩ := shape_facts h1
  have e2 := fanout_spec (Γ := Γ) c hn hi
  have hl0 : levErr c = if (endL c).1 < c.nodes.l.length then 6 else 0 := by unfold levErr; rw [if_neg (show ¬ (shapeErr c ≠ 0) by simp [h1])]
  simp (disch := omega) [h1, encN_len, wrap_i64]
  refine ⟨by omega, ?_⟩
  have e0 : List.replicate c.nodes.l.length [T.v (Value.int .i64 0)] = ints (List.replicate c.nodes.l.length 0) := by simp [enc1]
  rw [e0]
  have hl := fun Q h0 => init_loop (Γ := Γ) (Q := Q) c hn hi (List.replicate c.nodes.l.length 0) h0 c.nodes.l.length 0 (by omega)
  have el0 : leftAt c 0 = List.replicate c.nodes.l.length 0 := by simp [leftAt]
  simp only [el0, rdyFrom, List.take_zero, List.length_nil] at hl
  refine hl _ ?_
  simp [tC, tNodes, tNames, tMems, tSl]
  refine callK_pure e2 rfl ?_
  have hI := initL_ok c hi
  have hm := fun Q h0 => main_loop (Γ := Γ) (Q := Q) c hc hn hi (endL c) h0 (c.nodes.l.length + 1) 0 (initL c) 0 (by omega) hI (by omega) rfl
  simp
  refine hm _ ?_
  have hend : (endL c).1 < c.nodes.l.length ↔ ((endL c).1 : Int) < c.nodes.l.length := by omega
  have hol : (endL c).2.out.length = c.nodes.l.length := by
    have : ∀ (f d : Nat) (s : LS), s.out.length = c.nodes.l.length → (mainL c f d s).2.out.length = c.nodes.l.length := by
      intro f
      induction f with
      | zero => intro d s h; exact h
      | succ f ih =>
        intro d s h
        simp only [mainL]
        split
        · refine ih _ _ ?_
          have : ∀ (r : Row) (n : Nat) (s : LS), s.out.length = c.nodes.l.length → (r.foldl (stepL c n) s).out.length = c.nodes.l.length := by
            intro r n
            induction r with
            | nil => intro s h; exact h
            | cons p r ih2 =>
              intro s h
              rw [List.foldl_cons]
              refine ih2 _ ?_
              unfold stepL
              split
              · simp [h]
              · exact h
          exact this _ _ _ h
        · exact h
    exact this _ _ _ hI.lo
  by_cases h2 : (endL c).1 < c.nodes.l.length
  · rw [if_pos h2] at hl0
    have h2' := hend.1 h2
    simp [lsH, tC, tNodes, encN_len, h2', netlists_Levels_rv, hl0]
  · rw [if_neg h2] at hl0
    have h2' : ¬ ((endL c).1 : Int) < c.nodes.l.length := fun h => h2 (hend.2 h)
    have ht : (ints (endL c).2.out).take c.nodes.l.length = ints (endL c).2.out := by rw [← hol]; simp
    simp [lsH, tC, tNodes, encN_len, h2, h2', netlists_Levels_rv, hl0, ht]
end Go.Lg
