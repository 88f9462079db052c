/- ScansBalance. Conditions: none. -/
import Derived.Test.YtgnghiijbegacaaDoorPkE
import Derived.Test.YtgnghiijbegacaaDoorPkC
import Derived.Test.YtgnghiijbegacaaDoorProg
import Derived.KernelRfl
set_option linter.unusedSimpArgs false
set_option linter.unusedVariables false
set_option maxRecDepth 100000
namespace Go.Lg
open Go Go.Proofs
variable {Γ : Tables}

theorem elems_at : ∀ (l : List (Sl Int)) (i k : Nat) (hi : i < l.length) (hk : k < l[i].l.length), ∃ h : (elems (l.take i)).length + k < (elems l).length, (elems l)[(elems (l.take i)).length + k] = l[i].l[k]
  | [], i, _, hi, _ => by simp at hi
  | s :: l, 0, k, hi, hk => by
    simp only [List.getElem_cons_zero] at hk
    refine ⟨by simp [elems_cons, elems_nil]; omega, ?_⟩
    simp only [elems_cons, List.take_zero, elems_nil, List.length_nil, Nat.zero_add, List.getElem_cons_zero]
    exact List.getElem_append_left hk
  | s :: l, i + 1, k, hi, hk => by
    simp only [List.getElem_cons_succ] at hk
    obtain ⟨h, e⟩ := elems_at l i k (by simpa using hi) hk
    simp only [List.take_succ_cons, elems_cons, List.length_append, List.getElem_cons_succ]
    refine ⟨by omega, ?_⟩
    rw [List.getElem_append_right (by omega)]
    simp only [← e]
    congr 1
    omega
theorem elems_take (l : List (Sl Int)) (i : Nat) (hi : i < l.length) : (elems (l.take (i + 1))).length = (elems (l.take i)).length + l[i].l.length := by
  have : elems (l.take (i + 1)) = elems (l.take i) ++ l[i].l := by
    rw [List.take_add_one, List.getElem?_eq_getElem hi]
    unfold elems
    rw [List.map_append, List.flatten_append]
    simp
  rw [this, List.length_append]

theorem bl_inner {Q : AX → St → Prop} (l : List (Sl Int)) (cap : Option Nat) (nl : Option Bool) (st : List Int) (scap : Option Nat) (snl : Option Bool) (hst : st.length ≤ 1000000000) (i : Nat) (hi : i < l.length) (a : Nat) (ha : a + l[i].l.length ≤ st.length) (hm : ∀ k (h : k < l[i].l.length), ∃ h' : a + k < st.length, st[a + k] = l[i].l[k])
    (h0 : Q (.exit 2) ⟨[(6, .t (.sl (enc1 tSl l) cap nl)), (9, .t (.sl (ints st) scap snl)), (10, .t (tI (a + l[i].l.length : Nat))), (11, .t (tI i)), (12, .t (tI l[i].l.length)), (117, .t (tB false))], []⟩) : ∀ (kk k : Nat), kk + k = l[i].l.length →
    run Tryd.prog Γ law34_ScansBalance_l1 Q ⟨[(6, .t (.sl (enc1 tSl l) cap nl)), (9, .t (.sl (ints st) scap snl)), (10, .t (tI (a + k : Nat))), (11, .t (tI i)), (12, .t (tI k))], []⟩
  | 0, k, h => by
    refine law34_ScansBalance_l1_run fun K hK => ?_
    have h2 : ¬ k < l[i].l.length := by omega
    have h3 : k = l[i].l.length := by omega
    simp (disch := omega) [h2, enc1_len, enc1_get Sl.d, enc1_wid, tSl, hi]
    subst h3
    simpa [tSl] using h0
  | kk + 1, k, h => by
    refine law34_ScansBalance_l1_run fun K hK => ?_
    have h2 : k < l[i].l.length := by omega
    obtain ⟨h3, e⟩ := hm k h2
    have h4 : ¬ (st.length : Int) ≤ (a : Int) + k := by omega
    have h5 : ((a : Int) + k).toNat = a + k := by omega
    have h6 : (a : Int) + k < st.length := by omega
    have ih := bl_inner l cap nl st scap snl hst i hi a ha hm h0 kk (k + 1) (by omega)
    simp (disch := omega) [h2, enc1_len, enc1_get (0 : Int), enc1_get Sl.d, enc1_wid, tSl, hi, h3, h4, h5, h6, e, wrap_i64]
    refine ⟨by omega, ?_⟩
    rw [hK]
    simp [tSl] at ih
    exact_mod_cast ih

theorem bl_outer {Q : AX → St → Prop} (l : List (Sl Int)) (cap : Option Nat) (nl : Option Bool) (st : List Int) (scap : Option Nat) (snl : Option Bool) (hl : l.length ≤ 100000) (hst : st.length ≤ 1000000000) (hf : elems l = st) (hd : ∀ i (h : i + 1 < l.length), l[i + 1].l.length ≤ l[i].l.length) (hn : ∀ (h0 : 0 < l.length), ∀ s ∈ l, l[0].l.length ≤ s.l.length + 1)
    (h0 : Q (.exit 0) ⟨[(6, .t (.sl (enc1 tSl l) cap nl)), (9, .t (.sl (ints st) scap snl)), (10, .t (tI st.length)), (11, .t (tI l.length)), (79, .t (tB false))], []⟩) : ∀ (kk i : Nat), kk + i = l.length →
    run Tryd.prog Γ law34_ScansBalance_l3 Q ⟨[(6, .t (.sl (enc1 tSl l) cap nl)), (9, .t (.sl (ints st) scap snl)), (10, .t (tI (elems (l.take i)).length)), (11, .t (tI i))], []⟩
  | 0, i, h => by
    refine law34_ScansBalance_l3_run fun K hK => ?_
    have h2 : ¬ i < l.length := by omega
    have h3 : i = l.length := by omega
    simp (disch := omega) [h2, enc1_len]
    subst h3
    rw [List.take_length, hf]
    exact h0
  | kk + 1, i, h => by
    refine law34_ScansBalance_l3_run fun K hK => ?_
    have h2 : i < l.length := by omega
    have ih := bl_outer l cap nl st scap snl hl hst hf hd hn h0 kk (i + 1) (by omega)
    have ht := elems_take l i h2
    rw [ht] at ih
    obtain ⟨a, ha⟩ : ∃ a, a = (elems (l.take i)).length := ⟨_, rfl⟩
    have hm : ∀ k (h : k < l[i].l.length), ∃ h' : a + k < st.length, st[a + k] = l[i].l[k] := fun k hk => by
      subst ha hf; exact elems_at l i k h2 hk
    have hal : a + l[i].l.length ≤ st.length := by
      by_cases h5 : l[i].l.length = 0
      · have : (elems (l.take (i + 1))).length ≤ (elems l).length := by
          have := congrArg List.length (congrArg elems (List.take_append_drop (i + 1) l))
          simp only [elems, List.map_append, List.flatten_append, List.length_append] at this ⊢
          omega
        rw [hf, ht] at this
        omega
      · obtain ⟨h6, _⟩ := hm (l[i].l.length - 1) (by omega)
        omega
    obtain ⟨n, hnn⟩ : ∃ n, n = l[i].l.length := ⟨_, rfl⟩
    have hin := fun Q h5 => bl_inner (Γ := Γ) (Q := Q) l cap nl st scap snl hst i h2 a hal hm h5 n 0 hnn
    rw [← ha] at ih ⊢
    have hnear := hn (by omega) _ (List.getElem_mem h2)
    have h0l : 0 < l.length := by omega
    cases i with
    | zero =>
      simp (disch := omega) [h2, enc1_len, enc1_get Sl.d, enc1_wid, tSl, wrap_i64]
      refine hin _ ?_
      simp (disch := omega) [wrap_i64]
      rw [hK]
      simpa using ih
    | succ j =>
      have hj : j < l.length := by omega
      have hdj := hd j h2
      have g1 : ((j : Int) + 1 - 1) = j := by omega
      have g2 : ¬ (l[j].l.length : Int) < l[j + 1].l.length := by omega
      have g3 : ¬ ((l[j + 1].l.length : Nat) : Int) + (1 : Int) < ((l[0].l.length : Nat) : Int) := by omega
      have g4 : (0 : Int) < (j : Int) + 1 := by omega
      have g5 : (j : Int) + 1 < l.length := by omega
      have g6 : ((j : Int) + 1).toNat = j + 1 := by omega
      simp (disch := omega) [h2, hj, enc1_len, enc1_get Sl.d, enc1_wid, tSl, wrap_i64, g1, g2, g3, g4, g5, g6, h0l]
      refine ⟨by omega, hin _ ?_⟩
      simp (disch := omega) [wrap_i64]
      rw [hK]
      simpa using ih

theorem lawBalance_spec (hΓ : GOk Γ) (x : CD) (hx : CDOk x) (n : Int) : PureCalls Tryd.prog Γ 3 [.agg (tCD x), tI n] (tB true) := by
  refine run_pureQ law34_ScansBalance_chk rfl ?_
  have hc := ofC_ok hx
  have e1 := Of_spec (Γ := Γ) x hx
  generalize ofC x = c at *
  have e2 := Balance_spec hΓ c hc n
  have hcn := hc.nodes
  simp [law34_ScansBalance_ic, tCD]
  refine callK_pure e1 rfl ?_
  simp [tC, tNodes, tNames, tMems, tSl]
  refine callK_pure e2 rfl ?_
  simp
  obtain ⟨l, hl⟩ : ∃ l, l = if balErr c n = 0 then tChs ⟨bal c n, some (bal c n).length, none⟩ else .sl [] (some 0) (some true) := ⟨_, rfl⟩
  rw [← hl]
  refine callK_fresh (check_spec hΓ c hc) rfl ?_
  simp [-run_seq]
  refine run_cut fun K hK => ?_
  suffices hr : ∀ ex, ex = [] ∨ ex = [(37, AV.t (tB false))] → K ⟨[(1, .t (tI n)), (5, .lp 5 0 0), (6, .t l), (7, .t (tI (balErr c n))), (8, .t (tI (plainErr c)))] ++ ex, [(5, .bx [.t (.sl (encN tNd c.nodes.l) c.nodes.cap c.nodes.nl), .t (.sl (enc1 tS c.names.l) c.names.cap c.names.nl), .t (.sl (encN tMm c.mems.l) c.mems.cap c.mems.nl), .t (.sl (ints c.outs.l) c.outs.cap c.outs.nl)])]⟩ by
    by_cases h1 : levErr c = 0
    case neg =>
      have : plainErr c = levErr c := by unfold plainErr; rw [if_pos h1]
      rw [this] at hr
      simp [h1]
      exact hr _ (.inr rfl)
    have hp : plainErr c = if 0 < c.mems.l.length ∨ 0 < (mems c).length then 7 else 0 := by unfold plainErr; rw [if_neg (show ¬ (levErr c ≠ 0) by simp [h1])]
    by_cases h2 : 0 < c.mems.l.length
    · rw [if_pos (.inl h2)] at hp
      rw [hp] at hr
      simp [h1, encN_len, h2]
      exact hr _ (.inl rfl)
    · simp [h1, encN_len, h2]
      refine callK_fresh (of_one c hc 15) rfl ?_
      have hml : c.mems.l = [] := List.eq_nil_of_length_eq_zero (by omega)
      by_cases h3 : 0 < (ofL [15] c.nodes.l 0).length
      · rw [if_pos (show 0 < c.mems.l.length ∨ 0 < (mems c).length from .inr h3)] at hp
        rw [hp] at hr
        simp [enc1_len, h3]
        exact hr _ (.inl rfl)
      · have h3m : ¬ 0 < (mems c).length := h3
        rw [if_neg (show ¬ (0 < c.mems.l.length ∨ 0 < (mems c).length) by omega)] at hp
        rw [hp] at hr
        simp [enc1_len, h3, h1]
        exact hr _ (.inr rfl)
  intro ex hex
  rw [hK]
  clear hK K
  refine run_cut fun K hK => ?_
  suffices hr : ∀ ex, ex = [] ∨ ex = [(43, AV.t (tB false))] → K ⟨[(1, .t (tI n)), (5, .lp 5 0 0), (6, .t l), (7, .t (tI (balErr c n))), (8, .t (tI (if plainErr c ≠ 0 then plainErr c else if n < 1 then 1 else 0)))] ++ ex, [(5, .bx [.t (.sl (encN tNd c.nodes.l) c.nodes.cap c.nodes.nl), .t (.sl (enc1 tS c.names.l) c.names.cap c.names.nl), .t (.sl (encN tMm c.mems.l) c.mems.cap c.mems.nl), .t (.sl (ints c.outs.l) c.outs.cap c.outs.nl)])]⟩ by
    by_cases h1 : plainErr c = 0
    case neg =>
      simp only [h1, ne_eq, not_false_eq_true, if_true] at hr
      rcases hex with rfl | rfl
      · simp [h1]; exact hr _ (.inr rfl)
      · simp [h1]; exact hr _ (.inr rfl)
    simp only [h1, ne_eq, not_true_eq_false, if_false] at hr
    by_cases h2 : n < 1
    · simp only [h2, if_true] at hr
      rcases hex with rfl | rfl
      · simp [h1, h2]; exact hr _ (.inl rfl)
      · simp [h1, h2]; exact hr _ (.inl rfl)
    · simp only [h2, if_false] at hr
      rcases hex with rfl | rfl
      · simp [h1, h2]; exact hr _ (.inr rfl)
      · simp [h1, h2]; exact hr _ (.inr rfl)
  clear hex ex
  intro ex hex
  rw [hK]
  clear hK K
  have hfin : balErr c n = if (if plainErr c ≠ 0 then plainErr c else if n < 1 then 1 else 0) = 0 ∧ 64 < n then 3 else (if plainErr c ≠ 0 then plainErr c else if n < 1 then 1 else 0) := by
    unfold balErr
    by_cases h1 : plainErr c = 0
    · by_cases h2 : n < 1
      · simp [h1, h2]
      · simp [h1, h2]
    · simp [h1]
  generalize (if plainErr c ≠ 0 then plainErr c else if n < 1 then 1 else 0 : Int) = W at *
  refine run_cut fun K hK => ?_
  suffices hr : ∀ ex, ex = [] ∨ ex = [(49, AV.t (tB false))] → K ⟨[(1, .t (tI n)), (5, .lp 5 0 0), (6, .t l), (7, .t (tI (balErr c n))), (8, .t (tI (balErr c n)))] ++ ex, [(5, .bx [.t (.sl (encN tNd c.nodes.l) c.nodes.cap c.nodes.nl), .t (.sl (enc1 tS c.names.l) c.names.cap c.names.nl), .t (.sl (encN tMm c.mems.l) c.mems.cap c.mems.nl), .t (.sl (ints c.outs.l) c.outs.cap c.outs.nl)])]⟩ by
    by_cases h1 : W = 0
    · by_cases h2 : 64 < n
      · simp only [h1, h2, and_self, if_true] at hfin
        rw [hfin] at hr ⊢
        rcases hex with rfl | rfl
        · simp [h1, h2]; exact hr _ (.inl rfl)
        · simp [h1, h2]; exact hr _ (.inl rfl)
      · simp only [h1, h2, and_false, if_false] at hfin
        rw [hfin] at hr ⊢
        rcases hex with rfl | rfl
        · simp [h1, h2]; exact hr _ (.inr rfl)
        · simp [h1, h2]; exact hr _ (.inr rfl)
    · simp only [h1, false_and, if_false] at hfin
      rw [hfin] at hr ⊢
      rcases hex with rfl | rfl
      · simp [h1]; exact hr _ (.inr rfl)
      · simp [h1]; exact hr _ (.inr rfl)
  clear hex ex
  intro ex hex
  rw [hK]
  clear hK K
  refine run_cut fun K hK => ?_
  suffices hr : K ⟨[(1, .t (tI n)), (5, .lp 5 0 0), (6, .t l), (7, .t (tI (balErr c n))), (52, AV.t (tB false))], [(5, .bx [.t (.sl (encN tNd c.nodes.l) c.nodes.cap c.nodes.nl), .t (.sl (enc1 tS c.names.l) c.names.cap c.names.nl), .t (.sl (encN tMm c.mems.l) c.mems.cap c.mems.nl), .t (.sl (ints c.outs.l) c.outs.cap c.outs.nl)])]⟩ by
    rcases hex with rfl | rfl
    · simp; exact hr
    · simp; exact hr
  rw [hK]
  clear hK K hex ex
  by_cases h0 : balErr c n = 0
  case neg =>
    rw [if_neg h0] at hl
    subst hl
    simp [h0]
    refine callK_fresh (lives_spec hΓ) rfl ?_
    simp [law34_ScansBalance_rv]
  rw [if_pos h0] at hl
  subst hl
  have hck := bal_check h0
  have h1n : 1 ≤ n := by
    unfold balErr at h0
    split at h0
    · rename_i h; exact absurd h0 h
    split at h0
    · cases h0
    omega
  have hlen : (bal c n).length = balN c n := balS_len
  have hsl := states_len c
  have hN : (balN c n : Int) = if ((states c).length : Int) < n then ((states c).length : Int) else n := by unfold balN; split <;> omega
  have hNb : balN c n ≤ (states c).length := by unfold balN; omega
  have h64 := checkErr_len hck
  have hbs : ∀ s ∈ bal c n, s.l.length ≤ 1000000000 := fun s hs => by
    have := (balS_bounds (n := balN c n) (l := states c) (lo := 0) (hi := (states c).length) (by omega) (by
      cases hb : balN c n with
      | zero => unfold bal at hs; rw [hb] at hs; cases hs
      | succ m => exact Nat.le_mul_of_pos_right _ (by omega)) s hs).2
    omega
  have hchk := scheck_spec hΓ c hc ⟨bal c n, some (bal c n).length, none⟩ (by simp only; omega) hbs
  rw [hck] at hchk
  have hflat : elems (bal c n) = states c := by
    by_cases h0 : 1 ≤ balN c n
    · exact balS_flat h0
    · have : (states c).length = 0 := by unfold balN at h0; omega
      have hs : states c = [] := List.eq_nil_of_length_eq_zero this
      have hb : balN c n = 0 := by omega
      unfold bal; rw [hb, hs]; rfl
  have hlp := fun Q h0 => bl_outer (Γ := Γ) (Q := Q) (bal c n) (some (bal c n).length) none (states c) (some (states c).length) none (by omega) (by omega) hflat balS_desc balS_near h0 (bal c n).length 0 (by omega)
  simp [h0]
  refine callK_pure (states_spec c hc) rfl ?_
  rw [hlen] at hchk hlp
  simp [tChs, enc1_len, hlen, ← hN]
  refine callK_fresh hchk rfl ?_
  simp
  refine hlp _ ?_
  simp [enc1_len]
  refine callK_fresh (lives_spec hΓ) rfl ?_
  simp [law34_ScansBalance_rv]
end Go.Lg

/- Shortening: the plain law. Conditions: none. -/
set_option linter.unusedSimpArgs false
set_option linter.unusedVariables false
set_option maxRecDepth 100000
namespace Go.Lg
open Go Go.Proofs

/-- What a turned list holds. -/
theorem revL_get : ∀ (f a b q : Nat) (l : List Int), b < l.length → b + 1 ≤ a + 2 * f → q < l.length → (revL f a b l).getD q 0 = if a ≤ q ∧ q ≤ b then l.getD (a + b - q) 0 else l.getD q 0
  | 0, a, b, q, l, hb, hf, hq => by
    simp only [revL]
    have : ¬ (a ≤ q ∧ q ≤ b) := by omega
    rw [if_neg this]
  | f + 1, a, b, q, l, hb, hf, hq => by
    simp only [revL]
    by_cases hab : a < b
    · rw [if_pos hab, revL_get f (a + 1) (b - 1) q (swapL l a b) (by rw [swapL_len]; omega) (by omega) (by rw [swapL_len]; exact hq)]
      have e : a + 1 + (b - 1) = a + b := by omega
      rw [e]
      by_cases h1 : a + 1 ≤ q ∧ q ≤ b - 1
      · rw [if_pos h1, if_pos (by omega), swapL_get (by omega) hb (by omega), if_neg (by omega), if_neg (by omega)]
      · rw [if_neg h1, swapL_get (by omega) hb hq]
        by_cases h2 : q = b
        · subst h2
          rw [if_pos rfl, if_pos (by omega)]
          congr 1; omega
        · rw [if_neg h2]
          by_cases h3 : q = a
          · subst h3
            rw [if_pos rfl, if_pos (by omega)]
            congr 1; omega
          · rw [if_neg h3, if_neg (by omega)]
    · rw [if_neg hab]
      split
      · rename_i h1
        have : q = a + b - q := by omega
        rw [← this]
      · rfl

theorem revL_perm : ∀ (f a b : Nat) (l : List Int), b < l.length → (revL f a b l).Perm l
  | 0, _, _, _, _ => List.Perm.refl _
  | f + 1, a, b, l, hb => by
    simp only [revL]
    split
    · exact (revL_perm f (a + 1) (b - 1) _ (by rw [swapL_len]; omega)).trans (swapL_perm (by omega) hb)
    · exact List.Perm.refl _
theorem revP_perm {l : List Int} {i n : Nat} (h : i + n ≤ l.length) (h1 : 1 ≤ n) : (revP l i n).Perm l := revL_perm _ _ _ _ (by omega)
theorem revP_inv {l : List Int} {i n : Nat} (h : i + n ≤ l.length) (h1 : 1 ≤ n) : revP (revP l i n) i n = l := by
  unfold revP
  apply List.ext_getElem
  · rw [revL_len, revL_len]
  · intro q h2 h3
    have hq : q < l.length := h3
    rw [← getD_eq h2, ← getD_eq h3, revL_get _ _ _ _ _ (by rw [revL_len]; omega) (by omega) (by rw [revL_len]; exact hq)]
    by_cases hr : i ≤ q ∧ q ≤ i + n - 1
    · rw [if_pos hr, revL_get _ _ _ _ _ (by omega) (by omega) (by omega), if_pos (by omega)]
      congr 1; omega
    · rw [if_neg hr, revL_get _ _ _ _ _ (by omega) (by omega) hq, if_neg hr]

theorem kLoop_fact (m : List (Int × Pnt)) (best : Int) (i : Nat) : ∀ (f k : Nat) (l : List Int), i < k → k + f ≤ l.length →
    (∀ r, kLoop m best i f k l = .inl r → r.2.Perm l) ∧ (∀ l', kLoop m best i f k l = .inr l' → l' = l ∧ ∀ q, k ≤ q → q < k + f → best ≤ lenS m (revP l i (q + 1 - i)))
  | 0, k, l, _, _ => ⟨fun r h => by simp [kLoop] at h, fun l' h => by simp [kLoop] at h; exact ⟨h.symm, fun q h1 h2 => by omega⟩⟩
  | f + 1, k, l, hik, hl => by
    have hn : i + (k + 1 - i) ≤ l.length := by omega
    have h1 : 1 ≤ k + 1 - i := by omega
    simp only [kLoop]
    rw [revP_inv hn h1]
    obtain ⟨a1, a2⟩ := kLoop_fact m best i f (k + 1) l (by omega) (by omega)
    split
    · rename_i hlt
      refine ⟨fun r h => ?_, fun l' h => by simp at h⟩
      simp only [Sum.inl.injEq] at h; subst h
      exact revP_perm hn h1
    · rename_i hlt
      refine ⟨a1, fun l' h => ?_⟩
      obtain ⟨b1, b2⟩ := a2 l' h
      refine ⟨b1, fun q h3 h4 => ?_⟩
      by_cases hq : q = k
      · subst hq; omega
      · exact b2 q (by omega) (by omega)

/-- No turn makes it shorter. -/
def Opt (m : List (Int × Pnt)) (best : Int) (l : List Int) (i0 : Nat) : Prop := ∀ i q, i0 ≤ i → i < q → q < l.length → best ≤ lenS m (revP l i (q + 1 - i))

theorem iLoop_fact (m : List (Int × Pnt)) (best : Int) : ∀ (f i : Nat) (l : List Int), f + i = l.length →
    (∀ r, iLoop m best l.length f i l = .inl r → r.2.Perm l) ∧ (∀ l', iLoop m best l.length f i l = .inr l' → l' = l ∧ Opt m best l i)
  | 0, i, l, hf => ⟨fun r h => by simp [iLoop] at h, fun l' h => by simp [iLoop] at h; exact ⟨h.symm, fun a q h1 h2 h3 => by omega⟩⟩
  | f + 1, i, l, hf => by
    simp only [iLoop]
    obtain ⟨a1, a2⟩ := kLoop_fact m best i (l.length - (i + 1)) (i + 1) l (by omega) (by omega)
    cases hk : kLoop m best i (l.length - (i + 1)) (i + 1) l with
    | inl r0 => exact ⟨fun r h => by simp only [Sum.inl.injEq] at h; subst h; exact a1 _ hk, fun l' h => by simp at h⟩
    | inr l0 =>
      obtain ⟨rfl, b2⟩ := a2 l0 hk
      obtain ⟨c1, c2⟩ := iLoop_fact m best f (i + 1) l0 (by omega)
      refine ⟨c1, fun l' h => ?_⟩
      obtain ⟨d1, d2⟩ := c2 l' h
      refine ⟨d1, fun a q h1 h2 h3 => ?_⟩
      by_cases ha : a = i
      · subst ha; exact b2 q (by omega) (by omega)
      · exact d2 a q (by omega) h2 h3

theorem shortS_fact (m : List (Int × Pnt)) (hm : Small m) : ∀ (f : Nat) (l : List Int), lenS m l < f →
    (shortS m l.length f (lenS m l) l).Perm l ∧ lenS m (shortS m l.length f (lenS m l) l) ≤ lenS m l ∧ iLoop m (lenS m (shortS m l.length f (lenS m l) l)) l.length l.length 0 (shortS m l.length f (lenS m l) l) = .inr (shortS m l.length f (lenS m l) l)
  | 0, l, h => by have := (lenS_le hm l).1; omega
  | f + 1, l, h => by
    simp only [shortS]
    obtain ⟨a1, a2⟩ := iLoop_fact m (lenS m l) l.length 0 l (by omega)
    cases hi : iLoop m (lenS m l) l.length l.length 0 l with
    | inl r =>
      have hp := a1 r hi
      obtain ⟨h1, h2⟩ := iLoop_lt hi
      have hl := hp.length_eq
      simp only
      rw [h2, ← hl]
      obtain ⟨b1, b2, b3⟩ := shortS_fact m hm f r.2 (by omega)
      exact ⟨b1.trans hp, by omega, b3⟩
    | inr l' =>
      obtain ⟨rfl, _⟩ := a2 l' hi
      exact ⟨List.Perm.refl _, Int.le_refl _, hi⟩

theorem shorterL_fact (m : List (Int × Pnt)) (hm : Small m) (l : List Int) :
    (shorterL m l).Perm l ∧ lenS m (shorterL m l) ≤ lenS m l ∧ Opt m (lenS m (shorterL m l)) (shorterL m l) 0 ∧ shorterL m (shorterL m l) = shorterL m l := by
  have h0 := (lenS_le hm l).1
  obtain ⟨a1, a2, a3⟩ := shortS_fact m hm ((lenS m l).toNat + 1) l (by omega)
  have e : shortS m l.length ((lenS m l).toNat + 1) (lenS m l) l = shorterL m l := rfl
  rw [e] at a1 a2 a3
  have hl := a1.length_eq
  rw [← hl] at a3
  refine ⟨a1, a2, ((iLoop_fact m _ (shorterL m l).length 0 (shorterL m l) (by omega)).2 _ a3).2, ?_⟩
  generalize shorterL m l = r at *
  unfold shorterL
  simp only [shortS]
  rw [a3]

/-- Complete chains in any order are accepted. -/
theorem check_perm {c : Cir} {chs : List (Sl Int)} (hp : plainErr c = 0) (h64 : chs.length ≤ 64) (hne : ∀ s ∈ chs, s.l ≠ []) (hperm : (elems chs).Perm (states c)) : checkErr c chs = 0 := by
  have hg := goChains_ok (c := c) (l := chs) (done := []) hne (fun n hn => states_good n (hperm.mem_iff.1 hn)) (hperm.nodup_iff.2 (states_nodup c)) (by simp)
  unfold checkErr
  rw [if_neg (by simp [hp]), if_neg (by omega), hg]
  simp [hperm.length_eq]

theorem placed_ok {c : Cir} {chs : List (Sl Int)} {at' : List Pnt} (hc : checkErr c chs = 0) (hl : at'.length = (states c).length) (hb : at'.any ptBad = false) : placedErr c chs at' = 0 ∧ placedM c chs at' = (states c).zip at' := by
  have h : placedErr c chs at' = 0 := by
    unfold placedErr
    rw [if_neg (by simp [hc]), if_neg (by simp [hl]), hb]; rfl
  exact ⟨h, by unfold placedM; rw [if_pos h]⟩

theorem elems_perm : ∀ {l l' : List (Sl Int)}, l.length = l'.length → (∀ i (h : i < l.length) (h' : i < l'.length), l[i].l.Perm l'[i].l) → (elems l).Perm (elems l')
  | [], [], _, _ => List.Perm.refl _
  | [], _ :: _, h, _ => by simp at h
  | _ :: _, [], h, _ => by simp at h
  | x :: l, y :: l', h, hp => by
    rw [elems_cons, elems_cons]
    exact (hp 0 (by simp) (by simp)).append (elems_perm (by simpa using h) fun i h1 h2 => hp (i + 1) (by simpa using h1) (by simpa using h2))
end Go.Lg

/- The abstract code of some functions, as the program gen.py prints it. Conditions: none. -/
set_option linter.unusedVariables false
namespace Go.Lg
open Go
section
variable {P : Program} {Γ : Tables} {Q : AX → St → Prop} {s : St}
/- probecard/probecardlaw34.ScansShorten (function 5) -/
def law34_ScansShorten_r0 : List RO := [
    ⟨some 2, .box true (.tmp 0), none, none⟩,
    ⟨some 4, .mv (.const (.bool false)), none, none⟩]
def law34_ScansShorten_r1 : List RO := [
    ⟨some 24, .mv (.tmp 1), none, none⟩,
    ⟨some 25, .len 0 (.tmp 24), none, none⟩,
    ⟨some 26, .bin .gtr (.tmp 25) (.const (.int .i64 20)), none, none⟩]
def law34_ScansShorten_r2 : List RO := [
    ⟨some 27, .call 16 [], none, none⟩,
    ⟨some 4, .mv (.tmp 27), none, none⟩]
def law34_ScansShorten_r3 : List RO := [
    ⟨some 29, .load 14 true (.tmp 2), none, none⟩,
    ⟨some 30, .call 19 [(.tmp 29)], none, none⟩,
    ⟨some 28, .mv (.tmp 30), none, none⟩,
    ⟨some 31, .ext (.tmp 28) 0, none, none⟩,
    ⟨some 32, .ext (.tmp 28) 1, none, none⟩,
    ⟨some 5, .alloc false [(.slice none 0 0), (.slice none 0 0), (.slice none 0 0), (.slice none 0 0)], none, none⟩,
    ⟨none, .store 4 (.tmp 5) (.tmp 31), none, none⟩,
    ⟨some 6, .mv (.tmp 32), none, none⟩]
def law34_ScansShorten_r4 : List RO := [
    ⟨some 33, .load 4 true (.tmp 5), none, none⟩,
    ⟨some 34, .mv (.tmp 1), none, none⟩,
    ⟨some 35, .call 20 [(.tmp 33), (.tmp 34)], none, none⟩,
    ⟨some 7, .mv (.tmp 35), none, none⟩]
def law34_ScansShorten_r5 : List RO := [
    ⟨some 37, .load 4 true (.tmp 5), none, none⟩,
    ⟨some 38, .mv (.tmp 6), none, none⟩,
    ⟨some 39, .mv (.tmp 7), none, none⟩,
    ⟨some 40, .call 21 [(.tmp 37), (.tmp 38), (.tmp 39)], none, none⟩,
    ⟨some 36, .mv (.tmp 40), none, none⟩,
    ⟨some 41, .ext (.tmp 36) 0, none, none⟩,
    ⟨some 42, .ext (.tmp 36) 1, none, none⟩,
    ⟨some 8, .mv (.tmp 41), none, none⟩,
    ⟨some 9, .mv (.tmp 42), none, none⟩]
def law34_ScansShorten_r6 : List RO := [
    ⟨some 44, .load 4 true (.tmp 5), none, none⟩,
    ⟨some 45, .mv (.tmp 6), none, none⟩,
    ⟨some 46, .mv (.tmp 7), none, none⟩,
    ⟨some 47, .call 22 [(.tmp 44), (.tmp 45), (.tmp 46)], none, none⟩,
    ⟨some 43, .mv (.tmp 47), none, none⟩,
    ⟨some 48, .ext (.tmp 43) 0, none, none⟩,
    ⟨some 49, .ext (.tmp 43) 1, none, none⟩,
    ⟨some 10, .mv (.tmp 48), none, none⟩,
    ⟨some 11, .mv (.tmp 49), none, none⟩]
def law34_ScansShorten_r7 : List RO := [
    ⟨some 51, .load 4 true (.tmp 5), none, none⟩,
    ⟨some 52, .mv (.tmp 10), none, none⟩,
    ⟨some 53, .mv (.tmp 7), none, none⟩,
    ⟨some 54, .call 21 [(.tmp 51), (.tmp 52), (.tmp 53)], none, none⟩,
    ⟨some 50, .mv (.tmp 54), none, none⟩,
    ⟨some 55, .ext (.tmp 50) 0, none, none⟩,
    ⟨some 56, .ext (.tmp 50) 1, none, none⟩,
    ⟨some 12, .mv (.tmp 55), none, none⟩,
    ⟨some 13, .mv (.tmp 56), none, none⟩]
def law34_ScansShorten_r8 : List RO := [
    ⟨some 58, .load 4 true (.tmp 5), none, none⟩,
    ⟨some 59, .mv (.tmp 10), none, none⟩,
    ⟨some 60, .mv (.tmp 7), none, none⟩,
    ⟨some 61, .call 22 [(.tmp 58), (.tmp 59), (.tmp 60)], none, none⟩,
    ⟨some 57, .mv (.tmp 61), none, none⟩,
    ⟨some 62, .ext (.tmp 57) 0, none, none⟩,
    ⟨some 63, .ext (.tmp 57) 1, none, none⟩,
    ⟨some 14, .mv (.tmp 62), none, none⟩,
    ⟨some 15, .mv (.tmp 63), none, none⟩]
def law34_ScansShorten_r9 : List RO := [
    ⟨some 64, .mv (.tmp 9), none, none⟩,
    ⟨some 65, .bin .neq (.tmp 64) (.const (.int .i64 0)), none, none⟩,
    ⟨some 66, .mv (.tmp 65), none, none⟩,
    ⟨some 67, .mv (.tmp 11), some (66, false), none⟩,
    ⟨some 68, .bin .neq (.tmp 67) (.const (.int .i64 0)), some (66, false), none⟩,
    ⟨some 69, .pick (.tmp 66) (.const (.bool true)) (.tmp 68), none, none⟩,
    ⟨some 70, .mv (.tmp 69), none, none⟩,
    ⟨some 71, .mv (.tmp 13), some (70, false), none⟩,
    ⟨some 72, .bin .neq (.tmp 71) (.const (.int .i64 0)), some (70, false), none⟩,
    ⟨some 73, .pick (.tmp 70) (.const (.bool true)) (.tmp 72), none, none⟩,
    ⟨some 74, .mv (.tmp 73), none, none⟩,
    ⟨some 75, .mv (.tmp 15), some (74, false), none⟩,
    ⟨some 76, .bin .neq (.tmp 75) (.const (.int .i64 0)), some (74, false), none⟩,
    ⟨some 77, .pick (.tmp 74) (.const (.bool true)) (.tmp 76), none, none⟩,
    ⟨some 78, .mv (.tmp 77), none, none⟩,
    ⟨some 79, .mv (.tmp 12), some (78, false), none⟩,
    ⟨some 80, .mv (.tmp 8), some (78, false), none⟩,
    ⟨some 81, .bin .gtr (.tmp 79) (.tmp 80), some (78, false), none⟩,
    ⟨some 82, .pick (.tmp 78) (.const (.bool true)) (.tmp 81), none, none⟩,
    ⟨some 83, .mv (.tmp 82), none, none⟩,
    ⟨some 84, .mv (.tmp 10), some (83, false), none⟩,
    ⟨some 85, .len 0 (.tmp 84), some (83, false), none⟩,
    ⟨some 86, .mv (.tmp 6), some (83, false), none⟩,
    ⟨some 87, .len 0 (.tmp 86), some (83, false), none⟩,
    ⟨some 88, .bin .neq (.tmp 85) (.tmp 87), some (83, false), none⟩,
    ⟨some 89, .pick (.tmp 83) (.const (.bool true)) (.tmp 88), none, none⟩,
    ⟨some 90, .mv (.tmp 89), none, none⟩,
    ⟨some 91, .mv (.tmp 14), some (90, false), none⟩,
    ⟨some 92, .len 0 (.tmp 91), some (90, false), none⟩,
    ⟨some 93, .mv (.tmp 10), some (90, false), none⟩,
    ⟨some 94, .len 0 (.tmp 93), some (90, false), none⟩,
    ⟨some 95, .bin .neq (.tmp 92) (.tmp 94), some (90, false), none⟩,
    ⟨some 96, .pick (.tmp 90) (.const (.bool true)) (.tmp 95), none, none⟩]
def law34_ScansShorten_r10 : List RO := [
    ⟨some 4, .mv (.const (.bool false)), none, none⟩]
def law34_ScansShorten_r11 : List RO := [
    ⟨some 16, .mv (.const (.int .i64 0)), none, none⟩]
def law34_ScansShorten_r12 : List RO := [
    ⟨some 97, .mv (.tmp 16), none, none⟩,
    ⟨some 98, .mv (.tmp 10), none, none⟩,
    ⟨some 99, .len 0 (.tmp 98), none, none⟩,
    ⟨some 100, .bin .lss (.tmp 97) (.tmp 99), none, none⟩]
def law34_ScansShorten_r14 : List RO := [
    ⟨some 103, .mv (.tmp 10), none, none⟩,
    ⟨some 104, .mv (.tmp 16), none, none⟩,
    ⟨some 105, .iadr 1 (.tmp 103) (.tmp 104), none, none⟩,
    ⟨some 106, .load 1 false (.tmp 105), none, none⟩,
    ⟨some 107, .len 0 (.tmp 106), none, none⟩,
    ⟨some 108, .mv (.tmp 6), none, none⟩,
    ⟨some 109, .mv (.tmp 16), none, none⟩,
    ⟨some 110, .iadr 1 (.tmp 108) (.tmp 109), none, none⟩,
    ⟨some 111, .load 1 false (.tmp 110), none, none⟩,
    ⟨some 112, .len 0 (.tmp 111), none, none⟩,
    ⟨some 113, .bin .neq (.tmp 107) (.tmp 112), none, none⟩,
    ⟨some 114, .mv (.tmp 113), none, none⟩,
    ⟨some 115, .mv (.tmp 14), some (114, false), none⟩,
    ⟨some 116, .mv (.tmp 16), some (114, false), none⟩,
    ⟨some 117, .iadr 1 (.tmp 115) (.tmp 116), some (114, false), none⟩,
    ⟨some 118, .load 1 false (.tmp 117), some (114, false), none⟩,
    ⟨some 119, .len 0 (.tmp 118), some (114, false), none⟩,
    ⟨some 120, .mv (.tmp 10), some (114, false), none⟩,
    ⟨some 121, .mv (.tmp 16), some (114, false), none⟩,
    ⟨some 122, .iadr 1 (.tmp 120) (.tmp 121), some (114, false), none⟩,
    ⟨some 123, .load 1 false (.tmp 122), some (114, false), none⟩,
    ⟨some 124, .len 0 (.tmp 123), some (114, false), none⟩,
    ⟨some 125, .bin .neq (.tmp 119) (.tmp 124), some (114, false), none⟩,
    ⟨some 126, .pick (.tmp 114) (.const (.bool true)) (.tmp 125), none, none⟩]
def law34_ScansShorten_r15 : List RO := [
    ⟨some 4, .mv (.const (.bool false)), none, none⟩]
def law34_ScansShorten_r16 : List RO := [
    ⟨some 17, .mv (.const (.int .i64 0)), none, none⟩]
def law34_ScansShorten_r17 : List RO := [
    ⟨some 127, .mv (.tmp 17), none, none⟩,
    ⟨some 128, .mv (.tmp 10), none, none⟩,
    ⟨some 129, .mv (.tmp 16), none, none⟩,
    ⟨some 130, .iadr 1 (.tmp 128) (.tmp 129), none, none⟩,
    ⟨some 131, .load 1 false (.tmp 130), none, none⟩,
    ⟨some 132, .len 0 (.tmp 131), none, none⟩,
    ⟨some 133, .bin .lss (.tmp 127) (.tmp 132), none, none⟩]
def law34_ScansShorten_r19 : List RO := [
    ⟨some 18, .mv (.const (.int .i64 0)), none, none⟩]
def law34_ScansShorten_r20 : List RO := [
    ⟨some 19, .mv (.const (.int .i64 0)), none, none⟩]
def law34_ScansShorten_r21 : List RO := [
    ⟨some 136, .mv (.tmp 19), none, none⟩,
    ⟨some 137, .mv (.tmp 10), none, none⟩,
    ⟨some 138, .mv (.tmp 16), none, none⟩,
    ⟨some 139, .iadr 1 (.tmp 137) (.tmp 138), none, none⟩,
    ⟨some 140, .load 1 false (.tmp 139), none, none⟩,
    ⟨some 141, .len 0 (.tmp 140), none, none⟩,
    ⟨some 142, .bin .lss (.tmp 136) (.tmp 141), none, none⟩]
def law34_ScansShorten_r23 : List RO := [
    ⟨some 145, .mv (.tmp 6), none, none⟩,
    ⟨some 146, .mv (.tmp 16), none, none⟩,
    ⟨some 147, .iadr 1 (.tmp 145) (.tmp 146), none, none⟩,
    ⟨some 148, .load 1 false (.tmp 147), none, none⟩,
    ⟨some 149, .mv (.tmp 19), none, none⟩,
    ⟨some 150, .iadr 1 (.tmp 148) (.tmp 149), none, none⟩,
    ⟨some 151, .load 1 false (.tmp 150), none, none⟩,
    ⟨some 152, .mv (.tmp 10), none, none⟩,
    ⟨some 153, .mv (.tmp 16), none, none⟩,
    ⟨some 154, .iadr 1 (.tmp 152) (.tmp 153), none, none⟩,
    ⟨some 155, .load 1 false (.tmp 154), none, none⟩,
    ⟨some 156, .mv (.tmp 17), none, none⟩,
    ⟨some 157, .iadr 1 (.tmp 155) (.tmp 156), none, none⟩,
    ⟨some 158, .load 1 false (.tmp 157), none, none⟩,
    ⟨some 159, .bin .eql (.tmp 151) (.tmp 158), none, none⟩]
def law34_ScansShorten_r24 : List RO := [
    ⟨some 160, .mv (.tmp 18), none, none⟩,
    ⟨some 161, .bin .add (.tmp 160) (.const (.int .i64 1)), none, none⟩,
    ⟨some 18, .mv (.tmp 161), none, none⟩]
def law34_ScansShorten_r22 : List RO := [
    ⟨some 143, .mv (.tmp 19), none, none⟩,
    ⟨some 144, .bin .add (.tmp 143) (.const (.int .i64 1)), none, none⟩,
    ⟨some 19, .mv (.tmp 144), none, none⟩]
def law34_ScansShorten_g0 : IC := .gh (.seq (.seq (.reg law34_ScansShorten_r21 [.keep [5, 6, 7, 10, 12, 14, 16, 17, 18, 19, 142] [5]]) (.cond (.tmp 142) .skip (.exit 4))) (.seq (.block 5 (.seq (.reg law34_ScansShorten_r23 [.keep [5, 6, 7, 10, 12, 14, 16, 17, 18, 19, 159] [5]]) (.cond (.tmp 159) (.reg law34_ScansShorten_r24 [.keep [5, 6, 7, 10, 12, 14, 16, 17, 18, 19] [5]]) .skip))) (.reg law34_ScansShorten_r22 [.keep [5, 6, 7, 10, 12, 14, 16, 17, 18, 19] [5]]))) [.keep [5, 6, 7, 10, 12, 14, 16, 17, 18, 19] [5]]
def law34_ScansShorten_l1 : IC := .loop law34_ScansShorten_g0
def law34_ScansShorten_r25 : List RO := [
    ⟨some 162, .mv (.tmp 18), none, none⟩,
    ⟨some 163, .bin .neq (.tmp 162) (.const (.int .i64 1)), none, none⟩,
    ⟨some 164, .mv (.tmp 163), none, none⟩,
    ⟨some 165, .mv (.tmp 14), some (164, false), none⟩,
    ⟨some 166, .mv (.tmp 16), some (164, false), none⟩,
    ⟨some 167, .iadr 1 (.tmp 165) (.tmp 166), some (164, false), none⟩,
    ⟨some 168, .load 1 false (.tmp 167), some (164, false), none⟩,
    ⟨some 169, .mv (.tmp 17), some (164, false), none⟩,
    ⟨some 170, .iadr 1 (.tmp 168) (.tmp 169), some (164, false), none⟩,
    ⟨some 171, .load 1 false (.tmp 170), some (164, false), none⟩,
    ⟨some 172, .mv (.tmp 10), some (164, false), none⟩,
    ⟨some 173, .mv (.tmp 16), some (164, false), none⟩,
    ⟨some 174, .iadr 1 (.tmp 172) (.tmp 173), some (164, false), none⟩,
    ⟨some 175, .load 1 false (.tmp 174), some (164, false), none⟩,
    ⟨some 176, .mv (.tmp 17), some (164, false), none⟩,
    ⟨some 177, .iadr 1 (.tmp 175) (.tmp 176), some (164, false), none⟩,
    ⟨some 178, .load 1 false (.tmp 177), some (164, false), none⟩,
    ⟨some 179, .bin .neq (.tmp 171) (.tmp 178), some (164, false), none⟩,
    ⟨some 180, .pick (.tmp 164) (.const (.bool true)) (.tmp 179), none, none⟩]
def law34_ScansShorten_r26 : List RO := [
    ⟨some 4, .mv (.const (.bool false)), none, none⟩]
def law34_ScansShorten_r27 : List RO := [
    ⟨some 181, .mv (.tmp 17), none, none⟩,
    ⟨some 182, .bin .add (.tmp 181) (.const (.int .i64 1)), none, none⟩,
    ⟨some 20, .mv (.tmp 182), none, none⟩]
def law34_ScansShorten_r28 : List RO := [
    ⟨some 183, .mv (.tmp 20), none, none⟩,
    ⟨some 184, .mv (.tmp 10), none, none⟩,
    ⟨some 185, .mv (.tmp 16), none, none⟩,
    ⟨some 186, .iadr 1 (.tmp 184) (.tmp 185), none, none⟩,
    ⟨some 187, .load 1 false (.tmp 186), none, none⟩,
    ⟨some 188, .len 0 (.tmp 187), none, none⟩,
    ⟨some 189, .bin .lss (.tmp 183) (.tmp 188), none, none⟩]
def law34_ScansShorten_r30 : List RO := [
    ⟨some 192, .mv (.tmp 10), none, none⟩,
    ⟨some 193, .app false 31 1 (.const (.slice none 0 0)) (.tmp 192), none, none⟩,
    ⟨some 21, .mv (.tmp 193), none, none⟩]
def law34_ScansShorten_r31 : List RO := [
    ⟨some 194, .mv (.tmp 21), none, none⟩,
    ⟨some 195, .mv (.tmp 16), none, none⟩,
    ⟨some 196, .mv (.tmp 10), none, none⟩,
    ⟨some 197, .mv (.tmp 16), none, none⟩,
    ⟨some 198, .iadr 1 (.tmp 196) (.tmp 197), none, none⟩,
    ⟨some 199, .load 1 false (.tmp 198), none, none⟩,
    ⟨some 200, .mv (.tmp 17), none, none⟩,
    ⟨some 201, .mv (.tmp 20), none, none⟩,
    ⟨some 202, .call 23 [(.tmp 199), (.tmp 200), (.tmp 201)], none, none⟩,
    ⟨some 203, .iadr 1 (.tmp 194) (.tmp 195), none, none⟩,
    ⟨none, .store 1 (.tmp 203) (.tmp 202), none, none⟩]
def law34_ScansShorten_r32 : List RO := [
    ⟨some 205, .load 4 true (.tmp 5), none, none⟩,
    ⟨some 206, .mv (.tmp 21), none, none⟩,
    ⟨some 207, .mv (.tmp 7), none, none⟩,
    ⟨some 208, .call 21 [(.tmp 205), (.tmp 206), (.tmp 207)], none, none⟩,
    ⟨some 204, .mv (.tmp 208), none, none⟩,
    ⟨some 209, .ext (.tmp 204) 0, none, none⟩,
    ⟨some 210, .ext (.tmp 204) 1, none, none⟩,
    ⟨some 22, .mv (.tmp 209), none, none⟩,
    ⟨some 23, .mv (.tmp 210), none, none⟩]
def law34_ScansShorten_r33 : List RO := [
    ⟨some 211, .mv (.tmp 23), none, none⟩,
    ⟨some 212, .bin .neq (.tmp 211) (.const (.int .i64 0)), none, none⟩,
    ⟨some 213, .mv (.tmp 212), none, none⟩,
    ⟨some 214, .mv (.tmp 22), some (213, false), none⟩,
    ⟨some 215, .mv (.tmp 12), some (213, false), none⟩,
    ⟨some 216, .bin .lss (.tmp 214) (.tmp 215), some (213, false), none⟩,
    ⟨some 217, .pick (.tmp 213) (.const (.bool true)) (.tmp 216), none, none⟩]
def law34_ScansShorten_r34 : List RO := [
    ⟨some 4, .mv (.const (.bool false)), none, none⟩]
def law34_ScansShorten_r29 : List RO := [
    ⟨some 190, .mv (.tmp 20), none, none⟩,
    ⟨some 191, .bin .add (.tmp 190) (.const (.int .i64 1)), none, none⟩,
    ⟨some 20, .mv (.tmp 191), none, none⟩]
def law34_ScansShorten_g2 : IC := .gh (.seq (.seq (.reg law34_ScansShorten_r28 [.keep [5, 6, 7, 10, 12, 14, 16, 17, 20, 189] [5]]) (.cond (.tmp 189) .skip (.exit 6))) (.seq (.block 7 (.seq (.reg law34_ScansShorten_r30 [.keep [5, 6, 7, 10, 12, 14, 16, 17, 20, 21] [5, 193]]) (.seq (.reg law34_ScansShorten_r31 [.keep [5, 6, 7, 10, 12, 14, 16, 17, 20, 21] [5, 193]]) (.seq (.reg law34_ScansShorten_r32 [.keep [5, 6, 7, 10, 12, 14, 16, 17, 20, 22, 23] [5]]) (.seq (.reg law34_ScansShorten_r33 [.keep [5, 6, 7, 10, 12, 14, 16, 17, 20, 217] [5]]) (.cond (.tmp 217) (.seq (.reg law34_ScansShorten_r34 [.keep [4] []]) .ret) .skip)))))) (.reg law34_ScansShorten_r29 [.keep [5, 6, 7, 10, 12, 14, 16, 17, 20] [5]]))) [.keep [5, 6, 7, 10, 12, 14, 16, 17, 20] [5]]
def law34_ScansShorten_l3 : IC := .loop law34_ScansShorten_g2
def law34_ScansShorten_r18 : List RO := [
    ⟨some 134, .mv (.tmp 17), none, none⟩,
    ⟨some 135, .bin .add (.tmp 134) (.const (.int .i64 1)), none, none⟩,
    ⟨some 17, .mv (.tmp 135), none, none⟩]
def law34_ScansShorten_g4 : IC := .gh (.seq (.seq (.reg law34_ScansShorten_r17 [.keep [5, 6, 7, 10, 12, 14, 16, 17, 133] [5]]) (.cond (.tmp 133) .skip (.exit 2))) (.seq (.block 3 (.seq (.reg law34_ScansShorten_r19 [.keep [5, 6, 7, 10, 12, 14, 16, 17, 18] [5]]) (.seq (.seq (.reg law34_ScansShorten_r20 [.keep [5, 6, 7, 10, 12, 14, 16, 17, 18, 19] [5]]) (.block 4 law34_ScansShorten_l1)) (.seq (.seq (.reg law34_ScansShorten_r25 [.keep [5, 6, 7, 10, 12, 14, 16, 17, 180] [5]]) (.cond (.tmp 180) (.seq (.reg law34_ScansShorten_r26 [.keep [4] []]) .ret) .skip)) (.seq (.reg law34_ScansShorten_r27 [.keep [5, 6, 7, 10, 12, 14, 16, 17, 20] [5]]) (.block 6 law34_ScansShorten_l3)))))) (.reg law34_ScansShorten_r18 [.keep [5, 6, 7, 10, 12, 14, 16, 17] [5]]))) [.keep [5, 6, 7, 10, 12, 14, 16, 17] [5]]
def law34_ScansShorten_l5 : IC := .loop law34_ScansShorten_g4
def law34_ScansShorten_r13 : List RO := [
    ⟨some 101, .mv (.tmp 16), none, none⟩,
    ⟨some 102, .bin .add (.tmp 101) (.const (.int .i64 1)), none, none⟩,
    ⟨some 16, .mv (.tmp 102), none, none⟩]
def law34_ScansShorten_g6 : IC := .gh (.seq (.seq (.reg law34_ScansShorten_r12 [.keep [5, 6, 7, 10, 12, 14, 16, 100] [5]]) (.cond (.tmp 100) .skip (.exit 0))) (.seq (.block 1 (.seq (.seq (.reg law34_ScansShorten_r14 [.keep [5, 6, 7, 10, 12, 14, 16, 126] [5]]) (.cond (.tmp 126) (.seq (.reg law34_ScansShorten_r15 [.keep [4] []]) .ret) .skip)) (.seq (.reg law34_ScansShorten_r16 [.keep [5, 6, 7, 10, 12, 14, 16, 17] [5]]) (.block 2 law34_ScansShorten_l5)))) (.reg law34_ScansShorten_r13 [.keep [5, 6, 7, 10, 12, 14, 16] [5]]))) [.keep [5, 6, 7, 10, 12, 14, 16] [5]]
def law34_ScansShorten_l7 : IC := .loop law34_ScansShorten_g6
def law34_ScansShorten_r35 : List RO := [
    ⟨some 218, .call 16 [], none, none⟩,
    ⟨some 4, .mv (.tmp 218), none, none⟩]
def law34_ScansShorten_ic : IC := (.seq (.reg law34_ScansShorten_r0 [.keep [1, 2] []]) (.seq (.seq (.reg law34_ScansShorten_r1 [.keep [1, 2, 26] []]) (.cond (.tmp 26) (.seq (.reg law34_ScansShorten_r2 [.keep [4] []]) .ret) .skip)) (.seq (.reg law34_ScansShorten_r3 [.keep [1, 5, 6] [5]]) (.seq (.reg law34_ScansShorten_r4 [.keep [5, 6, 7] [5]]) (.seq (.reg law34_ScansShorten_r5 [.keep [5, 6, 7, 8, 9] [5]]) (.seq (.reg law34_ScansShorten_r6 [.keep [5, 6, 7, 8, 9, 10, 11] [5]]) (.seq (.reg law34_ScansShorten_r7 [.keep [5, 6, 7, 8, 9, 10, 11, 12, 13] [5]]) (.seq (.reg law34_ScansShorten_r8 [.keep [5, 6, 7, 8, 9, 10, 11, 12, 13, 14, 15] [5]]) (.seq (.seq (.reg law34_ScansShorten_r9 [.keep [5, 6, 7, 10, 12, 14, 96] [5]]) (.cond (.tmp 96) (.seq (.reg law34_ScansShorten_r10 [.keep [4] []]) .ret) .skip)) (.seq (.seq (.reg law34_ScansShorten_r11 [.keep [5, 6, 7, 10, 12, 14, 16] [5]]) (.block 0 law34_ScansShorten_l7)) (.seq (.reg law34_ScansShorten_r35 [.keep [4] []]) .ret)))))))))))
@[simp ↓] theorem law34_ScansShorten_g0_run : run P Γ law34_ScansShorten_g0 Q s = run P Γ (.gh (.seq (.seq (.reg law34_ScansShorten_r21 [.keep [5, 6, 7, 10, 12, 14, 16, 17, 18, 19, 142] [5]]) (.cond (.tmp 142) .skip (.exit 4))) (.seq (.block 5 (.seq (.reg law34_ScansShorten_r23 [.keep [5, 6, 7, 10, 12, 14, 16, 17, 18, 19, 159] [5]]) (.cond (.tmp 159) (.reg law34_ScansShorten_r24 [.keep [5, 6, 7, 10, 12, 14, 16, 17, 18, 19] [5]]) .skip))) (.reg law34_ScansShorten_r22 [.keep [5, 6, 7, 10, 12, 14, 16, 17, 18, 19] [5]]))) [.keep [5, 6, 7, 10, 12, 14, 16, 17, 18, 19] [5]]) Q s := Eq.trans rfl rfl
@[simp ↓] theorem law34_ScansShorten_g2_run : run P Γ law34_ScansShorten_g2 Q s = run P Γ (.gh (.seq (.seq (.reg law34_ScansShorten_r28 [.keep [5, 6, 7, 10, 12, 14, 16, 17, 20, 189] [5]]) (.cond (.tmp 189) .skip (.exit 6))) (.seq (.block 7 (.seq (.reg law34_ScansShorten_r30 [.keep [5, 6, 7, 10, 12, 14, 16, 17, 20, 21] [5, 193]]) (.seq (.reg law34_ScansShorten_r31 [.keep [5, 6, 7, 10, 12, 14, 16, 17, 20, 21] [5, 193]]) (.seq (.reg law34_ScansShorten_r32 [.keep [5, 6, 7, 10, 12, 14, 16, 17, 20, 22, 23] [5]]) (.seq (.reg law34_ScansShorten_r33 [.keep [5, 6, 7, 10, 12, 14, 16, 17, 20, 217] [5]]) (.cond (.tmp 217) (.seq (.reg law34_ScansShorten_r34 [.keep [4] []]) .ret) .skip)))))) (.reg law34_ScansShorten_r29 [.keep [5, 6, 7, 10, 12, 14, 16, 17, 20] [5]]))) [.keep [5, 6, 7, 10, 12, 14, 16, 17, 20] [5]]) Q s := Eq.trans rfl rfl
@[simp ↓] theorem law34_ScansShorten_g4_run : run P Γ law34_ScansShorten_g4 Q s = run P Γ (.gh (.seq (.seq (.reg law34_ScansShorten_r17 [.keep [5, 6, 7, 10, 12, 14, 16, 17, 133] [5]]) (.cond (.tmp 133) .skip (.exit 2))) (.seq (.block 3 (.seq (.reg law34_ScansShorten_r19 [.keep [5, 6, 7, 10, 12, 14, 16, 17, 18] [5]]) (.seq (.seq (.reg law34_ScansShorten_r20 [.keep [5, 6, 7, 10, 12, 14, 16, 17, 18, 19] [5]]) (.block 4 law34_ScansShorten_l1)) (.seq (.seq (.reg law34_ScansShorten_r25 [.keep [5, 6, 7, 10, 12, 14, 16, 17, 180] [5]]) (.cond (.tmp 180) (.seq (.reg law34_ScansShorten_r26 [.keep [4] []]) .ret) .skip)) (.seq (.reg law34_ScansShorten_r27 [.keep [5, 6, 7, 10, 12, 14, 16, 17, 20] [5]]) (.block 6 law34_ScansShorten_l3)))))) (.reg law34_ScansShorten_r18 [.keep [5, 6, 7, 10, 12, 14, 16, 17] [5]]))) [.keep [5, 6, 7, 10, 12, 14, 16, 17] [5]]) Q s := Eq.trans rfl rfl
@[simp ↓] theorem law34_ScansShorten_g6_run : run P Γ law34_ScansShorten_g6 Q s = run P Γ (.gh (.seq (.seq (.reg law34_ScansShorten_r12 [.keep [5, 6, 7, 10, 12, 14, 16, 100] [5]]) (.cond (.tmp 100) .skip (.exit 0))) (.seq (.block 1 (.seq (.seq (.reg law34_ScansShorten_r14 [.keep [5, 6, 7, 10, 12, 14, 16, 126] [5]]) (.cond (.tmp 126) (.seq (.reg law34_ScansShorten_r15 [.keep [4] []]) .ret) .skip)) (.seq (.reg law34_ScansShorten_r16 [.keep [5, 6, 7, 10, 12, 14, 16, 17] [5]]) (.block 2 law34_ScansShorten_l5)))) (.reg law34_ScansShorten_r13 [.keep [5, 6, 7, 10, 12, 14, 16] [5]]))) [.keep [5, 6, 7, 10, 12, 14, 16] [5]]) Q s := Eq.trans rfl rfl
@[simp ↓] theorem law34_ScansShorten_ic_run : run P Γ law34_ScansShorten_ic Q s = run P Γ (.seq (.reg law34_ScansShorten_r0 [.keep [1, 2] []]) (.seq (.seq (.reg law34_ScansShorten_r1 [.keep [1, 2, 26] []]) (.cond (.tmp 26) (.seq (.reg law34_ScansShorten_r2 [.keep [4] []]) .ret) .skip)) (.seq (.reg law34_ScansShorten_r3 [.keep [1, 5, 6] [5]]) (.seq (.reg law34_ScansShorten_r4 [.keep [5, 6, 7] [5]]) (.seq (.reg law34_ScansShorten_r5 [.keep [5, 6, 7, 8, 9] [5]]) (.seq (.reg law34_ScansShorten_r6 [.keep [5, 6, 7, 8, 9, 10, 11] [5]]) (.seq (.reg law34_ScansShorten_r7 [.keep [5, 6, 7, 8, 9, 10, 11, 12, 13] [5]]) (.seq (.reg law34_ScansShorten_r8 [.keep [5, 6, 7, 8, 9, 10, 11, 12, 13, 14, 15] [5]]) (.seq (.seq (.reg law34_ScansShorten_r9 [.keep [5, 6, 7, 10, 12, 14, 96] [5]]) (.cond (.tmp 96) (.seq (.reg law34_ScansShorten_r10 [.keep [4] []]) .ret) .skip)) (.seq (.seq (.reg law34_ScansShorten_r11 [.keep [5, 6, 7, 10, 12, 14, 16] [5]]) (.block 0 law34_ScansShorten_l7)) (.seq (.reg law34_ScansShorten_r35 [.keep [4] []]) .ret))))))))))) Q s := Eq.trans rfl rfl
theorem law34_ScansShorten_l1_run (h : ∀ K : St → Prop, K = run P Γ law34_ScansShorten_l1 Q → run P Γ law34_ScansShorten_g0 (thenX K Q) s) : run P Γ law34_ScansShorten_l1 Q s := run_loop h
theorem law34_ScansShorten_l3_run (h : ∀ K : St → Prop, K = run P Γ law34_ScansShorten_l3 Q → run P Γ law34_ScansShorten_g2 (thenX K Q) s) : run P Γ law34_ScansShorten_l3 Q s := run_loop h
theorem law34_ScansShorten_l5_run (h : ∀ K : St → Prop, K = run P Γ law34_ScansShorten_l5 Q → run P Γ law34_ScansShorten_g4 (thenX K Q) s) : run P Γ law34_ScansShorten_l5 Q s := run_loop h
theorem law34_ScansShorten_l7_run (h : ∀ K : St → Prop, K = run P Γ law34_ScansShorten_l7 Q → run P Γ law34_ScansShorten_g6 (thenX K Q) s) : run P Γ law34_ScansShorten_l7 Q s := run_loop h
attribute [simp] law34_ScansShorten_r0 law34_ScansShorten_r1 law34_ScansShorten_r2 law34_ScansShorten_r3 law34_ScansShorten_r4 law34_ScansShorten_r5 law34_ScansShorten_r6 law34_ScansShorten_r7 law34_ScansShorten_r8 law34_ScansShorten_r9 law34_ScansShorten_r10 law34_ScansShorten_r11 law34_ScansShorten_r12 law34_ScansShorten_r14 law34_ScansShorten_r15 law34_ScansShorten_r16 law34_ScansShorten_r17 law34_ScansShorten_r19 law34_ScansShorten_r20 law34_ScansShorten_r21 law34_ScansShorten_r23 law34_ScansShorten_r24 law34_ScansShorten_r22 law34_ScansShorten_r25 law34_ScansShorten_r26 law34_ScansShorten_r27 law34_ScansShorten_r28 law34_ScansShorten_r30 law34_ScansShorten_r31 law34_ScansShorten_r32 law34_ScansShorten_r33 law34_ScansShorten_r34 law34_ScansShorten_r29 law34_ScansShorten_r18 law34_ScansShorten_r13 law34_ScansShorten_r35
def law34_ScansShorten_rv : List RV := [.tmp 4]

/- (probecard/probecardlaw34.Case).Of (function 19) -/
def law34_Case_Of_r0 : List RO := [
    ⟨some 1, .box false (.tmp 0), none, none⟩,
    ⟨some 2, .alloc false [(.slice none 0 0), (.slice none 0 0), (.slice none 0 0), (.slice none 0 0)], none, none⟩,
    ⟨some 3, .mv (.const (.slice none 0 0)), none, none⟩]
def law34_Case_Of_r1 : List RO := [
    ⟨some 5, .fadr 0 (.tmp 1), none, none⟩,
    ⟨some 6, .fadr 5 (.tmp 5), none, none⟩,
    ⟨none, .store 1 (.tmp 6) (.const (.bool false)), none, none⟩]
def law34_Case_Of_r2 : List RO := [
    ⟨some 7, .fadr 0 (.tmp 1), none, none⟩,
    ⟨some 8, .load 12 true (.tmp 7), none, none⟩,
    ⟨some 9, .call 12 [(.tmp 8)], none, none⟩,
    ⟨some 4, .alloc false [(.slice none 0 0), (.slice none 0 0), (.slice none 0 0), (.slice none 0 0)], none, none⟩,
    ⟨none, .store 4 (.tmp 4) (.tmp 9), none, none⟩]
def law34_Case_Of_r3 : List RO := [
    ⟨some 10, .ldR 4 4 true (.tmp 4), none, none⟩,
    ⟨some 11, .ldR 4 4 true (.tmp 4), none, none⟩,
    ⟨some 12, .fadr 12 (.tmp 1), none, none⟩,
    ⟨some 13, .ldR 1 1 false (.tmp 12), none, none⟩,
    ⟨some 14, .fadr 13 (.tmp 1), none, none⟩,
    ⟨some 15, .ldR 1 1 false (.tmp 14), none, none⟩,
    ⟨some 16, .call 48 [(.tmp 11), (.tmp 13), (.tmp 15)], none, none⟩,
    ⟨none, .stR 2 4 (.tmp 2) (.tmp 10), none, none⟩,
    ⟨some 3, .mv (.tmp 16), none, none⟩]
def law34_Case_Of_ic : IC := (.seq (.reg law34_Case_Of_r0 [.keep [1, 2] [1, 2]]) (.seq (.reg law34_Case_Of_r1 [.keep [1, 2] [1, 2]]) (.seq (.reg law34_Case_Of_r2 [.keep [1, 2, 4] [1, 2, 4]]) (.seq (.reg law34_Case_Of_r3 [.keep [2, 3] [2]]) .ret))))
@[simp ↓] theorem law34_Case_Of_ic_run : run P Γ law34_Case_Of_ic Q s = run P Γ (.seq (.reg law34_Case_Of_r0 [.keep [1, 2] [1, 2]]) (.seq (.reg law34_Case_Of_r1 [.keep [1, 2] [1, 2]]) (.seq (.reg law34_Case_Of_r2 [.keep [1, 2, 4] [1, 2, 4]]) (.seq (.reg law34_Case_Of_r3 [.keep [2, 3] [2]]) .ret)))) Q s := Eq.trans rfl rfl
attribute [simp] law34_Case_Of_r0 law34_Case_Of_r1 law34_Case_Of_r2 law34_Case_Of_r3
def law34_Case_Of_rv : List RV := [.cell 2 4 true, .tmp 3]

/- probecard/probecardlaw34.Places (function 20) -/
def law34_Places_r0 : List RO := [
    ⟨some 2, .box true (.tmp 0), none, none⟩,
    ⟨some 4, .mv (.const (.slice none 0 0)), none, none⟩]
def law34_Places_r1 : List RO := [
    ⟨some 5, .mv (.const (.slice none 0 0)), none, none⟩]
def law34_Places_r2 : List RO := [
    ⟨some 9, .load 4 true (.tmp 2), none, none⟩,
    ⟨some 10, .call 17 [(.tmp 9)], none, none⟩,
    ⟨some 11, .len 0 (.tmp 10), none, none⟩,
    ⟨some 6, .mv (.tmp 11), none, none⟩]
def law34_Places_r3 : List RO := [
    ⟨some 7, .mv (.const (.int .i64 0)), none, none⟩]
def law34_Places_r4 : List RO := [
    ⟨some 12, .mv (.tmp 7), none, none⟩,
    ⟨some 13, .mv (.tmp 6), none, none⟩,
    ⟨some 14, .bin .lss (.tmp 12) (.tmp 13), none, none⟩]
def law34_Places_r6 : List RO := [
    ⟨some 17, .build [(1, (.const (.int .i64 0))), (1, (.const (.int .i64 0)))], none, none⟩,
    ⟨some 8, .alloc false [(.int .i64 0), (.int .i64 0)], none, none⟩,
    ⟨none, .store 2 (.tmp 8) (.tmp 17), none, none⟩]
def law34_Places_r7 : List RO := [
    ⟨some 18, .mv (.tmp 1), none, none⟩,
    ⟨some 19, .len 0 (.tmp 18), none, none⟩,
    ⟨some 20, .bin .gtr (.tmp 19) (.const (.int .i64 0)), none, none⟩]
def law34_Places_r8 : List RO := [
    ⟨some 21, .mv (.tmp 1), none, none⟩,
    ⟨some 22, .mv (.tmp 7), none, none⟩,
    ⟨some 23, .mv (.tmp 1), none, none⟩,
    ⟨some 24, .len 0 (.tmp 23), none, none⟩,
    ⟨some 25, .bin .rem (.tmp 22) (.tmp 24), none, none⟩,
    ⟨some 26, .iadr 2 (.tmp 21) (.tmp 25), none, none⟩,
    ⟨some 27, .iadrA 2 1 (.tmp 26) (.const (.int .i64 0)), none, none⟩,
    ⟨some 28, .ldT 1 false (.tmp 27), none, none⟩,
    ⟨some 29, .conv .i64 (.tmp 28), none, none⟩,
    ⟨some 30, .mv (.tmp 1), none, none⟩,
    ⟨some 31, .mv (.tmp 7), none, none⟩,
    ⟨some 32, .mv (.tmp 1), none, none⟩,
    ⟨some 33, .len 0 (.tmp 32), none, none⟩,
    ⟨some 34, .bin .rem (.tmp 31) (.tmp 33), none, none⟩,
    ⟨some 35, .iadr 2 (.tmp 30) (.tmp 34), none, none⟩,
    ⟨some 36, .iadrA 2 1 (.tmp 35) (.const (.int .i64 1)), none, none⟩,
    ⟨some 37, .ldT 1 false (.tmp 36), none, none⟩,
    ⟨some 38, .conv .i64 (.tmp 37), none, none⟩,
    ⟨some 39, .build [(1, (.tmp 29)), (1, (.tmp 38))], none, none⟩,
    ⟨none, .stR 8 2 (.tmp 8) (.tmp 39), none, none⟩]
def law34_Places_r9 : List RO := [
    ⟨some 40, .mv (.tmp 5), none, none⟩,
    ⟨some 41, .load 2 true (.tmp 8), none, none⟩,
    ⟨some 42, .bsl true 93 2 [(.tmp 41)], none, none⟩,
    ⟨some 43, .app false 93 2 (.tmp 40) (.tmp 42), none, none⟩,
    ⟨some 5, .mv (.tmp 43), none, none⟩]
def law34_Places_r5 : List RO := [
    ⟨some 15, .mv (.tmp 7), none, none⟩,
    ⟨some 16, .bin .add (.tmp 15) (.const (.int .i64 1)), none, none⟩,
    ⟨some 7, .mv (.tmp 16), none, none⟩]
def law34_Places_g0 : IC := .gh (.seq (.seq (.reg law34_Places_r4 [.keep [1, 5, 6, 7, 14] [43]]) (.cond (.tmp 14) .skip (.exit 0))) (.seq (.block 1 (.seq (.reg law34_Places_r6 [.keep [1, 5, 6, 7, 8] [8, 43]]) (.seq (.seq (.reg law34_Places_r7 [.keep [1, 5, 6, 7, 8, 20] [8, 43]]) (.cond (.tmp 20) (.reg law34_Places_r8 [.keep [1, 5, 6, 7, 8] [8, 43]]) .skip)) (.reg law34_Places_r9 [.keep [1, 5, 6, 7] [43]])))) (.reg law34_Places_r5 [.keep [1, 5, 6, 7] [43]]))) [.keep [1, 5, 6, 7] [43]]
def law34_Places_l1 : IC := .loop law34_Places_g0
def law34_Places_r10 : List RO := [
    ⟨some 44, .mv (.tmp 5), none, none⟩,
    ⟨some 4, .mv (.tmp 44), none, none⟩]
def law34_Places_ic : IC := (.seq (.reg law34_Places_r0 [.keep [1, 2] []]) (.seq (.reg law34_Places_r1 [.nl 5 43 93 2, .keep [1, 2, 5] [43]]) (.seq (.reg law34_Places_r2 [.keep [1, 5, 6] [43]]) (.seq (.seq (.reg law34_Places_r3 [.keep [1, 5, 6, 7] [43]]) (.block 0 law34_Places_l1)) (.seq (.reg law34_Places_r10 [.keep [4] [43]]) .ret)))))
@[simp ↓] theorem law34_Places_g0_run : run P Γ law34_Places_g0 Q s = run P Γ (.gh (.seq (.seq (.reg law34_Places_r4 [.keep [1, 5, 6, 7, 14] [43]]) (.cond (.tmp 14) .skip (.exit 0))) (.seq (.block 1 (.seq (.reg law34_Places_r6 [.keep [1, 5, 6, 7, 8] [8, 43]]) (.seq (.seq (.reg law34_Places_r7 [.keep [1, 5, 6, 7, 8, 20] [8, 43]]) (.cond (.tmp 20) (.reg law34_Places_r8 [.keep [1, 5, 6, 7, 8] [8, 43]]) .skip)) (.reg law34_Places_r9 [.keep [1, 5, 6, 7] [43]])))) (.reg law34_Places_r5 [.keep [1, 5, 6, 7] [43]]))) [.keep [1, 5, 6, 7] [43]]) Q s := Eq.trans rfl rfl
@[simp ↓] theorem law34_Places_ic_run : run P Γ law34_Places_ic Q s = run P Γ (.seq (.reg law34_Places_r0 [.keep [1, 2] []]) (.seq (.reg law34_Places_r1 [.nl 5 43 93 2, .keep [1, 2, 5] [43]]) (.seq (.reg law34_Places_r2 [.keep [1, 5, 6] [43]]) (.seq (.seq (.reg law34_Places_r3 [.keep [1, 5, 6, 7] [43]]) (.block 0 law34_Places_l1)) (.seq (.reg law34_Places_r10 [.keep [4] [43]]) .ret))))) Q s := Eq.trans rfl rfl
theorem law34_Places_l1_run (h : ∀ K : St → Prop, K = run P Γ law34_Places_l1 Q → run P Γ law34_Places_g0 (thenX K Q) s) : run P Γ law34_Places_l1 Q s := run_loop h
attribute [simp] law34_Places_r0 law34_Places_r1 law34_Places_r2 law34_Places_r3 law34_Places_r4 law34_Places_r6 law34_Places_r7 law34_Places_r8 law34_Places_r9 law34_Places_r5 law34_Places_r10
def law34_Places_rv : List RV := [.tmp 4]

/- probecard/probecardlaw34.turned (function 23) -/
def law34_turned_r0 : List RO := [
    ⟨some 6, .mv (.const (.slice none 0 0)), none, none⟩]
def law34_turned_r1 : List RO := [
    ⟨some 8, .mv (.tmp 0), none, none⟩,
    ⟨some 9, .app false 3 1 (.const (.slice none 0 0)) (.tmp 8), none, none⟩,
    ⟨some 7, .mv (.tmp 9), none, none⟩]
def law34_turned_r2 : List RO := [
    ⟨some 10, .mv (.tmp 1), none, none⟩,
    ⟨some 11, .mv (.tmp 2), none, none⟩,
    ⟨some 12, .bin .lss (.tmp 10) (.tmp 11), none, none⟩]
def law34_turned_r3 : List RO := [
    ⟨some 13, .mv (.tmp 7), none, none⟩,
    ⟨some 14, .mv (.tmp 1), none, none⟩,
    ⟨some 15, .mv (.tmp 7), none, none⟩,
    ⟨some 16, .mv (.tmp 2), none, none⟩,
    ⟨some 17, .mv (.tmp 7), none, none⟩,
    ⟨some 18, .mv (.tmp 2), none, none⟩,
    ⟨some 19, .iadr 1 (.tmp 17) (.tmp 18), none, none⟩,
    ⟨some 20, .ldR 9 1 false (.tmp 19), none, none⟩,
    ⟨some 21, .mv (.tmp 7), none, none⟩,
    ⟨some 22, .mv (.tmp 1), none, none⟩,
    ⟨some 23, .iadr 1 (.tmp 21) (.tmp 22), none, none⟩,
    ⟨some 24, .ldR 9 1 false (.tmp 23), none, none⟩,
    ⟨some 25, .iadr 1 (.tmp 13) (.tmp 14), none, none⟩,
    ⟨none, .stR 9 1 (.tmp 25) (.tmp 20), none, none⟩,
    ⟨some 26, .iadr 1 (.tmp 15) (.tmp 16), none, none⟩,
    ⟨none, .stR 9 1 (.tmp 26) (.tmp 24), none, none⟩]
def law34_turned_r4 : List RO := [
    ⟨some 27, .mv (.tmp 1), none, none⟩,
    ⟨some 28, .bin .add (.tmp 27) (.const (.int .i64 1)), none, none⟩,
    ⟨some 1, .mv (.tmp 28), none, none⟩]
def law34_turned_r5 : List RO := [
    ⟨some 29, .mv (.tmp 2), none, none⟩,
    ⟨some 30, .bin .sub (.tmp 29) (.const (.int .i64 1)), none, none⟩,
    ⟨some 2, .mv (.tmp 30), none, none⟩]
def law34_turned_g0 : IC := .gh (.seq (.seq (.reg law34_turned_r2 [.keep [1, 2, 7, 12] [9]]) (.cond (.tmp 12) .skip (.exit 0))) (.block 1 (.seq (.reg law34_turned_r3 [.keep [1, 2, 7] [9]]) (.seq (.reg law34_turned_r4 [.keep [1, 2, 7] [9]]) (.reg law34_turned_r5 [.keep [1, 2, 7] [9]]))))) [.keep [1, 2, 7] [9]]
def law34_turned_l1 : IC := .loop law34_turned_g0
def law34_turned_r6 : List RO := [
    ⟨some 31, .mv (.tmp 7), none, none⟩,
    ⟨some 6, .mv (.tmp 31), none, none⟩]
def law34_turned_ic : IC := (.seq (.reg law34_turned_r0 [.keep [0, 1, 2] []]) (.seq (.reg law34_turned_r1 [.keep [1, 2, 7] [9]]) (.seq (.block 0 law34_turned_l1) (.seq (.reg law34_turned_r6 [.keep [6] [9]]) .ret))))
@[simp ↓] theorem law34_turned_g0_run : run P Γ law34_turned_g0 Q s = run P Γ (.gh (.seq (.seq (.reg law34_turned_r2 [.keep [1, 2, 7, 12] [9]]) (.cond (.tmp 12) .skip (.exit 0))) (.block 1 (.seq (.reg law34_turned_r3 [.keep [1, 2, 7] [9]]) (.seq (.reg law34_turned_r4 [.keep [1, 2, 7] [9]]) (.reg law34_turned_r5 [.keep [1, 2, 7] [9]]))))) [.keep [1, 2, 7] [9]]) Q s := Eq.trans rfl rfl
@[simp ↓] theorem law34_turned_ic_run : run P Γ law34_turned_ic Q s = run P Γ (.seq (.reg law34_turned_r0 [.keep [0, 1, 2] []]) (.seq (.reg law34_turned_r1 [.keep [1, 2, 7] [9]]) (.seq (.block 0 law34_turned_l1) (.seq (.reg law34_turned_r6 [.keep [6] [9]]) .ret)))) Q s := Eq.trans rfl rfl
theorem law34_turned_l1_run (h : ∀ K : St → Prop, K = run P Γ law34_turned_l1 Q → run P Γ law34_turned_g0 (thenX K Q) s) : run P Γ law34_turned_l1 Q s := run_loop h
attribute [simp] law34_turned_r0 law34_turned_r1 law34_turned_r2 law34_turned_r3 law34_turned_r4 law34_turned_r5 law34_turned_r6
def law34_turned_rv : List RV := [.tmp 6]

/- probecard/probecardlaw34.Chains (function 48) -/
def law34_Chains_r0 : List RO := [
    ⟨some 3, .box true (.tmp 0), none, none⟩,
    ⟨some 6, .mv (.const (.slice none 0 0)), none, none⟩]
def law34_Chains_r1 : List RO := [
    ⟨some 13, .load 4 true (.tmp 3), none, none⟩,
    ⟨some 14, .call 17 [(.tmp 13)], none, none⟩,
    ⟨some 15, .app false 3 1 (.const (.slice none 0 0)) (.tmp 14), none, none⟩,
    ⟨some 7, .mv (.tmp 15), none, none⟩]
def law34_Chains_r2 : List RO := [
    ⟨some 8, .mv (.const (.int .i64 0)), none, none⟩]
def law34_Chains_r3 : List RO := [
    ⟨some 16, .mv (.tmp 8), none, none⟩,
    ⟨some 17, .mv (.tmp 7), none, none⟩,
    ⟨some 18, .len 0 (.tmp 17), none, none⟩,
    ⟨some 19, .bin .lss (.tmp 16) (.tmp 18), none, none⟩,
    ⟨some 20, .mv (.tmp 19), none, none⟩,
    ⟨some 21, .mv (.tmp 8), some (20, true), none⟩,
    ⟨some 22, .mv (.tmp 1), some (20, true), none⟩,
    ⟨some 23, .len 0 (.tmp 22), some (20, true), none⟩,
    ⟨some 24, .bin .lss (.tmp 21) (.tmp 23), some (20, true), none⟩,
    ⟨some 25, .pick (.tmp 20) (.tmp 24) (.const (.bool false)), none, none⟩]
def law34_Chains_r5 : List RO := [
    ⟨some 28, .mv (.tmp 8), none, none⟩,
    ⟨some 29, .mv (.tmp 1), none, none⟩,
    ⟨some 30, .mv (.tmp 8), none, none⟩,
    ⟨some 31, .iadr 1 (.tmp 29) (.tmp 30), none, none⟩,
    ⟨some 32, .load 1 false (.tmp 31), none, none⟩,
    ⟨some 33, .conv .i64 (.tmp 32), none, none⟩,
    ⟨some 34, .mv (.tmp 7), none, none⟩,
    ⟨some 35, .len 0 (.tmp 34), none, none⟩,
    ⟨some 36, .mv (.tmp 8), none, none⟩,
    ⟨some 37, .bin .sub (.tmp 35) (.tmp 36), none, none⟩,
    ⟨some 38, .bin .rem (.tmp 33) (.tmp 37), none, none⟩,
    ⟨some 39, .bin .add (.tmp 28) (.tmp 38), none, none⟩,
    ⟨some 9, .mv (.tmp 39), none, none⟩]
def law34_Chains_r6 : List RO := [
    ⟨some 40, .mv (.tmp 7), none, none⟩,
    ⟨some 41, .mv (.tmp 8), none, none⟩,
    ⟨some 42, .mv (.tmp 7), none, none⟩,
    ⟨some 43, .mv (.tmp 9), none, none⟩,
    ⟨some 44, .mv (.tmp 7), none, none⟩,
    ⟨some 45, .mv (.tmp 9), none, none⟩,
    ⟨some 46, .iadr 1 (.tmp 44) (.tmp 45), none, none⟩,
    ⟨some 47, .ldR 15 1 false (.tmp 46), none, none⟩,
    ⟨some 48, .mv (.tmp 7), none, none⟩,
    ⟨some 49, .mv (.tmp 8), none, none⟩,
    ⟨some 50, .iadr 1 (.tmp 48) (.tmp 49), none, none⟩,
    ⟨some 51, .ldR 15 1 false (.tmp 50), none, none⟩,
    ⟨some 52, .iadr 1 (.tmp 40) (.tmp 41), none, none⟩,
    ⟨none, .stR 15 1 (.tmp 52) (.tmp 47), none, none⟩,
    ⟨some 53, .iadr 1 (.tmp 42) (.tmp 43), none, none⟩,
    ⟨none, .stR 15 1 (.tmp 53) (.tmp 51), none, none⟩]
def law34_Chains_r4 : List RO := [
    ⟨some 26, .mv (.tmp 8), none, none⟩,
    ⟨some 27, .bin .add (.tmp 26) (.const (.int .i64 1)), none, none⟩,
    ⟨some 8, .mv (.tmp 27), none, none⟩]
def law34_Chains_g0 : IC := .gh (.seq (.seq (.reg law34_Chains_r3 [.keep [1, 2, 7, 8, 25] [15]]) (.cond (.tmp 25) .skip (.exit 0))) (.seq (.block 1 (.seq (.reg law34_Chains_r5 [.keep [1, 2, 7, 8, 9] [15]]) (.reg law34_Chains_r6 [.keep [1, 2, 7, 8] [15]]))) (.reg law34_Chains_r4 [.keep [1, 2, 7, 8] [15]]))) [.keep [1, 2, 7, 8] [15]]
def law34_Chains_l1 : IC := .loop law34_Chains_g0
def law34_Chains_r7 : List RO := [
    ⟨some 10, .mv (.const (.slice none 0 0)), none, none⟩]
def law34_Chains_r8 : List RO := [
    ⟨some 11, .mv (.const (.int .i64 0)), none, none⟩]
def law34_Chains_r9 : List RO := [
    ⟨some 54, .mv (.tmp 11), none, none⟩,
    ⟨some 55, .mv (.tmp 2), none, none⟩,
    ⟨some 56, .len 0 (.tmp 55), none, none⟩,
    ⟨some 57, .bin .lss (.tmp 54) (.tmp 56), none, none⟩,
    ⟨some 58, .mv (.tmp 57), none, none⟩,
    ⟨some 59, .mv (.tmp 7), some (58, true), none⟩,
    ⟨some 60, .len 0 (.tmp 59), some (58, true), none⟩,
    ⟨some 61, .bin .gtr (.tmp 60) (.const (.int .i64 0)), some (58, true), none⟩,
    ⟨some 62, .pick (.tmp 58) (.tmp 61) (.const (.bool false)), none, none⟩]
def law34_Chains_r11 : List RO := [
    ⟨some 65, .mv (.tmp 2), none, none⟩,
    ⟨some 66, .mv (.tmp 11), none, none⟩,
    ⟨some 67, .iadr 1 (.tmp 65) (.tmp 66), none, none⟩,
    ⟨some 68, .load 1 false (.tmp 67), none, none⟩,
    ⟨some 69, .conv .i64 (.tmp 68), none, none⟩,
    ⟨some 70, .mv (.tmp 7), none, none⟩,
    ⟨some 71, .len 0 (.tmp 70), none, none⟩,
    ⟨some 72, .bin .rem (.tmp 69) (.tmp 71), none, none⟩,
    ⟨some 73, .bin .add (.const (.int .i64 1)) (.tmp 72), none, none⟩,
    ⟨some 12, .mv (.tmp 73), none, none⟩]
def law34_Chains_r12 : List RO := [
    ⟨some 74, .mv (.tmp 10), none, none⟩,
    ⟨some 75, .mv (.tmp 7), none, none⟩,
    ⟨some 76, .mv (.tmp 12), none, none⟩,
    ⟨some 77, .slice 1 (.tmp 75) none (some (.tmp 76)) none, none, none⟩,
    ⟨some 78, .appT 3 1 (.const (.slice none 0 0)) (.tmp 77), none, none⟩,
    ⟨some 79, .bsl true 31 1 [(.tmp 78)], none, none⟩,
    ⟨some 80, .app false 31 1 (.tmp 74) (.tmp 79), none, none⟩,
    ⟨some 10, .mv (.tmp 80), none, none⟩]
def law34_Chains_r13 : List RO := [
    ⟨some 81, .mv (.tmp 7), none, none⟩,
    ⟨some 82, .mv (.tmp 12), none, none⟩,
    ⟨some 83, .slice 1 (.tmp 81) (some (.tmp 82)) none none, none, none⟩,
    ⟨some 7, .mv (.tmp 83), none, none⟩]
def law34_Chains_r10 : List RO := [
    ⟨some 63, .mv (.tmp 11), none, none⟩,
    ⟨some 64, .bin .add (.tmp 63) (.const (.int .i64 1)), none, none⟩,
    ⟨some 11, .mv (.tmp 64), none, none⟩]
def law34_Chains_g2 : IC := .gh (.seq (.seq (.reg law34_Chains_r9 [.keep [2, 7, 10, 11, 62] [15, 80]]) (.cond (.tmp 62) .skip (.exit 2))) (.seq (.block 3 (.seq (.reg law34_Chains_r11 [.keep [2, 7, 10, 11, 12] [15, 80]]) (.seq (.reg law34_Chains_r12 [.keep [2, 7, 10, 11, 12] [15, 80]]) (.reg law34_Chains_r13 [.keep [2, 7, 10, 11] [15, 80]])))) (.reg law34_Chains_r10 [.keep [2, 7, 10, 11] [15, 80]]))) [.keep [2, 7, 10, 11] [15, 80]]
def law34_Chains_l3 : IC := .loop law34_Chains_g2
def law34_Chains_r14 : List RO := [
    ⟨some 84, .mv (.tmp 7), none, none⟩,
    ⟨some 85, .len 0 (.tmp 84), none, none⟩,
    ⟨some 86, .bin .gtr (.tmp 85) (.const (.int .i64 0)), none, none⟩]
def law34_Chains_r15 : List RO := [
    ⟨some 87, .mv (.tmp 10), none, none⟩,
    ⟨some 88, .mv (.tmp 7), none, none⟩,
    ⟨some 89, .appT 3 1 (.const (.slice none 0 0)) (.tmp 88), none, none⟩,
    ⟨some 90, .bsl true 31 1 [(.tmp 89)], none, none⟩,
    ⟨some 91, .app false 31 1 (.tmp 87) (.tmp 90), none, some 80⟩,
    ⟨some 10, .mv (.tmp 91), none, none⟩]
def law34_Chains_r16 : List RO := [
    ⟨some 92, .mv (.tmp 10), none, none⟩,
    ⟨some 6, .mv (.tmp 92), none, none⟩]
def law34_Chains_ic : IC := (.seq (.reg law34_Chains_r0 [.keep [1, 2, 3] []]) (.seq (.reg law34_Chains_r1 [.keep [1, 2, 7] [15]]) (.seq (.seq (.reg law34_Chains_r2 [.keep [1, 2, 7, 8] [15]]) (.block 0 law34_Chains_l1)) (.seq (.reg law34_Chains_r7 [.nl 10 80 31 1, .keep [2, 7, 10] [15, 80]]) (.seq (.seq (.reg law34_Chains_r8 [.keep [2, 7, 10, 11] [15, 80]]) (.block 2 law34_Chains_l3)) (.seq (.seq (.reg law34_Chains_r14 [.keep [7, 10, 86] [15, 80]]) (.cond (.tmp 86) (.reg law34_Chains_r15 [.keep [10] [80]]) .skip)) (.seq (.reg law34_Chains_r16 [.keep [6] [80]]) .ret)))))))
@[simp ↓] theorem law34_Chains_g0_run : run P Γ law34_Chains_g0 Q s = run P Γ (.gh (.seq (.seq (.reg law34_Chains_r3 [.keep [1, 2, 7, 8, 25] [15]]) (.cond (.tmp 25) .skip (.exit 0))) (.seq (.block 1 (.seq (.reg law34_Chains_r5 [.keep [1, 2, 7, 8, 9] [15]]) (.reg law34_Chains_r6 [.keep [1, 2, 7, 8] [15]]))) (.reg law34_Chains_r4 [.keep [1, 2, 7, 8] [15]]))) [.keep [1, 2, 7, 8] [15]]) Q s := Eq.trans rfl rfl
@[simp ↓] theorem law34_Chains_g2_run : run P Γ law34_Chains_g2 Q s = run P Γ (.gh (.seq (.seq (.reg law34_Chains_r9 [.keep [2, 7, 10, 11, 62] [15, 80]]) (.cond (.tmp 62) .skip (.exit 2))) (.seq (.block 3 (.seq (.reg law34_Chains_r11 [.keep [2, 7, 10, 11, 12] [15, 80]]) (.seq (.reg law34_Chains_r12 [.keep [2, 7, 10, 11, 12] [15, 80]]) (.reg law34_Chains_r13 [.keep [2, 7, 10, 11] [15, 80]])))) (.reg law34_Chains_r10 [.keep [2, 7, 10, 11] [15, 80]]))) [.keep [2, 7, 10, 11] [15, 80]]) Q s := Eq.trans rfl rfl
@[simp ↓] theorem law34_Chains_ic_run : run P Γ law34_Chains_ic Q s = run P Γ (.seq (.reg law34_Chains_r0 [.keep [1, 2, 3] []]) (.seq (.reg law34_Chains_r1 [.keep [1, 2, 7] [15]]) (.seq (.seq (.reg law34_Chains_r2 [.keep [1, 2, 7, 8] [15]]) (.block 0 law34_Chains_l1)) (.seq (.reg law34_Chains_r7 [.nl 10 80 31 1, .keep [2, 7, 10] [15, 80]]) (.seq (.seq (.reg law34_Chains_r8 [.keep [2, 7, 10, 11] [15, 80]]) (.block 2 law34_Chains_l3)) (.seq (.seq (.reg law34_Chains_r14 [.keep [7, 10, 86] [15, 80]]) (.cond (.tmp 86) (.reg law34_Chains_r15 [.keep [10] [80]]) .skip)) (.seq (.reg law34_Chains_r16 [.keep [6] [80]]) .ret))))))) Q s := Eq.trans rfl rfl
theorem law34_Chains_l1_run (h : ∀ K : St → Prop, K = run P Γ law34_Chains_l1 Q → run P Γ law34_Chains_g0 (thenX K Q) s) : run P Γ law34_Chains_l1 Q s := run_loop h
theorem law34_Chains_l3_run (h : ∀ K : St → Prop, K = run P Γ law34_Chains_l3 Q → run P Γ law34_Chains_g2 (thenX K Q) s) : run P Γ law34_Chains_l3 Q s := run_loop h
attribute [simp] law34_Chains_r0 law34_Chains_r1 law34_Chains_r2 law34_Chains_r3 law34_Chains_r5 law34_Chains_r6 law34_Chains_r4 law34_Chains_r7 law34_Chains_r8 law34_Chains_r9 law34_Chains_r11 law34_Chains_r12 law34_Chains_r13 law34_Chains_r10 law34_Chains_r14 law34_Chains_r15 law34_Chains_r16
def law34_Chains_rv : List RV := [.tmp 6]
end
end Go.Lg

/- The abstract code is that of the program (by the kernel). Conditions: none. -/
namespace Go.Lg
open Go Go.Proofs
theorem law34_ScansShorten_chk : chkF Tryd.prog 5 law34_ScansShorten_ic 219 2 law34_ScansShorten_rv = true := by kernel_rfl
theorem law34_Case_Of_chk : chkF Tryd.prog 19 law34_Case_Of_ic 17 1 law34_Case_Of_rv = true := by kernel_rfl
theorem law34_Places_chk : chkF Tryd.prog 20 law34_Places_ic 45 2 law34_Places_rv = true := by kernel_rfl
theorem law34_turned_chk : chkF Tryd.prog 23 law34_turned_ic 32 3 law34_turned_rv = true := by kernel_rfl
theorem law34_Chains_chk : chkF Tryd.prog 48 law34_Chains_ic 93 3 law34_Chains_rv = true := by kernel_rfl
end Go.Lg

/- turned, Places, Chains. Conditions: none. -/
set_option linter.unusedSimpArgs false
set_option linter.unusedVariables false
set_option maxRecDepth 100000
namespace Go.Lg
open Go Go.Proofs
variable {Γ : Tables}

theorem turned_loop {Q : AX → St → Prop} (n : Nat) (hn : n ≤ 1000000000) (R : List Int) (h0 : ∀ a b : Int, Q (.exit 0) ⟨[(1, .t (tI a)), (2, .t (tI b)), (7, .ls 9 0 n none), (12, .t (tB false))], [(9, .sl 3 1 (ints R))]⟩) :
    ∀ (f a b : Nat) (l : List Int), l.length = n → b < n → b + 1 ≤ f + a → revL f a b l = R →
    run Tryd.prog Γ law34_turned_l1 Q ⟨[(1, .t (tI a)), (2, .t (tI b)), (7, .ls 9 0 n none)], [(9, .sl 3 1 (ints l))]⟩
  | 0, a, b, l, hl, hb, hf, hR => by
    refine law34_turned_l1_run fun K hK => ?_
    simp only [revL] at hR
    subst hR
    have h2 : ¬ a < b := by omega
    simp [h2]
    exact h0 _ _
  | f + 1, a, b, l, hl, hb, hf, hR => by
    refine law34_turned_l1_run fun K hK => ?_
    simp only [revL] at hR
    by_cases h2 : a < b
    · rw [if_pos h2] at hR
      have ih := turned_loop n hn R h0 f (a + 1) (b - 1) (swapL l a b) (by rw [swapL_len]; exact hl) (by omega) (by omega) hR
      have hb2 : ((b : Int) - 1) = ((b - 1 : Nat) : Int) := by omega
      have la : a < l.length := by omega
      have lb : b < l.length := by omega
      have ga : l[a]?.getD 0 = l.getD a 0 := by simp [List.getD_eq_getElem?_getD]
      have gb : l[b]?.getD 0 = l.getD b 0 := by simp [List.getD_eq_getElem?_getD]
      have e1 := enc1_get (f := tI) 0 la
      have e2 := enc1_get (f := tI) 0 lb
      rw [ga] at e1
      rw [gb] at e2
      have hs : ints (swapL l a b) = ((ints l).set a [tI (l.getD b 0)]).set b [tI (l.getD a 0)] := by
        show enc1 tI _ = ((enc1 tI l).set a _).set b _
        rw [enc1_set, enc1_set]; rfl
      rw [hs] at ih
      generalize l.getD a 0 = va at *
      generalize l.getD b 0 = vb at *
      have la' : a < n := by omega
      simp (disch := omega) [h2, la', hb, enc1_len, hl, e1, e2, wrap_i64, hb2]
      rw [hK]
      simpa using ih
    · rw [if_neg h2] at hR
      subst hR
      simp [h2]
      exact h0 _ _

theorem turned_spec (l : List Int) (cap : Option Nat) (nl : Option Bool) (a b : Nat) (hl : l.length ≤ 1000000000) (hab : a ≤ b) (hb : b < l.length) : FreshCalls Tryd.prog Γ 23 [.sl (ints l) cap nl, tI a, tI b] (.sl (ints (revP l a (b + 1 - a))) none none) := by
  refine run_freshQ law34_turned_chk rfl ?_
  have hlp := fun Q h0 => turned_loop (Γ := Γ) (Q := Q) l.length hl (revP l a (b + 1 - a)) h0 (b + 1 - a + 1) a b l rfl hb (by omega) (by unfold revP; congr 1; omega)
  have hlen : (revP l a (b + 1 - a)).length = l.length := revP_len
  have htk : (ints (revP l a (b + 1 - a))).take l.length = ints (revP l a (b + 1 - a)) := List.take_of_length_le (by rw [enc1_len, hlen]; exact Nat.le_refl _)
  have hne : ¬ l = [] := fun e => by subst e; simp at hb
  simp (disch := omega) [law34_turned_ic, enc1_len, enc1_wid, hne]
  refine ⟨by omega, hlp _ fun a b => ?_⟩
  simp [law34_turned_rv, reify, htk]

abbrev tH (n : Int) : T := .v (.int .i16 n)
def tP16 (p : Int × Int) : List T := [tH p.1, tH p.2]
theorem tP16_wid {l : List (Int × Int)} : wid 2 (encN tP16 l) := encN_wid fun _ => rfl
def H16 (p : Int × Int) : Prop := -32768 ≤ p.1 ∧ p.1 ≤ 32767 ∧ -32768 ≤ p.2 ∧ p.2 ≤ 32767
def placeAt (ps : List (Int × Int)) (i : Nat) : Pnt := if ps = [] then (0, 0) else ps.getD (i % ps.length) (0, 0)

theorem places_loop {Q : AX → St → Prop} (ps : Sl (Int × Int)) (hps : ∀ p ∈ ps.l, H16 p) (hpl : ps.l.length ≤ 1000000000) (n : Nat) (hn : n ≤ 1000000000) (R : List Pnt)
    (h0 : Q (.exit 0) ⟨[(1, .t (.sl (encN tP16 ps.l) ps.cap ps.nl)), (5, .ls 43 0 n none), (6, .t (tI n)), (7, .t (tI n)), (14, .t (tB false))], [(43, .sl 93 2 (encN cPnt R))]⟩) : ∀ (k i : Nat) (pts : List Pnt), k + i = n → pts ++ (List.range' i k).map (placeAt ps.l) = R → pts.length = i →
    run Tryd.prog Γ law34_Places_l1 Q ⟨[(1, .t (.sl (encN tP16 ps.l) ps.cap ps.nl)), (5, .ls 43 0 i none), (6, .t (tI n)), (7, .t (tI i))], [(43, .sl 93 2 (encN cPnt pts))]⟩
  | 0, i, pts, h, hR, hl => by
    refine law34_Places_l1_run fun K hK => ?_
    simp only [List.range'_zero, List.map_nil, List.append_nil] at hR
    subst hR
    have h2 : ¬ i < n := by omega
    have h3 : i = n := by omega
    simp [h2]
    subst h3
    exact h0
  | k + 1, i, pts, h, hR, hl => by
    refine law34_Places_l1_run fun K hK => ?_
    have h2 : i < n := by omega
    rw [List.range'_succ, List.map_cons] at hR
    have ih := places_loop ps hps hpl n hn R h0 k (i + 1) (pts ++ [placeAt ps.l i]) (by omega) (by rw [← hR]; simp) (by simp; omega)
    have ht : (encN cPnt pts).take i = encN cPnt pts := List.take_of_length_le (by simp [encN]; omega)
    have q : ∀ p : Pnt, encN cPnt pts ++ [[tI p.1, tI p.2]] = encN cPnt (pts ++ [p]) := fun p => encN_snoc (f := cPnt) (x := p)
    have hw : ∀ p : Pnt, wid 2 [[tI p.1, tI p.2]] := fun p => by intro e he; simp at he; subst he; rfl
    by_cases h0 : ps.l = []
    · have e : placeAt ps.l i = (0, 0) := by simp [placeAt, h0]
      rw [e] at ih
      have q0 := q (0, 0)
      have hw0 := hw (0, 0)
      simp only at q0 hw0
      simp (disch := omega) [h2, encN_len, h0, wrap_i64, cPnt_wid, ht, q0, hw0]
      refine ⟨by omega, ?_⟩
      rw [hK]
      simpa [h0] using ih
    · have hpos : 0 < ps.l.length := by cases hh : ps.l with | nil => exact absurd hh h0 | cons a b => simp
      have hpos' : (0 : Int) < ps.l.length := by omega
      have hne' : ¬ (ps.l.length : Int) = 0 := by omega
      have hmod : (i : Int).tmod (ps.l.length : Int) = ((i % ps.l.length : Nat) : Int) := by rw [Int.natCast_emod]; exact Int.tmod_eq_emod_of_nonneg (by omega)
      have hlt : i % ps.l.length < ps.l.length := Nat.mod_lt _ hpos
      have e : placeAt ps.l i = ps.l.getD (i % ps.l.length) (0, 0) := by simp [placeAt, h0]
      rw [e] at ih
      generalize hj : i % ps.l.length = j at *
      have hget := encN_get (f := tP16) (0, 0) hlt
      have hmem : ps.l.getD j (0, 0) ∈ ps.l := by rw [List.getD_eq_getElem?_getD, List.getElem?_eq_getElem hlt]; exact List.getElem_mem hlt
      have hh := hps _ hmem
      have hgg : ps.l[j]?.getD (0, 0) = ps.l.getD j (0, 0) := by simp [List.getD_eq_getElem?_getD]
      rw [hgg] at hget
      generalize ps.l.getD j (0, 0) = p at *
      obtain ⟨b1, b2, b3, b4⟩ := hh
      simp only [tP16] at hget
      simp (disch := omega) [h2, encN_len, h0, hpos, hpos', hne', hmod, hlt, hget, tP16_wid, wrap_i64, cPnt_wid, ht, q p, hw p, -Int.natCast_emod]
      refine ⟨by omega, ?_⟩
      rw [hK]
      simpa using ih

theorem Places_spec (c : Cir) (hc : COk c) (ps : Sl (Int × Int)) (hps : ∀ p ∈ ps.l, H16 p) (hpl : ps.l.length ≤ 1000000000) :
    PureCalls Tryd.prog Γ 20 [.agg (tC c), .sl (encN tP16 ps.l) ps.cap ps.nl] (tPts ⟨(List.range' 0 (states c).length).map (placeAt ps.l), none, none⟩) := by
  refine run_pureQ law34_Places_chk rfl ?_
  have hsl := states_len c
  have hcn := hc.nodes
  have hlp := fun Q h0 => places_loop (Γ := Γ) (Q := Q) ps hps hpl (states c).length (by omega) _ h0 (states c).length 0 [] (by omega) rfl rfl
  have htk : (encN cPnt ((List.range' 0 (states c).length).map (placeAt ps.l))).take (states c).length = encN cPnt ((List.range' 0 (states c).length).map (placeAt ps.l)) := List.take_of_length_le (by simp [encN])
  simp only [List.nil_append] at hlp
  generalize (List.range' 0 (states c).length).map (placeAt ps.l) = R at *
  simp [law34_Places_ic, tC, tNodes, tNames, tMems, tSl]
  refine callK_pure (states_spec c hc) rfl ?_
  simp [enc1_len]
  refine hlp _ ?_
  simp [law34_Places_rv, reify, htk, tPts]

def permS : Nat → Nat → List Int → List Int → List Int
  | 0, _, _, l => l
  | f + 1, i, keys, l => permS f (i + 1) keys (swapL l i (i + (keys.getD i 0).toNat % (l.length - i)))
def cutS : List Int → List Int → List (Sl Int)
  | [], l => if l = [] then [] else [⟨l, none, none⟩]
  | b :: cuts, l => if l = [] then [] else ⟨l.take (1 + b.toNat % l.length), none, none⟩ :: cutS cuts (l.drop (1 + b.toNat % l.length))

theorem permS_perm : ∀ (f i : Nat) (keys l : List Int), i + f ≤ l.length → (permS f i keys l).Perm l
  | 0, _, _, l, _ => List.Perm.refl l
  | f + 1, i, keys, l, h => by
    simp only [permS]
    have hm := Nat.mod_lt (keys.getD i 0).toNat (show 0 < l.length - i by omega)
    exact (permS_perm f (i + 1) keys _ (by rw [swapL_len]; omega)).trans (swapL_perm (by omega) (by omega))
theorem permS_len {f i : Nat} {keys l : List Int} (h : i + f ≤ l.length) : (permS f i keys l).length = l.length := (permS_perm f i keys l h).length_eq
theorem cutS_elems : ∀ (cuts l : List Int), elems (cutS cuts l) = l
  | [], l => by
    simp only [cutS]
    split
    · rename_i h; rw [h]; rfl
    · simp [elems]
  | b :: cuts, l => by
    simp only [cutS]
    split
    · rename_i h; rw [h]; rfl
    · rw [elems_cons, cutS_elems cuts]; exact List.take_append_drop _ _
theorem cutS_ne : ∀ (cuts l : List Int), ∀ s ∈ cutS cuts l, s.l ≠ [] ∧ s.nl ≠ some true
  | [], l, s, hs => by
    simp only [cutS] at hs
    split at hs
    · cases hs
    · rename_i h; simp at hs; subst hs; exact ⟨h, by simp⟩
  | b :: cuts, l, s, hs => by
    simp only [cutS] at hs
    split at hs
    · cases hs
    · rename_i h
      rcases List.mem_cons.1 hs with rfl | hs
      · refine ⟨fun e => ?_, by simp⟩
        have := congrArg List.length e
        have hp : 0 < l.length := List.length_pos_iff.2 h
        rw [List.length_take, List.length_nil] at this; omega
      · exact cutS_ne cuts _ s hs
theorem elems_le : ∀ (l : List (Sl Int)), (∀ s ∈ l, s.l ≠ []) → l.length ≤ (elems l).length ∧ ∀ s ∈ l, s.l.length ≤ (elems l).length
  | [], _ => by simp [elems_nil]
  | x :: l, h => by
    obtain ⟨h1, h2⟩ := elems_le l fun s hs => h s (List.mem_cons_of_mem _ hs)
    have h3 : 0 < x.l.length := List.length_pos_iff.2 (h x List.mem_cons_self)
    rw [elems_cons, List.length_append]
    refine ⟨by simp only [List.length_cons]; omega, fun s hs => ?_⟩
    rcases List.mem_cons.1 hs with rfl | hs
    · omega
    · have := h2 s hs; omega

theorem perm_loop {Q : AX → St → Prop} (keys : Sl Int) (hk : ∀ b ∈ keys.l, Byt b) (a2 : T) (n : Nat) (hn : n ≤ 1000000000) (R : List Int)
    (h0 : Q (.exit 0) ⟨[(1, .t (.sl (enc1 tK keys.l) keys.cap keys.nl)), (2, .t a2), (7, .ls 15 0 n none), (8, .t (tI (min n keys.l.length : Nat))), (25, .t (tB false))], [(15, .sl 3 1 (ints R))]⟩) : ∀ (k i : Nat) (l : List Int), k + i = min n keys.l.length → permS k i keys.l l = R → l.length = n →
    run Tryd.prog Γ law34_Chains_l1 Q ⟨[(1, .t (.sl (enc1 tK keys.l) keys.cap keys.nl)), (2, .t a2), (7, .ls 15 0 n none), (8, .t (tI i))], [(15, .sl 3 1 (ints l))]⟩
  | 0, i, l, h, hR, hl => by
    refine law34_Chains_l1_run fun K hK => ?_
    simp only [permS] at hR
    subst hR
    have hi : i = min n keys.l.length := by omega
    by_cases h2 : i < n
    · have h3 : ¬ i < keys.l.length := by omega
      simp (disch := omega) [h2, h3, enc1_len]
      subst hi
      simpa using h0
    · simp (disch := omega) [h2, enc1_len]
      subst hi
      simpa using h0
  | k + 1, i, l, h, hR, hl => by
    refine law34_Chains_l1_run fun K hK => ?_
    have h2 : i < n := by omega
    have h3 : i < keys.l.length := by omega
    simp only [permS] at hR
    have ih := perm_loop keys hk a2 n hn R h0 k (i + 1) _ (by omega) hR (by rw [swapL_len]; exact hl)
    have hget := enc1_get (f := tK) 0 h3
    have hkg : keys.l[i]?.getD 0 = keys.l.getD i 0 := by simp [List.getD_eq_getElem?_getD]
    rw [hkg] at hget
    have hmem : keys.l.getD i 0 ∈ keys.l := by rw [getD_eq h3]; exact List.getElem_mem h3
    obtain ⟨b0, b1⟩ := hk _ hmem
    generalize keys.l.getD i 0 = b at *
    rw [hl] at ih
    have hm := Nat.mod_lt b.toNat (show 0 < n - i by omega)
    have hne : ¬ ((n : Int) - i = 0) := by omega
    have hmod : b.tmod ((n : Int) - i) = ((b.toNat % (n - i) : Nat) : Int) := by
      have e1 : b = (b.toNat : Int) := by omega
      have e2 : ((n : Int) - i) = ((n - i : Nat) : Int) := by omega
      rw [e2, Int.natCast_emod, ← e1]; exact Int.tmod_eq_emod_of_nonneg (by omega)
    generalize b.toNat % (n - i) = q at *
    have hj : i + q < n := by omega
    have la : i < l.length := by omega
    have lb : i + q < l.length := by omega
    have ga : l[i]?.getD 0 = l.getD i 0 := by simp [List.getD_eq_getElem?_getD]
    have gb : l[i + q]?.getD 0 = l.getD (i + q) 0 := by simp [List.getD_eq_getElem?_getD]
    have e1 := enc1_get (f := tI) 0 la
    have e2 := enc1_get (f := tI) 0 lb
    rw [ga] at e1
    rw [gb] at e2
    have hs : ints (swapL l i (i + q)) = ((ints l).set i [tI (l.getD (i + q) 0)]).set (i + q) [tI (l.getD i 0)] := by
      show enc1 tI _ = ((enc1 tI l).set _ _).set _ _
      rw [enc1_set, enc1_set]; rfl
    rw [hs] at ih
    generalize l.getD i 0 = va at *
    generalize l.getD (i + q) 0 = vb at *
    have hiq : ((i : Int) + q).toNat = i + q := by omega
    have hiq2 : (i : Int) + q < n := by omega
    simp (disch := omega) [h2, h3, enc1_len, enc1_wid, hget, hl, hne, hmod, e1, e2, hiq, hiq2, hj, wrap_i64]
    refine ⟨by omega, ?_⟩
    rw [hK]
    simpa using ih

theorem cut_loop {Q : AX → St → Prop} (cuts : Sl Int) (hk : ∀ b ∈ cuts.l, Byt b) (L : List Int) (hL : L.length ≤ 1000000000) (R : List (Sl Int))
    (h0 : ∀ (i off len : Nat) (out : List (Sl Int)), out.length ≤ off → off + len = L.length → out ++ (if L.drop off = [] then [] else [⟨L.drop off, none, none⟩]) = R → Q (.exit 2) ⟨[(2, .t (.sl (enc1 tK cuts.l) cuts.cap cuts.nl)), (7, .ls 15 off len none), (10, .ls 80 0 out.length none), (11, .t (tI i)), (62, .t (tB false))], [(15, .sl 3 1 (ints L)), (80, .sl 31 1 (enc1 tSl out))]⟩) : ∀ (k i off len : Nat) (out : List (Sl Int)), k + i = cuts.l.length → off + len = L.length → out ++ cutS (cuts.l.drop i) (L.drop off) = R → out.length ≤ off → i = out.length →
    run Tryd.prog Γ law34_Chains_l3 Q ⟨[(2, .t (.sl (enc1 tK cuts.l) cuts.cap cuts.nl)), (7, .ls 15 off len none), (10, .ls 80 0 out.length none), (11, .t (tI i))], [(15, .sl 3 1 (ints L)), (80, .sl 31 1 (enc1 tSl out))]⟩
  | 0, i, off, len, out, h, ho, hR, hl, hio => by
    refine law34_Chains_l3_run fun K hK => ?_
    have h2 : ¬ i < cuts.l.length := by omega
    rw [List.drop_of_length_le (by omega)] at hR
    simp only [cutS] at hR
    simp [h2, enc1_len]
    exact h0 i off len out hl ho hR
  | k + 1, i, off, len, out, h, ho, hR, hl, hio => by
    refine law34_Chains_l3_run fun K hK => ?_
    have h2 : i < cuts.l.length := by omega
    by_cases hlen : len = 0
    · subst hlen
      have hd : L.drop off = [] := List.drop_of_length_le (by omega)
      rw [hd] at hR
      have hR' : out ++ (if L.drop off = [] then [] else [⟨L.drop off, none, none⟩]) = R := by
        rw [hd]
        rw [List.drop_eq_getElem_cons h2] at hR
        simpa [cutS] using hR
      simp [h2, enc1_len]
      exact h0 i off 0 out hl ho hR'
    have hdl : (L.drop off).length = len := by simp; omega
    have hdn : ¬ L.drop off = [] := fun e => by rw [e] at hdl; simp at hdl; omega
    rw [List.drop_eq_getElem_cons h2] at hR
    simp only [cutS, if_neg hdn, hdl] at hR
    have hget := enc1_get (f := tK) 0 h2
    have hkg : cuts.l[i]?.getD 0 = cuts.l[i] := by simp [h2]
    rw [hkg] at hget
    obtain ⟨b0, b1⟩ := hk _ (List.getElem_mem h2)
    generalize cuts.l[i] = b at *
    have hm := Nat.mod_lt b.toNat (show 0 < len by omega)
    have hne : ¬ (len : Int) = 0 := by omega
    have hmod : b.tmod (len : Int) = ((b.toNat % len : Nat) : Int) := by
      have e1 : b = (b.toNat : Int) := by omega
      rw [Int.natCast_emod, ← e1]; exact Int.tmod_eq_emod_of_nonneg (by omega)
    generalize b.toNat % len = q at *
    have ih := cut_loop cuts hk L hL R h0 k (i + 1) (off + (1 + q)) (len - (1 + q)) (out ++ [⟨(L.drop off).take (1 + q), none, none⟩]) (by omega) (by omega) (by rw [← hR, List.append_assoc, List.drop_drop]; rfl) (by simp; omega) (by simp; omega)
    have ht : ∀ n, (ints L).drop n = ints (L.drop n) := fun n => enc1_drop
    have ht2 : ∀ n (l : List Int), (ints l).take n = ints (l.take n) := fun n l => enc1_take
    have htk : (enc1 tSl out).take out.length = enc1 tSl out := List.take_of_length_le (by rw [enc1_len]; exact Nat.le_refl _)
    have hw : wid 1 [[T.sl (ints ((L.drop off).take (1 + q))) none none]] := by intro e he; simp at he; subst he; rfl
    have hsn : enc1 tSl out ++ [[T.sl (ints ((L.drop off).take (1 + q))) none none]] = enc1 tSl (out ++ [⟨(L.drop off).take (1 + q), none, none⟩]) := enc1_snoc (f := tSl) (x := ⟨(L.drop off).take (1 + q), none, none⟩)
    have hlt : 0 < len := by omega
    have hq1 : (1 + (q : Int)).toNat = 1 + q := by omega
    simp (disch := omega) [h2, enc1_len, enc1_wid, hget, hne, hlen, hlt, hmod, hq1, ht, ht2, htk, hw, hsn, wrap_i64]
    refine ⟨by omega, by omega, by omega, by omega, ?_⟩
    rw [hK]
    have hq1' : (1 : Int) + q = ((1 + q : Nat) : Int) := by omega
    simpa using ih
end Go.Lg

/- Circuits of plain data without memory. Conditions: none. -/
set_option linter.unusedVariables false
namespace Go.Lg
open Go Go.Proofs

def noMem (x : CD) : CD := { x with mem := false }
theorem noMem_ok {x : CD} (hx : CDOk x) : CDOk (noMem x) := ⟨hx.i, hx.f, hx.d0, hx.d1, hx.p0, hx.p1, hx.p2, hx.p3, hx.gates, hx.outs⟩
end Go.Lg

/- Chains of plain data. Conditions: none. -/
set_option linter.unusedSimpArgs false
set_option linter.unusedVariables false
set_option maxRecDepth 100000
namespace Go.Lg
open Go Go.Proofs
variable {Γ : Tables}

theorem Chains_spec (c : Cir) (hc : COk c) (keys cuts : Sl Int) (hk : ∀ b ∈ keys.l, Byt b) (hcu : ∀ b ∈ cuts.l, Byt b) :
    PureCalls Tryd.prog Γ 48 [.agg (tC c), .sl (enc1 tK keys.l) keys.cap keys.nl, .sl (enc1 tK cuts.l) cuts.cap cuts.nl] (tChs ⟨cutS cuts.l (permS (min (states c).length keys.l.length) 0 keys.l (states c)), none, none⟩) := by
  refine run_pureQ law34_Chains_chk rfl ?_
  have hsl := states_len c
  have hcn := hc.nodes
  have hpl := permS_len (f := min (states c).length keys.l.length) (i := 0) (keys := keys.l) (l := states c) (by omega)
  have g1 := fun Q h0 => perm_loop (Γ := Γ) (Q := Q) keys hk (.sl (enc1 tK cuts.l) cuts.cap cuts.nl) (states c).length (by omega) _ h0 (min (states c).length keys.l.length) 0 (states c) (by omega) rfl rfl
  generalize permS (min (states c).length keys.l.length) 0 keys.l (states c) = L at *
  have g2 := fun Q h0 => cut_loop (Γ := Γ) (Q := Q) cuts hcu L (by omega) (cutS cuts.l L) h0 cuts.l.length 0 0 L.length [] (by omega) (by omega) (by simp) (by simp) rfl
  simp [law34_Chains_ic, tC, tNodes, tNames, tMems, tSl]
  refine callK_pure (states_spec c hc) rfl ?_
  simp [enc1_len, enc1_wid]
  simp only [hpl] at g2
  refine ⟨by omega, g1 _ ?_⟩
  simp
  refine g2 _ fun i off len out h1 h2 h3 => ?_
  have hdl : (L.drop off).length = len := by rw [List.length_drop]; omega
  by_cases hlen : len = 0
  · have hd : L.drop off = [] := List.drop_of_length_le (by omega)
    rw [hd, if_pos rfl, List.append_nil] at h3
    generalize cutS cuts.l L = R at *
    subst h3
    have htk : (enc1 tSl out).take out.length = enc1 tSl out := enc1_take_len
    simp [hlen, law34_Chains_rv, reify, htk, tChs]
  · have hdn : ¬ L.drop off = [] := fun e => by rw [e] at hdl; simp at hdl; omega
    rw [if_neg hdn] at h3
    have hlt : 0 < len := by omega
    have htk : (enc1 tSl out).take out.length = enc1 tSl out := enc1_take_len
    have ht : (ints L).drop off = ints (L.drop off) := enc1_drop
    have ht2 : (ints (L.drop off)).take len = ints (L.drop off) := List.take_of_length_le (by rw [enc1_len, hdl]; exact Nat.le_refl _)
    have hw : wid 1 [[T.sl (ints (L.drop off)) none none]] := by intro e he; simp at he; subst he; rfl
    have hsn : enc1 tSl out ++ [[T.sl (ints (L.drop off)) none none]] = enc1 tSl (out ++ [⟨L.drop off, none, none⟩]) := enc1_snoc (f := tSl) (x := ⟨L.drop off, none, none⟩)
    have hww : wid 1 (ints (L.drop off)) := enc1_wid
    rw [h3] at hsn
    have hRl : (cutS cuts.l L).length = out.length + 1 := by rw [← h3]; simp
    have htk2 : (enc1 tSl (cutS cuts.l L)).take (out.length + 1) = enc1 tSl (cutS cuts.l L) := by rw [← hRl]; exact enc1_take_len
    have hol : out.length ≤ 1000000000 := by omega
    have hol1 : (out.length : Int) + 1 = ((out.length + 1 : Nat) : Int) := by omega
    clear h3
    generalize cutS cuts.l L = R at *
    simp [hlen, hlt, enc1_len, ht, ht2, htk, hw, hww, hsn, hdl]
    refine ⟨by omega, by omega, ?_⟩
    simp [law34_Chains_rv, reify, htk2, tChs]
end Go.Lg

/- What a case lays. Conditions: none. -/
set_option linter.unusedSimpArgs false
set_option linter.unusedVariables false
set_option maxRecDepth 100000
namespace Go.Lg
open Go Go.Proofs
variable {Γ : Tables}

structure CaseD where
  x : CD
  keys : Sl Int
  cuts : Sl Int
def tCase (y : CaseD) : List T := tCD y.x ++ [.sl (enc1 tK y.keys.l) y.keys.cap y.keys.nl, .sl (enc1 tK y.cuts.l) y.cuts.cap y.cuts.nl]
structure CaseOk (y : CaseD) : Prop where
  x : CDOk y.x
  keys : ∀ b ∈ y.keys.l, Byt b
  cuts : ∀ b ∈ y.cuts.l, Byt b
def noMemX (x : CD) : CD := { x with mem := false }
def caseC (y : CaseD) : Cir := ofC (noMemX y.x)
def caseCh (y : CaseD) : List (Sl Int) := cutS y.cuts.l (permS (min (states (caseC y)).length y.keys.l.length) 0 y.keys.l (states (caseC y)))
theorem noMemX_ok {x : CD} (h : CDOk x) : CDOk (noMemX x) := ⟨h.i, h.f, h.d0, h.d1, h.p0, h.p1, h.p2, h.p3, h.gates, h.outs⟩

theorem CaseOf_spec (y : CaseD) (hy : CaseOk y) : PureCalls Tryd.prog Γ 19 [.agg (tCase y)] (.tup [.agg (tC (caseC y)), tChs ⟨caseCh y, none, none⟩]) := by
  refine run_pureQ law34_Case_Of_chk rfl ?_
  have hx := noMemX_ok hy.x
  have e1 := Of_spec (Γ := Γ) (noMemX y.x) hx
  have hc := ofC_ok hx
  have e2 := Chains_spec (Γ := Γ) (caseC y) hc y.keys y.cuts hy.keys hy.cuts
  unfold caseCh
  have hcc : ofC (noMemX y.x) = caseC y := rfl
  rw [hcc] at e1
  generalize caseC y = c at *
  simp [law34_Case_Of_ic, tCase, tCD]
  simp [tCD, noMemX] at e1
  refine callK_pure e1 rfl ?_
  simp [tC, tNodes, tNames, tMems, tSl]
  simp [tC, tNodes, tNames, tMems, tSl] at e2
  refine callK_pure e2 rfl ?_
  simp [law34_Case_Of_rv, reify]
end Go.Lg

/- A case and a list of places, opened. Conditions: none. -/
set_option linter.unusedSimpArgs false
set_option linter.unusedVariables false
set_option maxRecDepth 100000
namespace Go.Lg
open Go Go.Proofs Go.Proofs.YtgnghiijbegacaaDoor
theorem cells111 : Tryd.prog.cellsOf 111 = 1 := by kernel_rfl
theorem cells112 : Tryd.prog.cellsOf 112 = 2 := by kernel_rfl
theorem cells51 : Tryd.prog.cellsOf 51 = 14 := by kernel_rfl
theorem h16_of {n : Int} (h : (Lit.int .i16 n).wf = true) : -32768 ≤ n ∧ n ≤ 32767 := by
  simp [Lit.wf, IntKind.min, IntKind.max, IntKind.signed, IntKind.bits] at h
  omega
theorem rdH16 : Rd Tryd.prog 111 fun ts => ∃ n, ts = [tH n] ∧ -32768 ≤ n ∧ n ≤ 32767 := (rd_int Tryd.underlying111).mono fun ts ⟨n, h, hw⟩ => ⟨n, h, h16_of hw⟩
theorem rdP16 : Rd Tryd.prog 112 fun ts => ∃ p : Int × Int, ts = tP16 p ∧ H16 p := by
  refine (rd_array Tryd.underlying112 cells111 cells112 rdH16).mono fun ts h => ?_
  obtain ⟨_, _, rfl, ⟨a, rfl, ha⟩, _, _, rfl, ⟨b, rfl, hb⟩, rfl⟩ := h
  exact ⟨(a, b), rfl, ha.1, ha.2, hb.1, hb.2⟩
theorem rdP16s : Rd Tryd.prog 52 fun ts => ∃ s : Sl (Int × Int), ts = [.sl (encN tP16 s.l) s.cap s.nl] ∧ ∀ p ∈ s.l, H16 p := by
  refine (rd_slice Tryd.underlying52 cells112 (by decide) rdP16).mono fun ts ⟨es, cap, nl, h, _, hes⟩ => ?_
  obtain ⟨l, rfl, hl⟩ := list_of (f := tP16) (Q := H16) fun x hx => (hes x hx).1
  exact ⟨⟨l, cap, nl⟩, h, hl⟩
theorem rdBytes : Rd Tryd.prog 25 fun ts => ∃ s : Sl Int, ts = [.sl (enc1 tK s.l) s.cap s.nl] ∧ ∀ b ∈ s.l, Byt b := by
  refine (rd_slice Tryd.underlying25 cells5 (by decide) rdU8).mono fun ts ⟨es, cap, nl, h, _, hes⟩ => ?_
  obtain ⟨l, rfl, hl⟩ := list_of (f := fun n => [tK n]) (Q := Byt) fun x hx => (hes x hx).1
  exact ⟨⟨l, cap, nl⟩, h, hl⟩
theorem rdCase : Rd Tryd.prog 51 fun ts => ∃ y, ts = tCase y ∧ CaseOk y := by
  refine (rd_struct (l := [(12, fun ts => ∃ x, ts = tCD x ∧ CDOk x), (1, fun ts => ∃ s : Sl Int, ts = [.sl (enc1 tK s.l) s.cap s.nl] ∧ ∀ b ∈ s.l, Byt b), (1, fun ts => ∃ s : Sl Int, ts = [.sl (enc1 tK s.l) s.cap s.nl] ∧ ∀ b ∈ s.l, Byt b)]) Tryd.underlying51 cells51
    (.cons rfl cells27 rdCD (.cons rfl cells25 rdBytes (.cons rfl cells25 rdBytes (.nil _))))).mono fun ts h => ?_
  obtain ⟨_, _, rfl, ⟨x, rfl, hx⟩, _, _, rfl, ⟨s, rfl, hs⟩, _, _, rfl, ⟨t, rfl, ht⟩, rfl⟩ := h
  exact ⟨⟨x, s, t⟩, by simp [tCase], hx, hs, ht⟩
end Go.Lg
namespace Go.Proofs.YtgnghiijbegacaaDoor
open Go Go.Lg Go.ChangeShapes Go.WideShapes Go.ChangeAt Go.RowKit
theorem open_case {H : Type} {enc : TypeId × Value → H} {W : World} {base : Nat} {v : Value} {d : DataW H} {p : List MemPlace} (hval : Value.okWide Tryd.prog W .any base 51 v) (h : DataW.Trod enc Tryd.prog W 0 (fun _ => true) true 51 v d p) : ∃ y, CaseOk y ∧ TR W (Old W) (.agg (tCase y)) v := by
  simp only [Value.okWide, Tryd.underlying51] at hval
  obtain ⟨cs, rfl, _, _⟩ := hval
  obtain ⟨fuel, hf⟩ := h
  obtain ⟨ts, ⟨x, rfl, hx⟩, htr, ho⟩ := rdCase H enc W true fuel _ _ hf
  exact ⟨x, hx, tr_agg htr ho⟩
theorem open_p16 {H : Type} {enc : TypeId × Value → H} {W : World} {base : Nat} {v : Value} {d : DataW H} {p : List MemPlace} (hval : Value.okWide Tryd.prog W .any base 52 v) (h : DataW.Trod enc Tryd.prog W 0 (fun _ => true) true 52 v d p) : ∃ s : Sl (Int × Int), (∀ q ∈ s.l, H16 q) ∧ TR W (Old W) (.sl (encN tP16 s.l) s.cap s.nl) v := by
  obtain ⟨a, len, cap, rfl⟩ := okWide_slice Tryd.underlying52 hval
  obtain ⟨fuel, hf⟩ := h
  obtain ⟨ts, ⟨s, rfl, hs⟩, htr, _⟩ := rdP16s H enc W true fuel _ _ hf
  obtain ⟨y, ys, he, hy, _⟩ := htr.cons_inv
  simp [Value.cells] at he
  exact ⟨s, hs, by rw [he.1]; exact hy⟩
def d0case {H : Type} : DataW H := .agg [d0, .nil, .nil]
end Go.Proofs.YtgnghiijbegacaaDoor

/- ScansShorten's loops. Conditions: none. -/
set_option linter.unusedSimpArgs false
set_option linter.unusedVariables false
set_option maxRecDepth 100000
namespace Go.Lg
open Go Go.Proofs
variable {Γ : Tables}

theorem count_snoc {l : List Int} {j : Nat} (h : j < l.length) (v : Int) : (l.take (j + 1)).count v = (l.take j).count v + (if l[j] = v then 1 else 0) := by
  rw [List.take_add_one, List.getElem?_eq_getElem h, List.count_append]
  simp [List.count_cons]

theorem sh_l1 {Q : AX → St → Prop} (r5 : Reg) (a5 a7 a12 a14 : AV) (ch s : List (Sl Int)) (cc sc : Option Nat) (cn sn : Option Bool) (i k : Nat) (hic : i < ch.length) (his : i < s.length) (hc1 : ch.length ≤ 1000000) (hs1 : s.length ≤ 1000000) (hll : s[i].l.length ≤ 1000000000) (hl : ch[i].l.length = s[i].l.length) (hk : k < s[i].l.length)
    (h0 : Q (.exit 4) ⟨[(5, a5), (6, .t (.sl (enc1 tSl ch) cc cn)), (7, a7), (10, .t (.sl (enc1 tSl s) sc sn)), (12, a12), (14, a14), (16, .t (tI i)), (17, .t (tI k)), (18, .t (tI (ch[i].l.count s[i].l[k] : Nat))), (19, .t (tI s[i].l.length)), (142, .t (tB false))], [(5, r5)]⟩) : ∀ (kk j : Nat), kk + j = s[i].l.length →
    run Tryd.prog Γ law34_ScansShorten_l1 Q ⟨[(5, a5), (6, .t (.sl (enc1 tSl ch) cc cn)), (7, a7), (10, .t (.sl (enc1 tSl s) sc sn)), (12, a12), (14, a14), (16, .t (tI i)), (17, .t (tI k)), (18, .t (tI ((ch[i].l.take j).count s[i].l[k] : Nat))), (19, .t (tI j))], [(5, r5)]⟩
  | 0, j, h => by
    refine law34_ScansShorten_l1_run fun K hK => ?_
    have h2 : ¬ j < s[i].l.length := by omega
    have h3 : j = s[i].l.length := by omega
    simp (disch := omega) [h2, enc1_len, enc1_get Sl.d, enc1_wid, tSl, his]
    subst h3
    rw [← hl, List.take_length, hl]
    simpa [tSl] using h0
  | kk + 1, j, h => by
    refine law34_ScansShorten_l1_run fun K hK => ?_
    have h2 : j < s[i].l.length := by omega
    have h3 : j < ch[i].l.length := by omega
    have hcs := count_snoc h3 s[i].l[k]
    have hcb : (ch[i].l.take j).count s[i].l[k] ≤ j := by
      have := List.count_le_length (a := s[i].l[k]) (l := ch[i].l.take j)
      rw [List.length_take] at this; omega
    have ih := sh_l1 r5 a5 a7 a12 a14 ch s cc sc cn sn i k hic his hc1 hs1 hll hl hk h0 kk (j + 1) (by omega)
    by_cases e : ch[i].l[j] = s[i].l[k]
    · rw [if_pos e] at hcs
      rw [hcs] at ih
      generalize (ch[i].l.take j).count s[i].l[k] = q at *
      simp (disch := omega) [h2, h3, hk, hic, his, enc1_len, enc1_get (0 : Int), enc1_get Sl.d, enc1_wid, tSl, e, wrap_i64]
      rw [hK]
      simpa [tSl] using ih
    · rw [if_neg e] at hcs
      rw [hcs] at ih
      generalize (ch[i].l.take j).count s[i].l[k] = q at *
      simp (disch := omega) [h2, h3, hk, hic, his, enc1_len, enc1_get (0 : Int), enc1_get Sl.d, enc1_wid, tSl, e, wrap_i64]
      rw [hK]
      simpa [tSl] using ih

theorem sh_l3 {Q : AX → St → Prop} (hΓ : GOk Γ) (c : Cir) (hc : COk c) (at' : Sl Pnt) (ha : at'.l.length ≤ 1000000000) (t6 t14 : T) (s : List (Sl Int)) (sc : Option Nat) (hs1 : s.length ≤ 1000000) (hsl : ∀ x ∈ s, x.l.length ≤ 1000000000) (aft : Int) (i k : Nat) (hi : i < s.length) (hk : k < s[i].l.length)
    (hT : ∀ j, k < j → j < s[i].l.length → placedErr c (s.set i ⟨revP s[i].l k (j + 1 - k), none, none⟩) at'.l = 0 ∧ aft ≤ lenTot (placedM c (s.set i ⟨revP s[i].l k (j + 1 - k), none, none⟩) at'.l) (s.set i ⟨revP s[i].l k (j + 1 - k), none, none⟩))
    (h0 : Q (.exit 6) ⟨[(5, .lp 5 0 0), (6, .t t6), (7, .t (tPts at')), (10, .t (.sl (enc1 tSl s) sc none)), (12, .t (tI aft)), (14, .t t14), (16, .t (tI i)), (17, .t (tI k)), (20, .t (tI s[i].l.length)), (189, .t (tB false))], [(5, .bx [.t (.sl (encN tNd c.nodes.l) c.nodes.cap c.nodes.nl), .t (.sl (enc1 tS c.names.l) c.names.cap c.names.nl), .t (.sl (encN tMm c.mems.l) c.mems.cap c.mems.nl), .t (.sl (ints c.outs.l) c.outs.cap c.outs.nl)])]⟩) : ∀ (kk j : Nat), kk + j = s[i].l.length → k < j →
    run Tryd.prog Γ law34_ScansShorten_l3 Q ⟨[(5, .lp 5 0 0), (6, .t t6), (7, .t (tPts at')), (10, .t (.sl (enc1 tSl s) sc none)), (12, .t (tI aft)), (14, .t t14), (16, .t (tI i)), (17, .t (tI k)), (20, .t (tI j))], [(5, .bx [.t (.sl (encN tNd c.nodes.l) c.nodes.cap c.nodes.nl), .t (.sl (enc1 tS c.names.l) c.names.cap c.names.nl), .t (.sl (encN tMm c.mems.l) c.mems.cap c.mems.nl), .t (.sl (ints c.outs.l) c.outs.cap c.outs.nl)])]⟩
  | 0, j, h, hkj => by
    refine law34_ScansShorten_l3_run fun K hK => ?_
    have h2 : ¬ j < s[i].l.length := by omega
    have h3 : j = s[i].l.length := by omega
    simp (disch := omega) [h2, enc1_len, enc1_get Sl.d, enc1_wid, tSl, hi]
    subst h3
    simpa [tSl] using h0
  | kk + 1, j, h, hkj => by
    refine law34_ScansShorten_l3_run fun K hK => ?_
    have h2 : j < s[i].l.length := by omega
    obtain ⟨t1, t2⟩ := hT j hkj h2
    have hil := hsl _ (List.getElem_mem hi)
    have e1 := turned_spec (Γ := Γ) s[i].l s[i].cap s[i].nl k j hil (by omega) h2
    have hset : (enc1 tSl s).set i [T.sl (ints (revP s[i].l k (j + 1 - k))) none none] = enc1 tSl (s.set i ⟨revP s[i].l k (j + 1 - k), none, none⟩) := by unfold enc1; rw [List.map_set]; rfl
    have hrl : (revP s[i].l k (j + 1 - k)).length = s[i].l.length := revP_len
    have e2 := Length_spec hΓ c hc ⟨s.set i ⟨revP s[i].l k (j + 1 - k), none, none⟩, none, none⟩ (by simp; omega) (fun x hx => by
      rcases List.mem_or_eq_of_mem_set hx with hx | rfl
      · exact hsl x hx
      · show (revP s[i].l k (j + 1 - k)).length ≤ _; omega) at' ha
    have hTl : (s.set i ⟨revP s[i].l k (j + 1 - k), none, none⟩).length = s.length := by simp
    have htk : (enc1 tSl s).take s.length = enc1 tSl s := enc1_take_len
    have htk2 : ∀ t : List (Sl Int), t.length = s.length → (enc1 tSl t).take s.length = enc1 tSl t := fun t ht => by rw [← ht]; exact enc1_take_len
    have ih := sh_l3 hΓ c hc at' ha t6 t14 s sc hs1 hsl aft i k hi hk hT h0 kk (j + 1) (by omega) (by omega)
    simp (disch := omega) [h2, hi, enc1_len, enc1_get Sl.d, enc1_wid, tSl, htk]
    refine ⟨by omega, callK_fresh e1 rfl ?_⟩
    have hw : wid 1 [[T.sl (ints (revP s[i].l k (j + 1 - k))) none none]] := by intro e he; simp at he; subst he; rfl
    have htk3 := htk2 _ hTl
    generalize s.set i ⟨revP s[i].l k (j + 1 - k), none, none⟩ = t at *
    generalize revP s[i].l k (j + 1 - k) = rv at *
    simp (disch := omega) [h2, hi, enc1_len, enc1_wid, hset, hTl, htk3]
    refine callK_fresh e2 (by simp [reify, htk3, tC, tNodes, tNames, tMems, tSl, tChs]) ?_
    have t3 : ¬ lenTot (placedM c t at'.l) t < aft := by omega
    simp [t1, t3]
    simp (disch := omega) [wrap_i64]
    rw [hK]
    simpa using ih
end Go.Lg

/- ScansShorten's outer loops. Conditions: none. -/
set_option linter.unusedSimpArgs false
set_option linter.unusedVariables false
set_option maxRecDepth 100000
namespace Go.Lg
open Go Go.Proofs
variable {Γ : Tables}

/-- What shortened chains answer to. -/
structure ShOk (c : Cir) (at' : List Pnt) (ch s ag : List (Sl Int)) (aft : Int) : Prop where
  ls : s.length = ch.length
  la : ag.length = s.length
  l1 : s.length ≤ 1000000
  le : ∀ i (h : i < s.length), s[i].l.length = (ch[i]'(by omega)).l.length ∧ (ag[i]'(by omega)).l = s[i].l ∧ s[i].l.length ≤ 1000000
  cnt : ∀ i (h : i < s.length) k (hk : k < s[i].l.length), (ch[i]'(by omega)).l.count s[i].l[k] = 1
  opt : ∀ i (h : i < s.length) k j, k < j → j < s[i].l.length → placedErr c (s.set i ⟨revP s[i].l k (j + 1 - k), none, none⟩) at' = 0 ∧ aft ≤ lenTot (placedM c (s.set i ⟨revP s[i].l k (j + 1 - k), none, none⟩) at') (s.set i ⟨revP s[i].l k (j + 1 - k), none, none⟩)

theorem sh_l5 {Q : AX → St → Prop} (hΓ : GOk Γ) (c : Cir) (hc : COk c) (at' : Sl Pnt) (ha : at'.l.length ≤ 1000000000) (ch s ag : List (Sl Int)) (cc sc ac : Option Nat) (cn an : Option Bool) (aft : Int) (ok : ShOk c at'.l ch s ag aft) (i : Nat) (his : i < s.length)
    (h0 : Q (.exit 2) ⟨[(5, .lp 5 0 0), (6, .t (.sl (enc1 tSl ch) cc cn)), (7, .t (tPts at')), (10, .t (.sl (enc1 tSl s) sc none)), (12, .t (tI aft)), (14, .t (.sl (enc1 tSl ag) ac an)), (16, .t (tI i)), (17, .t (tI s[i].l.length)), (133, .t (tB false))], [(5, .bx [.t (.sl (encN tNd c.nodes.l) c.nodes.cap c.nodes.nl), .t (.sl (enc1 tS c.names.l) c.names.cap c.names.nl), .t (.sl (encN tMm c.mems.l) c.mems.cap c.mems.nl), .t (.sl (ints c.outs.l) c.outs.cap c.outs.nl)])]⟩) : ∀ (kk k : Nat), kk + k = s[i].l.length →
    run Tryd.prog Γ law34_ScansShorten_l5 Q ⟨[(5, .lp 5 0 0), (6, .t (.sl (enc1 tSl ch) cc cn)), (7, .t (tPts at')), (10, .t (.sl (enc1 tSl s) sc none)), (12, .t (tI aft)), (14, .t (.sl (enc1 tSl ag) ac an)), (16, .t (tI i)), (17, .t (tI k))], [(5, .bx [.t (.sl (encN tNd c.nodes.l) c.nodes.cap c.nodes.nl), .t (.sl (enc1 tS c.names.l) c.names.cap c.names.nl), .t (.sl (encN tMm c.mems.l) c.mems.cap c.mems.nl), .t (.sl (ints c.outs.l) c.outs.cap c.outs.nl)])]⟩
  | 0, k, h => by
    refine law34_ScansShorten_l5_run fun K hK => ?_
    have h2 : ¬ k < s[i].l.length := by omega
    have h3 : k = s[i].l.length := by omega
    have hl1 := ok.l1
    simp (disch := omega) [h2, enc1_len, enc1_get Sl.d, enc1_wid, tSl, his]
    subst h3
    simpa [tSl] using h0
  | kk + 1, k, h => by
    refine law34_ScansShorten_l5_run fun K hK => ?_
    have h2 : k < s[i].l.length := by omega
    have hl1 := ok.l1
    have hls := ok.ls
    have hla := ok.la
    have hic : i < ch.length := by omega
    have hia : i < ag.length := by omega
    obtain ⟨e1, e2, e3⟩ := ok.le i his
    have e4 := ok.cnt i his k h2
    have hsl : ∀ x ∈ s, x.l.length ≤ 1000000000 := fun x hx => by
      obtain ⟨q, hq, rfl⟩ := List.getElem_of_mem hx
      have := (ok.le q hq).2.2
      omega
    have ih := sh_l5 hΓ c hc at' ha ch s ag cc sc ac cn an aft ok i his h0 kk (k + 1) (by omega)
    have g1 := fun Q h0 => sh_l1 (Γ := Γ) (Q := Q) (.bx [.t (.sl (encN tNd c.nodes.l) c.nodes.cap c.nodes.nl), .t (.sl (enc1 tS c.names.l) c.names.cap c.names.nl), .t (.sl (encN tMm c.mems.l) c.mems.cap c.mems.nl), .t (.sl (ints c.outs.l) c.outs.cap c.outs.nl)]) (.lp 5 0 0) (.t (tPts at')) (.t (tI aft)) (.t (.sl (enc1 tSl ag) ac an)) ch s cc sc cn none i k hic his (by omega) hl1 (by omega) e1.symm h2 h0 s[i].l.length 0 (by omega)
    have g3 := fun Q h0 => sh_l3 (Γ := Γ) (Q := Q) hΓ c hc at' ha (.sl (enc1 tSl ch) cc cn) (.sl (enc1 tSl ag) ac an) s sc hl1 hsl aft i k his h2 (ok.opt i his k) h0 (s[i].l.length - (k + 1)) (k + 1) (by omega) (by omega)
    simp (disch := omega) [h2, enc1_len, enc1_get Sl.d, enc1_wid, tSl, his]
    simp at g1
    refine g1 _ ?_
    have hag : k < ag[i].l.length := by rw [e2]; exact h2
    have e5 : ag[i].l[k] = s[i].l[k] := by simp only [e2]
    simp (disch := omega) [e4, e5, hag, h2, hia, his, enc1_len, enc1_get (0 : Int), enc1_get Sl.d, enc1_wid, tSl, wrap_i64]
    simp at g3
    refine g3 _ ?_
    simp (disch := omega) [wrap_i64]
    rw [hK]
    simpa using ih

theorem sh_l7 {Q : AX → St → Prop} (hΓ : GOk Γ) (c : Cir) (hc : COk c) (at' : Sl Pnt) (ha : at'.l.length ≤ 1000000000) (ch s ag : List (Sl Int)) (cc sc ac : Option Nat) (cn an : Option Bool) (aft : Int) (ok : ShOk c at'.l ch s ag aft)
    (h0 : Q (.exit 0) ⟨[(5, .lp 5 0 0), (6, .t (.sl (enc1 tSl ch) cc cn)), (7, .t (tPts at')), (10, .t (.sl (enc1 tSl s) sc none)), (12, .t (tI aft)), (14, .t (.sl (enc1 tSl ag) ac an)), (16, .t (tI s.length)), (100, .t (tB false))], [(5, .bx [.t (.sl (encN tNd c.nodes.l) c.nodes.cap c.nodes.nl), .t (.sl (enc1 tS c.names.l) c.names.cap c.names.nl), .t (.sl (encN tMm c.mems.l) c.mems.cap c.mems.nl), .t (.sl (ints c.outs.l) c.outs.cap c.outs.nl)])]⟩) : ∀ (kk i : Nat), kk + i = s.length →
    run Tryd.prog Γ law34_ScansShorten_l7 Q ⟨[(5, .lp 5 0 0), (6, .t (.sl (enc1 tSl ch) cc cn)), (7, .t (tPts at')), (10, .t (.sl (enc1 tSl s) sc none)), (12, .t (tI aft)), (14, .t (.sl (enc1 tSl ag) ac an)), (16, .t (tI i))], [(5, .bx [.t (.sl (encN tNd c.nodes.l) c.nodes.cap c.nodes.nl), .t (.sl (enc1 tS c.names.l) c.names.cap c.names.nl), .t (.sl (encN tMm c.mems.l) c.mems.cap c.mems.nl), .t (.sl (ints c.outs.l) c.outs.cap c.outs.nl)])]⟩
  | 0, i, h => by
    refine law34_ScansShorten_l7_run fun K hK => ?_
    have h2 : ¬ i < s.length := by omega
    have h3 : i = s.length := by omega
    simp (disch := omega) [h2, enc1_len]
    subst h3
    exact h0
  | kk + 1, i, h => by
    refine law34_ScansShorten_l7_run fun K hK => ?_
    have h2 : i < s.length := by omega
    have hl1 := ok.l1
    have hls := ok.ls
    have hla := ok.la
    have hic : i < ch.length := by omega
    have hia : i < ag.length := by omega
    obtain ⟨e1, e2, e3⟩ := ok.le i h2
    have e5 : ag[i].l.length = s[i].l.length := by rw [e2]
    have ih := sh_l7 hΓ c hc at' ha ch s ag cc sc ac cn an aft ok h0 kk (i + 1) (by omega)
    have g5 := fun Q h0 => sh_l5 (Γ := Γ) (Q := Q) hΓ c hc at' ha ch s ag cc sc ac cn an aft ok i h2 h0 s[i].l.length 0 (by omega)
    simp (disch := omega) [h2, hic, hia, enc1_len, enc1_get Sl.d, enc1_wid, tSl, e1.symm, e5]
    simp at g5
    refine g5 _ ?_
    simp (disch := omega) [wrap_i64]
    rw [hK]
    simpa using ih
end Go.Lg

/- The plain law of ScansShorten. Conditions: none. -/
set_option linter.unusedSimpArgs false
set_option linter.unusedVariables false
set_option maxRecDepth 100000
namespace Go.Lg
open Go Go.Proofs
variable {Γ : Tables}

theorem nodes5_16 {x : CD} (hx : CDOk x) : (nodes5 x).length ≤ 16 := by
  have m4 : 0 ≤ x.i.tmod 4 ∧ x.i.tmod 4 < 4 := tmod_lt (n := 4) hx.i.1 (by omega)
  have m3 : 0 ≤ x.f.tmod 3 ∧ x.f.tmod 3 < 3 := tmod_lt (n := 3) hx.f.1 (by omega)
  have l2 : (nodes2 x).length = (x.i.tmod 4 + 1).toNat + (x.f.tmod 3).toNat := by simp [nodes2, nodes1]
  have l3 : (nodes2 x).length ≤ (nodes3 x).length ∧ (nodes3 x).length ≤ 8 := by unfold nodes3; split <;> simp <;> omega
  have l4 : (nodes4 x).length = (nodes3 x).length + min 8 x.gates.l.length := by unfold nodes4; rw [gatesN_len]; simp
  have l5 : (nodes5 x).length = (nodes4 x).length := dataN_len
  omega

theorem lenTot_set (m : List (Int × Pnt)) (x : Sl Int) : ∀ (s : List (Sl Int)) (i : Nat) (h : i < s.length), lenTot m (s.set i x) = lenTot m s - lenS m s[i].l + lenS m x.l
  | [], i, h => by simp at h
  | y :: s, 0, h => by simp [lenTot]; omega
  | y :: s, i + 1, h => by
    have := lenTot_set m x s i (by simpa using h)
    simp [lenTot] at this ⊢
    omega

theorem lenTot_mono (m : List (Int × Pnt)) : ∀ (s : List (Sl Int)) (f : Sl Int → Sl Int), (∀ x ∈ s, lenS m (f x).l ≤ lenS m x.l) → lenTot m (s.map f) ≤ lenTot m s
  | [], f, h => by simp [lenTot]
  | y :: s, f, h => by
    have := lenTot_mono m s f fun x hx => h x (List.mem_cons_of_mem _ hx)
    have h0 := h y List.mem_cons_self
    simp [lenTot] at this ⊢
    omega

theorem mem_elems {l : List (Sl Int)} {i : Nat} (h : i < l.length) : ∀ v ∈ l[i].l, v ∈ elems l := fun v hv => by
  unfold elems
  exact List.mem_flatten.2 ⟨_, List.mem_map.2 ⟨_, List.getElem_mem h, rfl⟩, hv⟩
theorem elems_sub {l : List (Sl Int)} {i : Nat} (h : i < l.length) : l[i].l.Sublist (elems l) := by
  unfold elems
  exact List.sublist_flatten_of_mem (List.mem_map.2 ⟨_, List.getElem_mem h, rfl⟩)

def atP (c : Cir) (ps : List (Int × Int)) : List Pnt := (List.range' 0 (states c).length).map (placeAt ps)
theorem placeAt_ok {ps : List (Int × Int)} (h : ∀ q ∈ ps, H16 q) (i : Nat) : H16 (placeAt ps i) := by
  unfold placeAt
  split
  · exact ⟨by decide, by decide, by decide, by decide⟩
  · rename_i hn
    have hp : 0 < ps.length := List.length_pos_iff.2 hn
    have hm := Nat.mod_lt i hp
    rw [List.getD_eq_getElem?_getD, List.getElem?_eq_getElem hm]
    exact h _ (List.getElem_mem hm)
theorem at_small {c : Cir} {ps : List (Int × Int)} (h : ∀ q ∈ ps, H16 q) : Small ((states c).zip (atP c ps)) ∧ (atP c ps).any ptBad = false := by
  have h1 : ∀ p ∈ atP c ps, H16 p := fun p hp => by
    obtain ⟨i, _, rfl⟩ := List.mem_map.1 hp
    exact placeAt_ok h i
  refine ⟨fun p hp => ?_, ?_⟩
  · have := h1 p.2 (List.of_mem_zip hp).2
    unfold H16 at this
    omega
  · rw [List.any_eq_false]
    intro p hp
    have := h1 p hp
    unfold H16 at this
    simp [ptBad]
    omega

theorem shorten_plain {c : Cir} (hp : plainErr c = 0) (hn : c.nodes.l.length ≤ 16) {ps : List (Int × Int)} (hps : ∀ q ∈ ps, H16 q) {ch : List (Sl Int)} (hne : ∀ s ∈ ch, s.l ≠ []) (hperm : (elems ch).Perm (states c)) :
    placedErr c ch (atP c ps) = 0 ∧ placedErr c (shortAll (placedM c ch (atP c ps)) ch) (atP c ps) = 0 ∧
    lenTot (placedM c (shortAll (placedM c ch (atP c ps)) ch) (atP c ps)) (shortAll (placedM c ch (atP c ps)) ch) ≤ lenTot (placedM c ch (atP c ps)) ch ∧
    ShOk c (atP c ps) ch (shortAll (placedM c ch (atP c ps)) ch) (shortAll (placedM c (shortAll (placedM c ch (atP c ps)) ch) (atP c ps)) (shortAll (placedM c ch (atP c ps)) ch)) (lenTot (placedM c (shortAll (placedM c ch (atP c ps)) ch) (atP c ps)) (shortAll (placedM c ch (atP c ps)) ch)) := by
  have hsl := states_len c
  have hal : (atP c ps).length = (states c).length := by simp [atP]
  obtain ⟨hm, hb⟩ := at_small (c := c) hps
  have key : ∀ t : List (Sl Int), t.length = ch.length → (∀ i (h : i < t.length) (h' : i < ch.length), t[i].l.Perm ch[i].l) → placedErr c t (atP c ps) = 0 ∧ placedM c t (atP c ps) = (states c).zip (atP c ps) := fun t hl ht => by
    have hpt := (elems_perm hl ht).trans hperm
    have htn : ∀ s ∈ t, s.l ≠ [] := fun s hs e => by
      obtain ⟨i, hi, rfl⟩ := List.getElem_of_mem hs
      have h1 := (ht i hi (by omega)).length_eq
      rw [e] at h1
      exact hne _ (List.getElem_mem (by omega : i < ch.length)) (List.eq_nil_of_length_eq_zero h1.symm)
    have h1 := (elems_le t htn).1
    have h2 := hpt.length_eq
    exact placed_ok (check_perm hp (by omega) htn hpt) hal hb
  obtain ⟨k1, k2⟩ := key ch rfl fun i h h' => List.Perm.refl _
  rw [k2]
  generalize hM : (states c).zip (atP c ps) = m at *
  have hS : ∀ x : Sl Int, _ := fun x => shorterL_fact m hm x.l
  have hgs : ∀ i (h : i < (shortAll m ch).length) (h' : i < ch.length), (shortAll m ch)[i].l = shorterL m ch[i].l := fun i h h' => by simp [shortAll]
  have hlS : (shortAll m ch).length = ch.length := by simp [shortAll]
  have hpS : ∀ i (h : i < (shortAll m ch).length) (h' : i < ch.length), (shortAll m ch)[i].l.Perm ch[i].l := fun i h h' => by
    rw [hgs i h h']; exact (hS ch[i]).1
  obtain ⟨s1, s2⟩ := key _ hlS hpS
  rw [s2]
  have hle := elems_le ch hne
  have hpl := hperm.length_eq
  refine ⟨k1, s1, lenTot_mono m ch _ fun x _ => (hS x).2.1, ⟨hlS, by simp [shortAll], by omega, fun i h => ?_, fun i h k hk => ?_, fun i h k j hkj hj => ?_⟩⟩
  · have h' : i < ch.length := by omega
    refine ⟨(hpS i h h').length_eq, ?_, ?_⟩
    · simp [shortAll]; exact (hS ch[i]).2.2.2
    · rw [(hpS i h h').length_eq]
      have := hle.2 _ (List.getElem_mem h')
      omega
  · have h' : i < ch.length := by omega
    have hnd : ch[i].l.Nodup := ((elems_sub h').nodup (hperm.nodup_iff.2 (states_nodup c)))
    have hmem : (shortAll m ch)[i].l[k] ∈ ch[i].l := (hpS i h h').mem_iff.1 (List.getElem_mem hk)
    have h1 := List.nodup_iff_count.1 hnd (shortAll m ch)[i].l[k]
    have h2 := List.count_pos_iff.2 hmem
    omega
  · have h' : i < ch.length := by omega
    have hrp : (revP (shortAll m ch)[i].l k (j + 1 - k)).Perm (shortAll m ch)[i].l := revP_perm (by omega) (by omega)
    obtain ⟨t1, t2⟩ := key ((shortAll m ch).set i ⟨revP (shortAll m ch)[i].l k (j + 1 - k), none, none⟩) (by simp; omega) fun q hq hq' => by
      rw [List.getElem_set]
      split
      · rename_i e; subst e; exact hrp.trans (hpS i h h')
      · exact hpS q (by omega) hq'
    refine ⟨t1, ?_⟩
    rw [t2, lenTot_set m _ _ i h]
    have ho := (hS ch[i]).2.2.1 k j (by omega) hkj (by rw [← hgs i h h']; exact hj)
    rw [← hgs i h h'] at ho
    show _ ≤ _ - _ + lenS m (revP (shortAll m ch)[i].l k (j + 1 - k))
    omega
end Go.Lg

/- ScansShorten, walked. Conditions: none. -/
set_option linter.unusedSimpArgs false
set_option linter.unusedVariables false
set_option maxRecDepth 100000
namespace Go.Lg
open Go Go.Proofs
variable {Γ : Tables}

theorem lawShorten_spec (hΓ : GOk Γ) (y : CaseD) (hy : CaseOk y) (ps : Sl (Int × Int)) (hps : ∀ q ∈ ps.l, H16 q) : PureCalls Tryd.prog Γ 5 [.agg (tCase y), .sl (encN tP16 ps.l) ps.cap ps.nl] (tB true) := by
  refine run_pureQ law34_ScansShorten_chk rfl ?_
  by_cases hlong : 20 < ps.l.length
  · have hlong' : (20 : Int) < ps.l.length := by omega
    simp [law34_ScansShorten_ic, tCase, tCD, encN_len, hlong, hlong', Later]
    refine callK_fresh (lives_spec hΓ) rfl ?_
    simp [law34_ScansShorten_rv, reify]
  have hx := noMemX_ok hy.x
  have hc : COk (caseC y) := ofC_ok hx
  have hp : plainErr (caseC y) = 0 := ofC_plain hx rfl
  have hn : (caseC y).nodes.l.length ≤ 16 := nodes5_16 hx
  have e1 := CaseOf_spec (Γ := Γ) y hy
  have hpe := permS_perm (min (states (caseC y)).length y.keys.l.length) 0 y.keys.l (states (caseC y)) (by omega)
  have hel : (elems (caseCh y)).Perm (states (caseC y)) := by unfold caseCh; rw [cutS_elems]; exact hpe
  have hne : ∀ s ∈ caseCh y, s.l ≠ [] ∧ s.nl ≠ some true := cutS_ne _ _
  generalize caseC y = c at *
  generalize caseCh y = ch at *
  have hsl := states_len c
  obtain ⟨p1, p2, p3, ok⟩ := shorten_plain hp hn hps (fun s hs => (hne s hs).1) hel
  have hle := elems_le ch fun s hs => (hne s hs).1
  have hpl := hel.length_eq
  have hal : (atP c ps.l).length = (states c).length := by simp [atP]
  have e2 := Places_spec (Γ := Γ) c hc ps hps (by omega)
  have hat : (List.range' 0 (states c).length).map (placeAt ps.l) = atP c ps.l := rfl
  rw [hat] at e2
  have e3 := Length_spec hΓ c hc ⟨ch, none, none⟩ (by show ch.length ≤ _; omega) (fun s hs => by have := hle.2 s hs; omega) ⟨atP c ps.l, none, none⟩ (by show (atP c ps.l).length ≤ _; omega)
  have e4 := Shorten_spec hΓ c hc ⟨ch, none, none⟩ (by show ch.length ≤ _; omega) (fun s hs => ⟨by have := hle.2 s hs; omega, (hne s hs).2⟩) ⟨atP c ps.l, none, none⟩ (by show (atP c ps.l).length ≤ _; omega)
  simp only [p1, if_pos] at e3 e4
  have hSn : ∀ s ∈ shortAll (placedM c ch (atP c ps.l)) ch, s.nl ≠ some true := fun s hs => by
    obtain ⟨x, _, rfl⟩ := List.mem_map.1 hs
    simp
  have hAl : (shortAll (placedM c ch (atP c ps.l)) ch).length = ch.length := by simp [shortAll]
  generalize shortAll (placedM c ch (atP c ps.l)) ch = s at *
  generalize lenTot (placedM c ch (atP c ps.l)) ch = bef at *
  have hsb : ∀ x ∈ s, x.l.length ≤ 1000000000 := fun x hx => by
    obtain ⟨i, hi, rfl⟩ := List.getElem_of_mem hx
    have := (ok.le i hi).2.2
    omega
  have e5 := Length_spec hΓ c hc ⟨s, some ch.length, none⟩ (by show s.length ≤ _; omega) hsb ⟨atP c ps.l, none, none⟩ (by show (atP c ps.l).length ≤ _; omega)
  have e6 := Shorten_spec hΓ c hc ⟨s, some ch.length, none⟩ (by show s.length ≤ _; omega) (fun x hx => ⟨hsb x hx, hSn x hx⟩) ⟨atP c ps.l, none, none⟩ (by show (atP c ps.l).length ≤ _; omega)
  simp only [p2, if_pos] at e5 e6
  have hgl : (shortAll (placedM c s (atP c ps.l)) s).length = s.length := by simp [shortAll]
  generalize shortAll (placedM c s (atP c ps.l)) s = ag at *
  generalize lenTot (placedM c s (atP c ps.l)) s = aft at *
  have g7 := fun Q h0 => sh_l7 (Γ := Γ) (Q := Q) hΓ c hc ⟨atP c ps.l, none, none⟩ (by show (atP c ps.l).length ≤ _; omega) ch s ag none (some ch.length) (some ch.length) none none aft ok h0 s.length 0 (by omega)
  have hlong' : ¬ (20 : Int) < ps.l.length := by omega
  simp [law34_ScansShorten_ic, tCase, tCD, encN_len, hlong, hlong', Later]
  simp [tCase, tCD] at e1
  refine callK_pure e1 rfl ?_
  simp [tC, tNodes, tNames, tMems, tSl]
  simp [tC, tNodes, tNames, tMems, tSl] at e2 e3 e4 e5 e6
  refine callK_pure e2 rfl ?_
  simp
  refine callK_fresh e3 rfl ?_
  simp
  refine callK_pure e4 rfl ?_
  simp
  refine callK_fresh e5 rfl ?_
  simp
  refine callK_pure e6 rfl ?_
  simp
  have hba : ¬ bef < aft := by omega
  simp [hba, tChs, enc1_len, hAl, hgl]
  simp [tChs] at g7
  refine g7 _ ?_
  simp
  refine callK_fresh (lives_spec hΓ) rfl ?_
  simp [law34_ScansShorten_rv, reify]
end Go.Lg
