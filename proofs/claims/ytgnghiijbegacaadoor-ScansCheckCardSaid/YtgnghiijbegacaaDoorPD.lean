/- ScansCheck. Conditions: none. -/
import Derived.Test.YtgnghiijbegacaaDoorPC
set_option linter.unusedSimpArgs false
set_option linter.unusedVariables false
set_option maxRecDepth 100000
namespace Go.Lg
open Go Go.Proofs
variable {Γ : Tables}

theorem run_cut {P : Program} {a b : IC} {Q : AX → St → Prop} {s : St} (h : ∀ K : St → Prop, K = run P Γ b Q → run P Γ a (thenX K Q) s) : run P Γ (.seq a b) Q s := h _ rfl

def seenB (N : Nat) (done : List Int) : List Bool := (List.range N).map fun j : Nat => decide ((j : Int) ∈ done)
theorem seenB_len {N : Nat} {done : List Int} : (seenB N done).length = N := by simp [seenB]
theorem seenB_get {N : Nat} {done : List Int} {n : Int} (h0 : 0 ≤ n) (h : n.toNat < N) : (enc1 tB (seenB N done))[n.toNat]?.getD [] = [tB (decide (n ∈ done))] := by
  rw [enc1_get false (by rw [seenB_len]; exact h)]
  have : (n.toNat : Int) = n := by omega
  simp [seenB, h, this]
theorem seenB_set {N : Nat} {done : List Int} {n : Int} (h0 : 0 ≤ n) (h : n.toNat < N) : (enc1 tB (seenB N done)).set n.toNat [tB true] = enc1 tB (seenB N (done ++ [n])) := by
  rw [enc1_set]
  congr 1
  apply List.ext_getElem
  · simp [seenB]
  · intro i h1 h2
    rw [List.getElem_set]
    simp only [seenB, List.length_set, List.length_map, List.length_range] at h1
    split
    · rename_i e; subst e
      have : (n.toNat : Int) = n := by omega
      simp [seenB, this]
    · rename_i e
      have : ¬ (i : Int) = n := by omega
      simp [seenB, this]
theorem seenB_nil {N : Nat} : List.replicate N [T.v (Value.bool false)] = enc1 tB (seenB N []) := by
  simp [seenB, enc1]
  apply List.ext_getElem <;> simp

def goE (c : Cir) : List Int × Bool → List Int → List Int × Bool
  | s, [] => s
  | s, n :: l => goE c (if elemBad c s.1 n then (s.1, true) else (s.1 ++ [n], s.2)) l
def goC (c : Cir) : List Int × Bool → List (Sl Int) → List Int × Bool
  | s, [] => s
  | s, x :: l => goC c (goE c (s.1, s.2 || decide (x.l = [])) x.l) l

theorem ck_inner {Q : AX → St → Prop} (c : Cir) (chs : Sl (Sl Int)) (W : Int) (r1 r2 r3 : T) (i : Nat) (hi : i < chs.l.length) (h20 : chs.l[i].l.length ≤ 20) (R : List Int × Bool)
    (h0 : Q (.exit 2) ⟨[(1, .t (.sl (enc1 tSl chs.l) chs.cap chs.nl)), (5, .lp 5 0 0), (6, .t (tI W)), (7, .t (tI R.1.length)), (8, .ls 46 0 c.nodes.l.length none), (9, .t (tB R.2)), (10, .t (tI i)), (11, .t (tI chs.l[i].l.length)), (75, .t (tB false))], [(5, .bx [.t (.sl (encN tNd c.nodes.l) c.nodes.cap c.nodes.nl), .t r1, .t r2, .t r3]), (46, .sl 4 1 (enc1 tB (seenB c.nodes.l.length R.1)))]⟩) : ∀ (kk k : Nat) (st : List Int × Bool), kk + k = chs.l[i].l.length → goE c st (chs.l[i].l.drop k) = R → st.1.length + kk ≤ 100000 →
    run Tryd.prog Γ law34_ScansCheck_l1 Q ⟨[(1, .t (.sl (enc1 tSl chs.l) chs.cap chs.nl)), (5, .lp 5 0 0), (6, .t (tI W)), (7, .t (tI st.1.length)), (8, .ls 46 0 c.nodes.l.length none), (9, .t (tB st.2)), (10, .t (tI i)), (11, .t (tI k))], [(5, .bx [.t (.sl (encN tNd c.nodes.l) c.nodes.cap c.nodes.nl), .t r1, .t r2, .t r3]), (46, .sl 4 1 (enc1 tB (seenB c.nodes.l.length st.1)))]⟩
  | 0, k, st, h, hR, hb => by
    refine law34_ScansCheck_l1_run fun K hK => ?_
    have h2 : ¬ k < chs.l[i].l.length := by omega
    have h3 : k = chs.l[i].l.length := by omega
    rw [List.drop_of_length_le (by omega)] at hR
    simp only [goE] at hR
    subst hR
    simp (disch := omega) [h2, enc1_len, enc1_get Sl.d, enc1_wid, tSl, hi]
    subst h3
    simpa [tSl] using h0
  | kk + 1, k, st, h, hR, hb => by
    refine law34_ScansCheck_l1_run fun K hK => ?_
    have h2 : k < chs.l[i].l.length := by omega
    rw [List.drop_eq_getElem_cons h2] at hR
    simp only [goE] at hR
    have bad : elemBad c st.1 chs.l[i].l[k] = true → run Tryd.prog Γ law34_ScansCheck_l1 Q ⟨[(1, .t (.sl (enc1 tSl chs.l) chs.cap chs.nl)), (5, .lp 5 0 0), (6, .t (tI W)), (7, .t (tI st.1.length)), (8, .ls 46 0 c.nodes.l.length none), (9, .t (tB true)), (10, .t (tI i)), (11, .t (tI ((k + 1 : Nat) : Int)))], [(5, .bx [.t (.sl (encN tNd c.nodes.l) c.nodes.cap c.nodes.nl), .t r1, .t r2, .t r3]), (46, .sl 4 1 (enc1 tB (seenB c.nodes.l.length st.1)))]⟩ := fun hb' => by
      rw [if_pos hb'] at hR
      exact ck_inner c chs W r1 r2 r3 i hi h20 R h0 kk (k + 1) (st.1, true) (by omega) hR (by simp only; omega)
    have good : ¬ elemBad c st.1 chs.l[i].l[k] = true → run Tryd.prog Γ law34_ScansCheck_l1 Q ⟨[(1, .t (.sl (enc1 tSl chs.l) chs.cap chs.nl)), (5, .lp 5 0 0), (6, .t (tI W)), (7, .t (tI ((st.1.length + 1 : Nat) : Int))), (8, .ls 46 0 c.nodes.l.length none), (9, .t (tB st.2)), (10, .t (tI i)), (11, .t (tI ((k + 1 : Nat) : Int)))], [(5, .bx [.t (.sl (encN tNd c.nodes.l) c.nodes.cap c.nodes.nl), .t r1, .t r2, .t r3]), (46, .sl 4 1 (enc1 tB (seenB c.nodes.l.length (st.1 ++ [chs.l[i].l[k]]))))]⟩ := fun hb' => by
      rw [if_neg hb'] at hR
      have := ck_inner c chs W r1 r2 r3 i hi h20 R h0 kk (k + 1) (st.1 ++ [chs.l[i].l[k]], st.2) (by omega) hR (by simp; omega)
      simpa using this
    clear hR
    generalize hx : chs.l[i].l[k] = n at bad good
    obtain ⟨done, b⟩ := st
    simp only at bad good hb ⊢
    by_cases b1 : n < 0
    · have := bad (by simp [elemBad, b1])
      simp (disch := omega) [h2, tSl, enc1_len, enc1_get (0 : Int), enc1_get Sl.d, enc1_wid, hx, hi, b1, wrap_i64]
      rw [hK]
      simpa [tSl] using this
    by_cases b2 : (c.nodes.l.length : Int) ≤ n
    · have := bad (by simp [elemBad, b2])
      simp (disch := omega) [h2, tSl, enc1_len, enc1_get (0 : Int), enc1_get Sl.d, enc1_wid, hx, hi, b1, b2, wrap_i64, encN_len]
      rw [hK]
      simpa [tSl] using this
    have hj : n.toNat < c.nodes.l.length := by omega
    have hk : kindAt c n.toNat = c.nodes.l[n.toNat].k := by simp [kindAt, hj]
    by_cases b3 : c.nodes.l[n.toNat].k = 14
    case neg =>
      have := bad (by simp [elemBad, hk, b3])
      simp (disch := omega) [h2, tSl, enc1_len, enc1_get (0 : Int), enc1_get Sl.d, enc1_wid, hx, hi, b1, b2, wrap_i64, encN_len, encN_get Nd.d, tNd_wid, tNd, hj, b3]
      rw [hK]
      exact ⟨by omega, by simpa [tSl] using this⟩
    by_cases b4 : n ∈ done
    · have := bad (by simp [elemBad, b4])
      simp (disch := omega) [h2, tSl, enc1_len, enc1_get (0 : Int), enc1_get Sl.d, enc1_wid, hx, hi, b1, b2, wrap_i64, encN_len, encN_get Nd.d, tNd_wid, tNd, hj, b3, seenB_get, seenB_len, b4]
      rw [hK]
      exact ⟨by omega, by simpa [tSl] using this⟩
    · have := good (by simp [elemBad, b1, b2, hk, b3, b4])
      have hset := seenB_set (N := c.nodes.l.length) (done := done) (n := n) (by omega) hj
      simp (disch := omega) [h2, tSl, enc1_len, enc1_get (0 : Int), enc1_get Sl.d, enc1_wid, hx, hi, b1, b2, wrap_i64, encN_len, encN_get Nd.d, tNd_wid, tNd, hj, b3, seenB_get, seenB_len, b4, hset]
      rw [hK]
      exact ⟨by omega, by simpa [tSl] using this⟩

theorem goE_len (c : Cir) : ∀ (l : List Int) (st : List Int × Bool), (goE c st l).1.length ≤ st.1.length + l.length
  | [], st => by simp [goE]
  | n :: l, st => by
    simp only [goE]
    split
    · have := goE_len c l (st.1, true); simp only [List.length_cons] at this ⊢; omega
    · have := goE_len c l (st.1 ++ [n], st.2); simp only [List.length_cons, List.length_append, List.length_nil] at this ⊢; omega

theorem ck_outer {Q : AX → St → Prop} (hΓ : GOk Γ) (c : Cir) (chs : Sl (Sl Int)) (W : Int) (r1 r2 r3 : T) (h70 : chs.l.length ≤ 70) (R : List Int × Bool)
    (h0 : (∀ s ∈ chs.l, s.l.length ≤ 20) → Q (.exit 0) ⟨[(1, .t (.sl (enc1 tSl chs.l) chs.cap chs.nl)), (5, .lp 5 0 0), (6, .t (tI W)), (7, .t (tI R.1.length)), (8, .ls 46 0 c.nodes.l.length none), (9, .t (tB R.2)), (10, .t (tI chs.l.length)), (50, .t (tB false))], [(5, .bx [.t (.sl (encN tNd c.nodes.l) c.nodes.cap c.nodes.nl), .t r1, .t r2, .t r3]), (46, .sl 4 1 (enc1 tB (seenB c.nodes.l.length R.1)))]⟩) (h1 : Q .ret ⟨[(4, .t (tB true))], []⟩) : ∀ (kk i : Nat) (st : List Int × Bool), kk + i = chs.l.length → goC c st (chs.l.drop i) = R → st.1.length ≤ 20 * i → (∀ j, j < i → ∀ s, chs.l[j]? = some s → s.l.length ≤ 20) →
    run Tryd.prog Γ law34_ScansCheck_l3 Q ⟨[(1, .t (.sl (enc1 tSl chs.l) chs.cap chs.nl)), (5, .lp 5 0 0), (6, .t (tI W)), (7, .t (tI st.1.length)), (8, .ls 46 0 c.nodes.l.length none), (9, .t (tB st.2)), (10, .t (tI i))], [(5, .bx [.t (.sl (encN tNd c.nodes.l) c.nodes.cap c.nodes.nl), .t r1, .t r2, .t r3]), (46, .sl 4 1 (enc1 tB (seenB c.nodes.l.length st.1)))]⟩
  | 0, i, st, h, hR, hb, hp => by
    refine law34_ScansCheck_l3_run fun K hK => ?_
    have h2 : ¬ i < chs.l.length := by omega
    have h3 : i = chs.l.length := by omega
    rw [List.drop_of_length_le (by omega)] at hR
    simp only [goC] at hR
    subst hR
    simp (disch := omega) [h2, enc1_len]
    subst h3
    have := h0 fun s hs => by
      obtain ⟨j, hj, rfl⟩ := List.getElem_of_mem hs
      exact hp j hj _ (List.getElem?_eq_getElem hj)
    simpa using this
  | kk + 1, i, st, h, hR, hb, hp => by
    refine law34_ScansCheck_l3_run fun K hK => ?_
    have h2 : i < chs.l.length := by omega
    rw [List.drop_eq_getElem_cons h2] at hR
    simp only [goC] at hR
    by_cases h20 : 20 < chs.l[i].l.length
    · have h20' : (20 : Int) < chs.l[i].l.length := by omega
      simp (disch := omega) [h2, enc1_len, enc1_get Sl.d, enc1_wid, tSl, h20, h20']
      refine callK_fresh (lives_spec hΓ) rfl ?_
      simp
      exact h1
    · have h20' : ¬ (20 : Int) < chs.l[i].l.length := by omega
      have h20l : chs.l[i].l.length ≤ 20 := by omega
      obtain ⟨b2, hb2⟩ : ∃ b2, b2 = (st.2 || decide (chs.l[i].l = [])) := ⟨_, rfl⟩
      obtain ⟨G, hG⟩ : ∃ G, G = goE c (st.1, b2) chs.l[i].l := ⟨_, rfl⟩
      obtain ⟨n, hn⟩ : ∃ n, n = chs.l[i].l.length := ⟨_, rfl⟩
      have hd : goE c (st.1, b2) (chs.l[i].l.drop 0) = G := hG.symm
      have hin := fun Q h5 => ck_inner (Γ := Γ) (Q := Q) c chs W r1 r2 r3 i h2 h20l G h5 n 0 (st.1, b2) hn hd (by simp only; omega)
      subst hn
      rw [← hb2, ← hG] at hR
      have hlen := goE_len c chs.l[i].l (st.1, b2)
      have ih := fun h => ck_outer hΓ c chs W r1 r2 r3 h70 R h0 h1 kk (i + 1) G (by omega) hR h (fun j hj s hs => by
        rcases Nat.lt_succ_iff_lt_or_eq.1 hj with hj | rfl
        · exact hp j hj s hs
        · rw [List.getElem?_eq_getElem h2] at hs; simp at hs; subst hs; omega)
      rw [← hG] at hlen
      have ih := ih (by simp only at hlen; omega)
      clear hR hd hG
      obtain ⟨done, b⟩ := st
      simp only at hin hlen hb hb2 ⊢
      by_cases hnil : chs.l[i].l = []
      · simp only [hnil, decide_true, Bool.or_true] at hb2
        subst hb2
        simp only [hnil, List.length_nil] at hin
        cases b
        · simp (disch := omega) [h2, enc1_len, enc1_get Sl.d, enc1_wid, tSl, h20, h20', hnil]
          refine hin _ ?_
          simp (disch := omega) [wrap_i64]
          rw [hK]
          simpa using ih
        · simp (disch := omega) [h2, enc1_len, enc1_get Sl.d, enc1_wid, tSl, h20, h20', hnil]
          refine hin _ ?_
          simp (disch := omega) [wrap_i64]
          rw [hK]
          simpa using ih
      · have hl0 : ¬ chs.l[i].l.length = 0 := fun e => hnil (List.eq_nil_of_length_eq_zero e)
        simp only [hnil, decide_false, Bool.or_false] at hb2
        subst hb2
        cases b2
        · simp (disch := omega) [h2, enc1_len, enc1_get Sl.d, enc1_wid, tSl, h20, h20', hnil]
          refine hin _ ?_
          simp (disch := omega) [wrap_i64]
          rw [hK]
          simpa using ih
        · simp (disch := omega) [h2, enc1_len, enc1_get Sl.d, enc1_wid, tSl, h20, h20', hnil]
          refine hin _ ?_
          simp (disch := omega) [wrap_i64]
          rw [hK]
          simpa using ih

theorem goE_bad (c : Cir) : ∀ (l : List Int) (done : List Int), (goE c (done, true) l).2 = true
  | [], _ => rfl
  | n :: l, done => by simp only [goE]; split <;> exact goE_bad c l _
theorem goC_bad (c : Cir) : ∀ (l : List (Sl Int)) (done : List Int), (goC c (done, true) l).2 = true
  | [], _ => rfl
  | x :: l, done => by
    simp only [goC, Bool.true_or]
    have := goE_bad c x.l done
    generalize goE c (done, true) x.l = p at *
    obtain ⟨d, b⟩ := p
    simp only at this; subst this
    exact goC_bad c l d
theorem goE_elems (c : Cir) : ∀ (l : List Int) (done : List Int), match goElems c done l with | none => (goE c (done, false) l).2 = true | some d => goE c (done, false) l = (d, false)
  | [], _ => rfl
  | n :: l, done => by
    simp only [goElems, goE]
    by_cases h : elemBad c done n = true
    · simp only [h, if_true]; exact goE_bad c l done
    · simp only [h]; exact goE_elems c l (done ++ [n])
theorem goC_chains (c : Cir) : ∀ (l : List (Sl Int)) (done : List Int), match goChains c done l with | none => (goC c (done, false) l).2 = true | some d => goC c (done, false) l = (d, false)
  | [], _ => rfl
  | x :: l, done => by
    simp only [goChains, goC, Bool.false_or]
    by_cases h : x.l = []
    · simp only [h, if_true, decide_true]
      exact goC_bad c l _
    · simp only [h, if_false, decide_false]
      have := goE_elems c x.l done
      cases hg : goElems c done x.l with
      | none =>
        rw [hg] at this
        simp only [Option.bind_none]
        generalize goE c (done, false) x.l = p at *
        obtain ⟨d, b⟩ := p
        simp only at this; subst this
        exact goC_bad c l d
      | some d =>
        rw [hg] at this
        simp only at this
        simp only [Option.bind_some, this]
        exact goC_chains c l d

theorem Check_spec (hΓ : GOk Γ) (x : CD) (hx : CDOk x) (chs : Sl (Sl Int)) : PureCalls Tryd.prog Γ 4 [.agg (tCD x), tChs chs] (tB true) := by
  refine run_pureQ law34_ScansCheck_chk rfl ?_
  have hc := ofC_ok hx
  have e1 := Of_spec (Γ := Γ) x hx
  generalize ofC x = c at *
  by_cases h70 : 70 < chs.l.length
  · have h70' : (70 : Int) < chs.l.length := by omega
    simp [law34_ScansCheck_ic, tCD, tChs, enc1_len, h70']
    refine callK_fresh (lives_spec hΓ) rfl ?_
    simp [law34_ScansCheck_rv]
  have h70' : ¬ (70 : Int) < chs.l.length := by omega
  simp [law34_ScansCheck_ic, tCD, tChs, enc1_len, h70']
  refine callK_pure e1 rfl ?_
  simp [tC, tNodes, tNames, tMems, tSl]
  refine callK_fresh (check_spec hΓ c hc) rfl ?_
  simp [-run_seq]
  refine run_cut fun K hK => ?_
  suffices hr : ∀ ex, ex = [] ∨ ex = [(35, AV.t (tB false))] → K ⟨[(1, .t (.sl (enc1 tSl chs.l) chs.cap chs.nl)), (5, .lp 5 0 0), (6, .t (tI (plainErr c)))] ++ ex, [(5, .bx [.t (.sl (encN tNd c.nodes.l) c.nodes.cap c.nodes.nl), .t (.sl (enc1 tS c.names.l) c.names.cap c.names.nl), .t (.sl (encN tMm c.mems.l) c.mems.cap c.mems.nl), .t (.sl (ints c.outs.l) c.outs.cap c.outs.nl)])]⟩ by
    by_cases h1 : levErr c = 0
    case neg =>
      have : plainErr c = levErr c := by unfold plainErr; rw [if_pos h1]
      rw [this] at hr
      simp [h1]
      exact hr _ (.inr rfl)
    have hp : plainErr c = if 0 < c.mems.l.length ∨ 0 < (mems c).length then 7 else 0 := by unfold plainErr; rw [if_neg (show ¬ (levErr c ≠ 0) by simp [h1])]
    by_cases h2 : 0 < c.mems.l.length
    · rw [if_pos (.inl h2)] at hp
      rw [hp] at hr
      simp [h1, encN_len, h2]
      exact hr _ (.inl rfl)
    · simp [h1, encN_len, h2]
      refine callK_fresh (of_one c hc 15) rfl ?_
      have hml : c.mems.l = [] := List.eq_nil_of_length_eq_zero (by omega)
      by_cases h3 : 0 < (ofL [15] c.nodes.l 0).length
      · rw [if_pos (show 0 < c.mems.l.length ∨ 0 < (mems c).length from .inr h3)] at hp
        rw [hp] at hr
        simp [enc1_len, h3]
        exact hr _ (.inl rfl)
      · have h3m : ¬ 0 < (mems c).length := h3
        rw [if_neg (show ¬ (0 < c.mems.l.length ∨ 0 < (mems c).length) by omega)] at hp
        rw [hp] at hr
        simp [enc1_len, h3, h1]
        exact hr _ (.inr rfl)
  intro ex hex
  rw [hK]
  clear hK K
  refine run_cut fun K hK => ?_
  suffices hr : ∀ ex, ex = [] ∨ ex = [(42, AV.t (tB false))] → K ⟨[(1, .t (.sl (enc1 tSl chs.l) chs.cap chs.nl)), (5, .lp 5 0 0), (6, .t (tI (if plainErr c ≠ 0 then plainErr c else if 64 < chs.l.length then 3 else 0)))] ++ ex, [(5, .bx [.t (.sl (encN tNd c.nodes.l) c.nodes.cap c.nodes.nl), .t (.sl (enc1 tS c.names.l) c.names.cap c.names.nl), .t (.sl (encN tMm c.mems.l) c.mems.cap c.mems.nl), .t (.sl (ints c.outs.l) c.outs.cap c.outs.nl)])]⟩ by
    by_cases h1 : plainErr c = 0
    case neg =>
      simp only [h1, ne_eq, not_false_eq_true, if_true] at hr
      rcases hex with rfl | rfl
      · simp [h1]; exact hr _ (.inr rfl)
      · simp [h1]; exact hr _ (.inr rfl)
    simp only [h1, ne_eq, not_true_eq_false, if_false] at hr
    by_cases h2 : 64 < chs.l.length
    · have h2' : (64 : Int) < chs.l.length := by omega
      simp only [h2, if_true] at hr
      rcases hex with rfl | rfl
      · simp [h1, enc1_len, h2, h2']; exact hr _ (.inl rfl)
      · simp [h1, enc1_len, h2, h2']; exact hr _ (.inl rfl)
    · have h2' : ¬ (64 : Int) < chs.l.length := by omega
      simp only [h2, if_false] at hr
      rcases hex with rfl | rfl
      · simp [h1, enc1_len, h2, h2']; exact hr _ (.inr rfl)
      · simp [h1, enc1_len, h2, h2']; exact hr _ (.inr rfl)
  clear hex ex
  intro ex hex
  rw [hK]
  clear hK K
  generalize hW : (if plainErr c ≠ 0 then plainErr c else if 64 < chs.l.length then 3 else 0 : Int) = W
  refine run_cut fun K hK => ?_
  suffices hr : K ⟨[(1, .t (.sl (enc1 tSl chs.l) chs.cap chs.nl)), (5, .lp 5 0 0), (6, .t (tI W)), (7, .t (tI 0))], [(5, .bx [.t (.sl (encN tNd c.nodes.l) c.nodes.cap c.nodes.nl), .t (.sl (enc1 tS c.names.l) c.names.cap c.names.nl), .t (.sl (encN tMm c.mems.l) c.mems.cap c.mems.nl), .t (.sl (ints c.outs.l) c.outs.cap c.outs.nl)])]⟩ by
    rcases hex with rfl | rfl
    · simp; exact hr
    · simp; exact hr
  rw [hK]
  clear hK K hex ex
  have hlp := fun Q h0 h1 => ck_outer (Γ := Γ) (Q := Q) hΓ c chs W (.sl (enc1 tS c.names.l) c.names.cap c.names.nl) (.sl (encN tMm c.mems.l) c.mems.cap c.mems.nl) (.sl (ints c.outs.l) c.outs.cap c.outs.nl) (by omega) (goC c ([], false) chs.l) h0 h1 chs.l.length 0 ([], false) (by omega) rfl (by simp) (by simp)
  have hgc := goC_chains c chs.l []
  generalize goC c ([], false) chs.l = R at *
  have hcn := hc.nodes
  simp only [← seenB_nil] at hlp
  simp [encN_len]
  refine ⟨by omega, hlp _ (fun h20 => ?_) ?_⟩
  case refine_2 => simp [law34_ScansCheck_rv]
  simp [-run_seq]
  have hchk := scheck_spec hΓ c hc chs (by omega) (fun s hs => by have := h20 s hs; omega)
  refine run_cut fun K hK => ?_
  suffices hr : ∀ ex, ex = [] ∨ ex = [(118, AV.t (tB false))] → K ⟨[(1, .t (.sl (enc1 tSl chs.l) chs.cap chs.nl)), (5, .lp 5 0 0), (6, .t (tI (if W = 0 ∧ R.2 = true then 1 else W))), (7, .t (tI R.1.length))] ++ ex, [(5, .bx [.t (.sl (encN tNd c.nodes.l) c.nodes.cap c.nodes.nl), .t (.sl (enc1 tS c.names.l) c.names.cap c.names.nl), .t (.sl (encN tMm c.mems.l) c.mems.cap c.mems.nl), .t (.sl (ints c.outs.l) c.outs.cap c.outs.nl)])]⟩ by
    by_cases h1 : W = 0
    · by_cases h2 : R.2 = true
      · simp only [h1, h2, and_self, if_true] at hr
        simp [h1, h2]; exact hr _ (.inl rfl)
      · simp only [h1, h2, and_false, if_false] at hr
        simp [h1, h2]; exact hr _ (.inr rfl)
    · simp only [h1, false_and, if_false] at hr
      simp [h1]; exact hr _ (.inr rfl)
  intro ex hex
  rw [hK]
  clear hK K
  have hfin : (if (if W = 0 ∧ R.2 = true then 1 else W) = 0 ∧ R.1.length ≠ (states c).length then 8 else (if W = 0 ∧ R.2 = true then 1 else W)) = checkErr c chs.l := by
    unfold checkErr
    by_cases h1 : plainErr c = 0
    case neg => simp [h1] at hW; simp [h1, ← hW]
    by_cases h2 : 64 < chs.l.length
    · simp [h1, h2] at hW; simp [h1, h2, ← hW]
    · simp [h1, h2] at hW
      cases hg : goChains c [] chs.l with
      | none => rw [hg] at hgc; simp only at hgc; simp [h1, h2, ← hW, hgc]
      | some d => rw [hg] at hgc; simp only at hgc; subst hgc; simp [h1, h2, ← hW]
  generalize (if W = 0 ∧ R.2 = true then 1 else W) = W1 at *
  refine run_cut fun K hK => ?_
  suffices hr : ∀ ex, ex = [] ∨ ex = [(127, AV.t (tB false))] → K ⟨[(1, .t (.sl (enc1 tSl chs.l) chs.cap chs.nl)), (5, .lp 5 0 0), (6, .t (tI (checkErr c chs.l)))] ++ ex, [(5, .bx [.t (.sl (encN tNd c.nodes.l) c.nodes.cap c.nodes.nl), .t (.sl (enc1 tS c.names.l) c.names.cap c.names.nl), .t (.sl (encN tMm c.mems.l) c.mems.cap c.mems.nl), .t (.sl (ints c.outs.l) c.outs.cap c.outs.nl)])]⟩ by
    rw [← hfin] at hr
    by_cases h1 : W1 = 0
    · have hst := states_spec (Γ := Γ) c hc
      by_cases h2 : R.1.length = (states c).length
      · have h2' : (R.1.length : Int) = (states c).length := by omega
        simp only [h1, h2, ne_eq, not_true_eq_false, and_false, if_false] at hr
        rcases hex with rfl | rfl
        · simp [h1]
          refine callK_pure hst rfl ?_
          simp [enc1_len, h2, h2']; exact hr _ (.inr rfl)
        · simp [h1]
          refine callK_pure hst rfl ?_
          simp [enc1_len, h2, h2']; exact hr _ (.inr rfl)
      · have h2' : ¬ (R.1.length : Int) = (states c).length := by omega
        simp only [h1, h2, ne_eq, not_false_eq_true, and_self, if_true] at hr
        rcases hex with rfl | rfl
        · simp [h1]
          refine callK_pure hst rfl ?_
          simp [enc1_len, h2, h2']; exact hr _ (.inl rfl)
        · simp [h1]
          refine callK_pure hst rfl ?_
          simp [enc1_len, h2, h2']; exact hr _ (.inl rfl)
    · simp only [h1, false_and, if_false] at hr
      rcases hex with rfl | rfl
      · simp [h1]; exact hr _ (.inr rfl)
      · simp [h1]; exact hr _ (.inr rfl)
  clear hex ex
  intro ex hex
  rw [hK]
  clear hK K
  rcases hex with rfl | rfl
  · simp
    refine callK_fresh hchk rfl ?_
    simp
    refine callK_fresh (lives_spec hΓ) rfl ?_
    simp [law34_ScansCheck_rv]
  · simp
    refine callK_fresh hchk rfl ?_
    simp
    refine callK_fresh (lives_spec hΓ) rfl ?_
    simp [law34_ScansCheck_rv]
end Go.Lg

/- ScansBalance: the plain law. Conditions: none. -/
set_option linter.unusedSimpArgs false
set_option linter.unusedVariables false
set_option maxRecDepth 100000
namespace Go.Lg
open Go Go.Proofs
variable {Γ : Tables}

def elems (l : List (Sl Int)) : List Int := (l.map fun s => s.l).flatten
theorem elems_nil : elems [] = [] := rfl
theorem elems_cons {s : Sl Int} {l : List (Sl Int)} : elems (s :: l) = s.l ++ elems l := rfl

theorem balS_flat : ∀ {n : Nat} {l : List Int}, 1 ≤ n → elems (balS n l) = l
  | n + 1, l, _ => by
    simp only [balS, elems_cons]
    cases n with
    | zero =>
      simp only [balS, elems_nil, List.append_nil]
      exact List.take_of_length_le (by simp)
    | succ n =>
      rw [balS_flat (n := n + 1) (by omega)]
      exact List.take_append_drop _ _

/-- The lengths lie between the two quotients. -/
theorem balS_bounds : ∀ {n : Nat} {l : List Int} {lo hi : Nat}, lo * n ≤ l.length → l.length ≤ hi * n → ∀ s ∈ balS n l, lo ≤ s.l.length ∧ s.l.length ≤ hi
  | 0, _, _, _, _, _, s, hs => by cases hs
  | n + 1, l, lo, hi, h1, h2, s, hs => by
    have e1 : lo * (n + 1) = lo * n + lo := by rw [Nat.mul_add, Nat.mul_one]
    have e2 : hi * (n + 1) = hi * n + hi := by rw [Nat.mul_add, Nat.mul_one]
    have hm1 : lo ≤ (l.length + n) / (n + 1) := by
      rw [Nat.le_div_iff_mul_le (by omega)]; omega
    have hm2 : (l.length + n) / (n + 1) ≤ hi := by
      rw [Nat.div_le_iff_le_mul_add_pred (by omega), Nat.mul_comm]; omega
    have hml : (l.length + n) / (n + 1) ≤ l.length := by
      rw [Nat.div_le_iff_le_mul_add_pred (by omega)]
      have : l.length ≤ (n + 1) * l.length := Nat.le_mul_of_pos_left _ (by omega)
      omega
    have hd := Nat.div_add_mod (l.length + n) (n + 1)
    have hlt := Nat.mod_lt (l.length + n) (show 0 < n + 1 by omega)
    have e3 : (n + 1) * ((l.length + n) / (n + 1)) = (l.length + n) / (n + 1) * n + (l.length + n) / (n + 1) := by rw [Nat.mul_comm, Nat.mul_add, Nat.mul_one]
    simp only [balS, List.mem_cons] at hs
    rcases hs with rfl | hs
    · simp only [List.length_take]; omega
    · refine balS_bounds (n := n) (l := l.drop ((l.length + n) / (n + 1))) ?_ ?_ s hs
      · rw [List.length_drop]
        by_cases hlo : (l.length + n) / (n + 1) = lo
        · omega
        · -- the first takes more than lo: then the ceil is more than lo and what is left has at least lo each
          have h3 : lo + 1 ≤ (l.length + n) / (n + 1) := by omega
          generalize hq : (l.length + n) / (n + 1) = q at *
          have h4 : (lo + 1) * n ≤ q * n := Nat.mul_le_mul_right n h3
          have h5 : (lo + 1) * n = lo * n + n := by rw [Nat.add_mul, Nat.one_mul]
          omega
      · rw [List.length_drop]
        by_cases hhi : (l.length + n) / (n + 1) = hi
        · omega
        · have h3 : (l.length + n) / (n + 1) + 1 ≤ hi := by omega
          generalize hq : (l.length + n) / (n + 1) = q at *
          have h4 : (q + 1) * n ≤ hi * n := Nat.mul_le_mul_right n h3
          have h5 : (q + 1) * n = q * n + n := by rw [Nat.add_mul, Nat.one_mul]
          omega

theorem balS_head {n : Nat} {l : List Int} (h : 0 < (balS (n + 1) l).length) : (balS (n + 1) l)[0].l.length = (l.length + n) / (n + 1) := by
  have hml : (l.length + n) / (n + 1) ≤ l.length := by
    rw [Nat.div_le_iff_le_mul_add_pred (by omega)]
    have : l.length ≤ (n + 1) * l.length := Nat.le_mul_of_pos_left _ (by omega)
    omega
  simp only [balS, List.getElem_cons_zero, List.length_take]; omega

/-- The longer ones come first. -/
theorem balS_desc : ∀ {n : Nat} {l : List Int} (i : Nat) (h : i + 1 < (balS n l).length), (balS n l)[i + 1].l.length ≤ (balS n l)[i].l.length
  | 0, _, _, h => by simp [balS] at h
  | n + 1, l, 0, h => by
    rw [balS_len] at h
    have hml : (l.length + n) / (n + 1) ≤ l.length := by
      rw [Nat.div_le_iff_le_mul_add_pred (by omega)]
      have : l.length ≤ (n + 1) * l.length := Nat.le_mul_of_pos_left _ (by omega)
      omega
    have hb := balS_bounds (n := n) (l := l.drop ((l.length + n) / (n + 1))) (lo := 0) (hi := (l.length + n) / (n + 1)) (by omega) (by
      rw [List.length_drop]
      have hd := Nat.div_add_mod (l.length + n) (n + 1)
      have hlt := Nat.mod_lt (l.length + n) (show 0 < n + 1 by omega)
      have e3 : (n + 1) * ((l.length + n) / (n + 1)) = (l.length + n) / (n + 1) * n + (l.length + n) / (n + 1) := by rw [Nat.mul_comm, Nat.mul_add, Nat.mul_one]
      omega)
    simp only [balS, List.getElem_cons_succ, List.getElem_cons_zero, List.length_take]
    have := (hb _ (List.getElem_mem (by rw [balS_len]; omega : 0 < (balS n (l.drop ((l.length + n) / (n + 1)))).length))).2
    omega
  | n + 1, l, i + 1, h => by
    simp only [balS, List.getElem_cons_succ]
    exact balS_desc i (by simp only [balS, List.length_cons] at h; omega)

theorem balS_near {n : Nat} {l : List Int} (h0 : 0 < (balS n l).length) : ∀ s ∈ balS n l, (balS n l)[0].l.length ≤ s.l.length + 1 := by
  intro s hs
  cases n with
  | zero => cases hs
  | succ n =>
    rw [balS_head]
    have hd := Nat.div_add_mod l.length (n + 1)
    have hb := (balS_bounds (lo := l.length / (n + 1)) (hi := l.length) (Nat.div_mul_le_self _ _) (Nat.le_mul_of_pos_right _ (by omega)) s hs).1
    have : (l.length + n) / (n + 1) ≤ l.length / (n + 1) + 1 := by
      rw [Nat.div_le_iff_le_mul_add_pred (by omega), Nat.mul_add, Nat.mul_one]
      have hlt := Nat.mod_lt l.length (show 0 < n + 1 by omega)
      omega
    omega

theorem balS_ne {n : Nat} {l : List Int} (h : n ≤ l.length) : ∀ s ∈ balS n l, s.l ≠ [] := by
  intro s hs e
  have := (balS_bounds (lo := 1) (hi := l.length) (n := n) (l := l) (by omega) (by
    cases n with
    | zero => cases hs
    | succ n => exact Nat.le_mul_of_pos_right _ (by omega)) s hs).1
  rw [e] at this; simp at this

/-- Chains of different good nodes are accepted. -/
theorem goElems_ok {c : Cir} : ∀ {l done : List Int}, (∀ n ∈ l, 0 ≤ n ∧ n < c.nodes.l.length ∧ kindAt c n.toNat = 14) → l.Nodup → (∀ n ∈ l, n ∉ done) → goElems c done l = some (done ++ l)
  | [], done, _, _, _ => by simp [goElems]
  | n :: l, done, h, hn, hd => by
    have h0 := h n List.mem_cons_self
    have hb : ¬ elemBad c done n = true := by
      simp [elemBad, h0.2.2, hd n List.mem_cons_self]; omega
    simp only [goElems, if_neg hb]
    rw [goElems_ok (fun m hm => h m (List.mem_cons_of_mem _ hm)) (List.nodup_cons.1 hn).2 (fun m hm he => by
      rcases List.mem_append.1 he with he | he
      · exact hd m (List.mem_cons_of_mem _ hm) he
      · simp at he; subst he; exact (List.nodup_cons.1 hn).1 hm)]
    simp
theorem goChains_ok {c : Cir} : ∀ {l : List (Sl Int)} {done : List Int}, (∀ s ∈ l, s.l ≠ []) → (∀ n ∈ elems l, 0 ≤ n ∧ n < c.nodes.l.length ∧ kindAt c n.toNat = 14) → (elems l).Nodup → (∀ n ∈ elems l, n ∉ done) → goChains c done l = some (done ++ elems l)
  | [], done, _, _, _, _ => by simp [goChains, elems_nil]
  | s :: l, done, hne, h, hn, hd => by
    simp only [elems_cons] at h hn hd ⊢
    have hn' := List.nodup_append.1 hn
    simp only [goChains, if_neg (hne s List.mem_cons_self)]
    rw [goElems_ok (fun n hm => h n (List.mem_append_left _ hm)) hn'.1 (fun n hm => hd n (List.mem_append_left _ hm)), Option.bind_some]
    rw [goChains_ok (fun t ht => hne t (List.mem_cons_of_mem _ ht)) (fun n hm => h n (List.mem_append_right _ hm)) hn'.2.1 (fun n hm he => by
      rcases List.mem_append.1 he with he | he
      · exact hd n (List.mem_append_right _ hm) he
      · exact hn'.2.2 n he n hm rfl)]
    simp

theorem ofL_kind (ks : List Int) : ∀ (l : List Nd) (i : Nat), ∀ n ∈ ofL ks l i, (i : Int) ≤ n ∧ n < i + l.length ∧ ks.contains (l.getD (n.toNat - i) Nd.d).k = true
  | [], _, n, h => by cases h
  | x :: l, i, n, h => by
    have tail : n ∈ ofL ks l (i + 1) → (i : Int) ≤ n ∧ n < i + (x :: l).length ∧ ks.contains ((x :: l).getD (n.toNat - i) Nd.d).k = true := fun h => by
      obtain ⟨h1, h2, h3⟩ := ofL_kind ks l (i + 1) n h
      refine ⟨by omega, by simp only [List.length_cons]; omega, ?_⟩
      have e : n.toNat - i = (n.toNat - (i + 1)) + 1 := by omega
      rw [e, List.getD_cons_succ]
      exact h3
    simp only [ofL] at h
    split at h
    · rename_i hk
      rcases List.mem_cons.1 h with rfl | h
      · refine ⟨by omega, by simp only [List.length_cons]; omega, ?_⟩
        have e : ((i : Int).toNat - i) = 0 := by omega
        rw [e, List.getD_cons_zero]
        exact hk
      · exact tail h
    · exact tail h

theorem states_good {c : Cir} : ∀ n ∈ states c, 0 ≤ n ∧ n < c.nodes.l.length ∧ kindAt c n.toNat = 14 := by
  intro n hn
  obtain ⟨h1, h2, h3⟩ := ofL_kind [14] c.nodes.l 0 n hn
  refine ⟨by omega, by omega, ?_⟩
  simpa [kindAt] using h3

theorem bal_check {c : Cir} {n : Int} (h : balErr c n = 0) : checkErr c (bal c n) = 0 := by
  unfold balErr at h
  by_cases h1 : plainErr c = 0
  case neg => rw [if_pos h1] at h; exact absurd h h1
  rw [if_neg (by simp [h1])] at h
  split at h
  · cases h
  split at h
  · cases h
  have hlen : (bal c n).length = balN c n := balS_len
  have hN : balN c n ≤ 64 := by unfold balN; omega
  have hflat : elems (bal c n) = states c := by
    by_cases h0 : 1 ≤ balN c n
    · exact balS_flat h0
    · have : (states c).length = 0 := by unfold balN at h0; omega
      have hs : states c = [] := List.eq_nil_of_length_eq_zero this
      have hb : balN c n = 0 := by omega
      unfold bal; rw [hb, hs]; rfl
  have hg := goChains_ok (c := c) (l := bal c n) (done := []) (balS_ne (by unfold balN; omega)) (by rw [hflat]; exact states_good) (by rw [hflat]; exact states_nodup c) (by simp)
  unfold checkErr
  rw [if_neg (by simp [h1]), if_neg (by omega), hg]
  simp [hflat]
end Go.Lg

/- ScansBalance. Conditions: none. -/
set_option linter.unusedSimpArgs false
set_option linter.unusedVariables false
set_option maxRecDepth 100000
namespace Go.Lg
open Go Go.Proofs
variable {Γ : Tables}

theorem elems_at : ∀ (l : List (Sl Int)) (i k : Nat) (hi : i < l.length) (hk : k < l[i].l.length), ∃ h : (elems (l.take i)).length + k < (elems l).length, (elems l)[(elems (l.take i)).length + k] = l[i].l[k]
  | [], i, _, hi, _ => by simp at hi
  | s :: l, 0, k, hi, hk => by
    simp only [List.getElem_cons_zero] at hk
    refine ⟨by simp [elems_cons, elems_nil]; omega, ?_⟩
    simp only [elems_cons, List.take_zero, elems_nil, List.length_nil, Nat.zero_add, List.getElem_cons_zero]
    exact List.getElem_append_left hk
  | s :: l, i + 1, k, hi, hk => by
    simp only [List.getElem_cons_succ] at hk
    obtain ⟨h, e⟩ := elems_at l i k (by simpa using hi) hk
    simp only [List.take_succ_cons, elems_cons, List.length_append, List.getElem_cons_succ]
    refine ⟨by omega, ?_⟩
    rw [List.getElem_append_right (by omega)]
    simp only [← e]
    congr 1
    omega
theorem elems_take (l : List (Sl Int)) (i : Nat) (hi : i < l.length) : (elems (l.take (i + 1))).length = (elems (l.take i)).length + l[i].l.length := by
  have : elems (l.take (i + 1)) = elems (l.take i) ++ l[i].l := by
    rw [List.take_add_one, List.getElem?_eq_getElem hi]
    unfold elems
    rw [List.map_append, List.flatten_append]
    simp
  rw [this, List.length_append]

theorem bl_inner {Q : AX → St → Prop} (l : List (Sl Int)) (cap : Option Nat) (nl : Option Bool) (st : List Int) (scap : Option Nat) (snl : Option Bool) (hst : st.length ≤ 1000000000) (i : Nat) (hi : i < l.length) (a : Nat) (ha : a + l[i].l.length ≤ st.length) (hm : ∀ k (h : k < l[i].l.length), ∃ h' : a + k < st.length, st[a + k] = l[i].l[k])
    (h0 : Q (.exit 2) ⟨[(6, .t (.sl (enc1 tSl l) cap nl)), (9, .t (.sl (ints st) scap snl)), (10, .t (tI (a + l[i].l.length : Nat))), (11, .t (tI i)), (12, .t (tI l[i].l.length)), (117, .t (tB false))], []⟩) : ∀ (kk k : Nat), kk + k = l[i].l.length →
    run Tryd.prog Γ law34_ScansBalance_l1 Q ⟨[(6, .t (.sl (enc1 tSl l) cap nl)), (9, .t (.sl (ints st) scap snl)), (10, .t (tI (a + k : Nat))), (11, .t (tI i)), (12, .t (tI k))], []⟩
  | 0, k, h => by
    refine law34_ScansBalance_l1_run fun K hK => ?_
    have h2 : ¬ k < l[i].l.length := by omega
    have h3 : k = l[i].l.length := by omega
    simp (disch := omega) [h2, enc1_len, enc1_get Sl.d, enc1_wid, tSl, hi]
    subst h3
    simpa [tSl] using h0
  | kk + 1, k, h => by
    refine law34_ScansBalance_l1_run fun K hK => ?_
    have h2 : k < l[i].l.length := by omega
    obtain ⟨h3, e⟩ := hm k h2
    have h4 : ¬ (st.length : Int) ≤ (a : Int) + k := by omega
    have h5 : ((a : Int) + k).toNat = a + k := by omega
    have h6 : (a : Int) + k < st.length := by omega
    have ih := bl_inner l cap nl st scap snl hst i hi a ha hm h0 kk (k + 1) (by omega)
    simp (disch := omega) [h2, enc1_len, enc1_get (0 : Int), enc1_get Sl.d, enc1_wid, tSl, hi, h3, h4, h5, h6, e, wrap_i64]
    refine ⟨by omega, ?_⟩
    rw [hK]
    simp [tSl] at ih
    exact_mod_cast ih

theorem bl_outer {Q : AX → St → Prop} (l : List (Sl Int)) (cap : Option Nat) (nl : Option Bool) (st : List Int) (scap : Option Nat) (snl : Option Bool) (hl : l.length ≤ 100000) (hst : st.length ≤ 1000000000) (hf : elems l = st) (hd : ∀ i (h : i + 1 < l.length), l[i + 1].l.length ≤ l[i].l.length) (hn : ∀ (h0 : 0 < l.length), ∀ s ∈ l, l[0].l.length ≤ s.l.length + 1)
    (h0 : Q (.exit 0) ⟨[(6, .t (.sl (enc1 tSl l) cap nl)), (9, .t (.sl (ints st) scap snl)), (10, .t (tI st.length)), (11, .t (tI l.length)), (79, .t (tB false))], []⟩) : ∀ (kk i : Nat), kk + i = l.length →
    run Tryd.prog Γ law34_ScansBalance_l3 Q ⟨[(6, .t (.sl (enc1 tSl l) cap nl)), (9, .t (.sl (ints st) scap snl)), (10, .t (tI (elems (l.take i)).length)), (11, .t (tI i))], []⟩
  | 0, i, h => by
    refine law34_ScansBalance_l3_run fun K hK => ?_
    have h2 : ¬ i < l.length := by omega
    have h3 : i = l.length := by omega
    simp (disch := omega) [h2, enc1_len]
    subst h3
    rw [List.take_length, hf]
    exact h0
  | kk + 1, i, h => by
    refine law34_ScansBalance_l3_run fun K hK => ?_
    have h2 : i < l.length := by omega
    have ih := bl_outer l cap nl st scap snl hl hst hf hd hn h0 kk (i + 1) (by omega)
    have ht := elems_take l i h2
    rw [ht] at ih
    obtain ⟨a, ha⟩ : ∃ a, a = (elems (l.take i)).length := ⟨_, rfl⟩
    have hm : ∀ k (h : k < l[i].l.length), ∃ h' : a + k < st.length, st[a + k] = l[i].l[k] := fun k hk => by
      subst ha hf; exact elems_at l i k h2 hk
    have hal : a + l[i].l.length ≤ st.length := by
      by_cases h5 : l[i].l.length = 0
      · have : (elems (l.take (i + 1))).length ≤ (elems l).length := by
          have := congrArg List.length (congrArg elems (List.take_append_drop (i + 1) l))
          simp only [elems, List.map_append, List.flatten_append, List.length_append] at this ⊢
          omega
        rw [hf, ht] at this
        omega
      · obtain ⟨h6, _⟩ := hm (l[i].l.length - 1) (by omega)
        omega
    obtain ⟨n, hnn⟩ : ∃ n, n = l[i].l.length := ⟨_, rfl⟩
    have hin := fun Q h5 => bl_inner (Γ := Γ) (Q := Q) l cap nl st scap snl hst i h2 a hal hm h5 n 0 hnn
    rw [← ha] at ih ⊢
    have hnear := hn (by omega) _ (List.getElem_mem h2)
    have h0l : 0 < l.length := by omega
    cases i with
    | zero =>
      simp (disch := omega) [h2, enc1_len, enc1_get Sl.d, enc1_wid, tSl, wrap_i64]
      refine hin _ ?_
      simp (disch := omega) [wrap_i64]
      rw [hK]
      simpa using ih
    | succ j =>
      have hj : j < l.length := by omega
      have hdj := hd j h2
      have g1 : ((j : Int) + 1 - 1) = j := by omega
      have g2 : ¬ (l[j].l.length : Int) < l[j + 1].l.length := by omega
      have g3 : ¬ ((l[j + 1].l.length : Nat) : Int) + (1 : Int) < ((l[0].l.length : Nat) : Int) := by omega
      have g4 : (0 : Int) < (j : Int) + 1 := by omega
      have g5 : (j : Int) + 1 < l.length := by omega
      have g6 : ((j : Int) + 1).toNat = j + 1 := by omega
      simp (disch := omega) [h2, hj, enc1_len, enc1_get Sl.d, enc1_wid, tSl, wrap_i64, g1, g2, g3, g4, g5, g6, h0l]
      refine ⟨by omega, hin _ ?_⟩
      simp (disch := omega) [wrap_i64]
      rw [hK]
      simpa using ih

theorem lawBalance_spec (hΓ : GOk Γ) (x : CD) (hx : CDOk x) (n : Int) : PureCalls Tryd.prog Γ 3 [.agg (tCD x), tI n] (tB true) := by
  refine run_pureQ law34_ScansBalance_chk rfl ?_
  have hc := ofC_ok hx
  have e1 := Of_spec (Γ := Γ) x hx
  generalize ofC x = c at *
  have e2 := Balance_spec hΓ c hc n
  have hcn := hc.nodes
  simp [law34_ScansBalance_ic, tCD]
  refine callK_pure e1 rfl ?_
  simp [tC, tNodes, tNames, tMems, tSl]
  refine callK_pure e2 rfl ?_
  simp
  obtain ⟨l, hl⟩ : ∃ l, l = if balErr c n = 0 then tChs ⟨bal c n, some (bal c n).length, none⟩ else .sl [] (some 0) (some true) := ⟨_, rfl⟩
  rw [← hl]
  refine callK_fresh (check_spec hΓ c hc) rfl ?_
  simp [-run_seq]
  refine run_cut fun K hK => ?_
  suffices hr : ∀ ex, ex = [] ∨ ex = [(37, AV.t (tB false))] → K ⟨[(1, .t (tI n)), (5, .lp 5 0 0), (6, .t l), (7, .t (tI (balErr c n))), (8, .t (tI (plainErr c)))] ++ ex, [(5, .bx [.t (.sl (encN tNd c.nodes.l) c.nodes.cap c.nodes.nl), .t (.sl (enc1 tS c.names.l) c.names.cap c.names.nl), .t (.sl (encN tMm c.mems.l) c.mems.cap c.mems.nl), .t (.sl (ints c.outs.l) c.outs.cap c.outs.nl)])]⟩ by
    by_cases h1 : levErr c = 0
    case neg =>
      have : plainErr c = levErr c := by unfold plainErr; rw [if_pos h1]
      rw [this] at hr
      simp [h1]
      exact hr _ (.inr rfl)
    have hp : plainErr c = if 0 < c.mems.l.length ∨ 0 < (mems c).length then 7 else 0 := by unfold plainErr; rw [if_neg (show ¬ (levErr c ≠ 0) by simp [h1])]
    by_cases h2 : 0 < c.mems.l.length
    · rw [if_pos (.inl h2)] at hp
      rw [hp] at hr
      simp [h1, encN_len, h2]
      exact hr _ (.inl rfl)
    · simp [h1, encN_len, h2]
      refine callK_fresh (of_one c hc 15) rfl ?_
      have hml : c.mems.l = [] := List.eq_nil_of_length_eq_zero (by omega)
      by_cases h3 : 0 < (ofL [15] c.nodes.l 0).length
      · rw [if_pos (show 0 < c.mems.l.length ∨ 0 < (mems c).length from .inr h3)] at hp
        rw [hp] at hr
        simp [enc1_len, h3]
        exact hr _ (.inl rfl)
      · have h3m : ¬ 0 < (mems c).length := h3
        rw [if_neg (show ¬ (0 < c.mems.l.length ∨ 0 < (mems c).length) by omega)] at hp
        rw [hp] at hr
        simp [enc1_len, h3, h1]
        exact hr _ (.inr rfl)
  intro ex hex
  rw [hK]
  clear hK K
  refine run_cut fun K hK => ?_
  suffices hr : ∀ ex, ex = [] ∨ ex = [(43, AV.t (tB false))] → K ⟨[(1, .t (tI n)), (5, .lp 5 0 0), (6, .t l), (7, .t (tI (balErr c n))), (8, .t (tI (if plainErr c ≠ 0 then plainErr c else if n < 1 then 1 else 0)))] ++ ex, [(5, .bx [.t (.sl (encN tNd c.nodes.l) c.nodes.cap c.nodes.nl), .t (.sl (enc1 tS c.names.l) c.names.cap c.names.nl), .t (.sl (encN tMm c.mems.l) c.mems.cap c.mems.nl), .t (.sl (ints c.outs.l) c.outs.cap c.outs.nl)])]⟩ by
    by_cases h1 : plainErr c = 0
    case neg =>
      simp only [h1, ne_eq, not_false_eq_true, if_true] at hr
      rcases hex with rfl | rfl
      · simp [h1]; exact hr _ (.inr rfl)
      · simp [h1]; exact hr _ (.inr rfl)
    simp only [h1, ne_eq, not_true_eq_false, if_false] at hr
    by_cases h2 : n < 1
    · simp only [h2, if_true] at hr
      rcases hex with rfl | rfl
      · simp [h1, h2]; exact hr _ (.inl rfl)
      · simp [h1, h2]; exact hr _ (.inl rfl)
    · simp only [h2, if_false] at hr
      rcases hex with rfl | rfl
      · simp [h1, h2]; exact hr _ (.inr rfl)
      · simp [h1, h2]; exact hr _ (.inr rfl)
  clear hex ex
  intro ex hex
  rw [hK]
  clear hK K
  have hfin : balErr c n = if (if plainErr c ≠ 0 then plainErr c else if n < 1 then 1 else 0) = 0 ∧ 64 < n then 3 else (if plainErr c ≠ 0 then plainErr c else if n < 1 then 1 else 0) := by
    unfold balErr
    by_cases h1 : plainErr c = 0
    · by_cases h2 : n < 1
      · simp [h1, h2]
      · simp [h1, h2]
    · simp [h1]
  generalize (if plainErr c ≠ 0 then plainErr c else if n < 1 then 1 else 0 : Int) = W at *
  refine run_cut fun K hK => ?_
  suffices hr : ∀ ex, ex = [] ∨ ex = [(49, AV.t (tB false))] → K ⟨[(1, .t (tI n)), (5, .lp 5 0 0), (6, .t l), (7, .t (tI (balErr c n))), (8, .t (tI (balErr c n)))] ++ ex, [(5, .bx [.t (.sl (encN tNd c.nodes.l) c.nodes.cap c.nodes.nl), .t (.sl (enc1 tS c.names.l) c.names.cap c.names.nl), .t (.sl (encN tMm c.mems.l) c.mems.cap c.mems.nl), .t (.sl (ints c.outs.l) c.outs.cap c.outs.nl)])]⟩ by
    by_cases h1 : W = 0
    · by_cases h2 : 64 < n
      · simp only [h1, h2, and_self, if_true] at hfin
        rw [hfin] at hr ⊢
        rcases hex with rfl | rfl
        · simp [h1, h2]; exact hr _ (.inl rfl)
        · simp [h1, h2]; exact hr _ (.inl rfl)
      · simp only [h1, h2, and_false, if_false] at hfin
        rw [hfin] at hr ⊢
        rcases hex with rfl | rfl
        · simp [h1, h2]; exact hr _ (.inr rfl)
        · simp [h1, h2]; exact hr _ (.inr rfl)
    · simp only [h1, false_and, if_false] at hfin
      rw [hfin] at hr ⊢
      rcases hex with rfl | rfl
      · simp [h1]; exact hr _ (.inr rfl)
      · simp [h1]; exact hr _ (.inr rfl)
  clear hex ex
  intro ex hex
  rw [hK]
  clear hK K
  refine run_cut fun K hK => ?_
  suffices hr : K ⟨[(1, .t (tI n)), (5, .lp 5 0 0), (6, .t l), (7, .t (tI (balErr c n))), (52, AV.t (tB false))], [(5, .bx [.t (.sl (encN tNd c.nodes.l) c.nodes.cap c.nodes.nl), .t (.sl (enc1 tS c.names.l) c.names.cap c.names.nl), .t (.sl (encN tMm c.mems.l) c.mems.cap c.mems.nl), .t (.sl (ints c.outs.l) c.outs.cap c.outs.nl)])]⟩ by
    rcases hex with rfl | rfl
    · simp; exact hr
    · simp; exact hr
  rw [hK]
  clear hK K hex ex
  by_cases h0 : balErr c n = 0
  case neg =>
    rw [if_neg h0] at hl
    subst hl
    simp [h0]
    refine callK_fresh (lives_spec hΓ) rfl ?_
    simp [law34_ScansBalance_rv]
  rw [if_pos h0] at hl
  subst hl
  have hck := bal_check h0
  have h1n : 1 ≤ n := by
    unfold balErr at h0
    split at h0
    · rename_i h; exact absurd h0 h
    split at h0
    · cases h0
    omega
  have hlen : (bal c n).length = balN c n := balS_len
  have hsl := states_len c
  have hN : (balN c n : Int) = if ((states c).length : Int) < n then ((states c).length : Int) else n := by unfold balN; split <;> omega
  have hNb : balN c n ≤ (states c).length := by unfold balN; omega
  have h64 := checkErr_len hck
  have hbs : ∀ s ∈ bal c n, s.l.length ≤ 1000000000 := fun s hs => by
    have := (balS_bounds (n := balN c n) (l := states c) (lo := 0) (hi := (states c).length) (by omega) (by
      cases hb : balN c n with
      | zero => unfold bal at hs; rw [hb] at hs; cases hs
      | succ m => exact Nat.le_mul_of_pos_right _ (by omega)) s hs).2
    omega
  have hchk := scheck_spec hΓ c hc ⟨bal c n, some (bal c n).length, none⟩ (by simp only; omega) hbs
  rw [hck] at hchk
  have hflat : elems (bal c n) = states c := by
    by_cases h0 : 1 ≤ balN c n
    · exact balS_flat h0
    · have : (states c).length = 0 := by unfold balN at h0; omega
      have hs : states c = [] := List.eq_nil_of_length_eq_zero this
      have hb : balN c n = 0 := by omega
      unfold bal; rw [hb, hs]; rfl
  have hlp := fun Q h0 => bl_outer (Γ := Γ) (Q := Q) (bal c n) (some (bal c n).length) none (states c) (some (states c).length) none (by omega) (by omega) hflat balS_desc balS_near h0 (bal c n).length 0 (by omega)
  simp [h0]
  refine callK_pure (states_spec c hc) rfl ?_
  rw [hlen] at hchk hlp
  simp [tChs, enc1_len, hlen, ← hN]
  refine callK_fresh hchk rfl ?_
  simp
  refine hlp _ ?_
  simp [enc1_len]
  refine callK_fresh (lives_spec hΓ) rfl ?_
  simp [law34_ScansBalance_rv]
end Go.Lg
