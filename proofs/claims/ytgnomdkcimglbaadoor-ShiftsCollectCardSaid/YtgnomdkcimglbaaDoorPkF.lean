/- shifts.Collect, to its end. Conditions: none. -/
import Derived.Test.YtgnomdkcimglbaaDoorPkE
set_option linter.unusedSimpArgs false
set_option linter.unusedVariables false
set_option maxRecDepth 100000
namespace Go.Lg
open Go Go.Proofs
variable {Γ : Tables}

def nilR : T := .agg [.sl [] (some 0) (some true), .sl [] (some 0) (some true)]
def colOut (c : Cir) (ch : List (Sl Int)) (R : List Rsp) : List Int := (R.getD (depL ch) rspD).out.l.take c.outs.l.length
def colNext (c : Cir) (ch : List (Sl Int)) (R : List Rsp) : List Int := (states c).map fun n => mpOf 0 n (colM R (depL ch) c.outs.l.length 0 ch)
def colBad (ch : List (Sl Int)) (R : List Rsp) (m : Nat) : Prop := R.length ≠ 2 * depL ch + 1 ∨ ∃ r ∈ R, r.out.l.length ≠ m

theorem Collect_err {c : Cir} {chs : Sl (Sl Int)} {s : Nat → List (List T)} {k : Nat → Option Nat} {n : Nat → Option Bool} {en ce : Int} (h : InsH Γ c chs s k n en ce) (R : List Rsp) (rc : Option Nat) (rn : Option Bool) (hR : R.length ≤ 10000000)
    (hb : ce ≠ 0 ∨ colBad chs.l R (s 3).length) : PureCalls Tryd.prog Γ 11 [.agg (tC c), tChs chs, .sl (encN tRsp R) rc rn] (.tup [nilR, tI (if ce ≠ 0 then ce else 8)]) := by
  refine run_pureQ shifts_Collect_chk rfl ?_
  have e1 := h.call
  have e2 := Depth_spec (Γ := Γ) chs h.chl h.cs
  have hdl : depL chs.l ≤ 1000000 := depL_le h.cs
  have e3 := fun a0 a1 a2 a4 a5 a6 a7 k3 n3 => containsfunc_rsp (Γ := Γ) R rc rn 27 [.ip [a0, a1, a2, .sl (s 3) k3 n3, a4, a5, a6, a7] 0] (fun r => decide (r.out.l.length ≠ (s 3).length)) (fun r _ => col1_spec r a0 a1 a2 a4 a5 a6 a7 (s 3) k3 n3) (by omega)
  unfold colBad at hb
  generalize depL chs.l = d at *
  have w1 : IntKind.i64.wrap (2 * (d : Int)) = 2 * (d : Int) := by rw [wrap_i64] <;> omega
  have w2 : IntKind.i64.wrap (2 * (d : Int) + 1) = 2 * (d : Int) + 1 := by rw [wrap_i64] <;> omega
  simp [tC, tNodes, tNames, tMems, tSl, tChs] at e1 e2
  simp [shifts_Collect_ic, tC, tNodes, tNames, tMems, tSl, tChs]
  refine callK_pure e1 rfl ?_
  by_cases hce : ce = 0
  case' pos => subst hce
  all_goals simp [St.freeze, Reg.closed, frzRef, frz1, frz0, frzReg, del, reify]
  case neg => simp [hce, Later, shifts_Collect_rv, nilR]
  refine callK_fresh e2 rfl ?_
  by_cases hl : R.length = 2 * d + 1
  case neg =>
    have hl' : ¬ (R.length : Int) = 2 * (d : Int) + 1 := by omega
    simp [encN_len, w1, w2, hl, hl', shifts_Collect_rv, nilR]
  have hl' : (R.length : Int) = 2 * (d : Int) + 1 := by omega
  have ha : R.any (fun r => decide (r.out.l.length ≠ (s 3).length)) = true := by
    rcases hb with hb | hb | ⟨r, h1, h2⟩
    · exact absurd rfl hb
    · exact absurd hl hb
    · exact List.any_eq_true.2 ⟨r, h1, decide_eq_true h2⟩
  simp only [ha] at e3
  simp [encN_len, w1, w2, hl']
  refine callK_fresh (e3 _ _ _ _ _ _ _ _ _) rfl ?_
  simp [shifts_Collect_rv, nilR]

theorem Collect_spec {c : Cir} {chs : Sl (Sl Int)} {s : Nat → List (List T)} {k : Nat → Option Nat} {n : Nat → Option Bool} {en : Int} (h : InsH Γ c chs s k n en 0) (h3 : (s 3).length = c.outs.l.length + chs.l.length) (ho : c.outs.l.length ≤ 100000 ∧ chs.l.length ≤ 100000) (o1 : 1 ≤ c.outs.l.length) (hnd : (elems chs.l).Nodup)
    (R : List Rsp) (rc : Option Nat) (rn : Option Bool) (hR : R.length = 2 * depL chs.l + 1) (hO : ∀ r ∈ R, r.out.l.length = c.outs.l.length + chs.l.length ∧ r.out.nl ≠ some true) :
    PureCalls Tryd.prog Γ 11 [.agg (tC c), tChs chs, .sl (encN tRsp R) rc rn] (.tup [.agg [tVs (colOut c chs.l R), tVs (colNext c chs.l R)], tI 0]) := by
  refine run_pureQ shifts_Collect_chk rfl ?_
  have e1 := h.call
  have e2 := Depth_spec (Γ := Γ) chs h.chl h.cs
  have hdl : depL chs.l ≤ 1000000 := depL_le h.cs
  have e3 := fun a0 a1 a2 a4 a5 a6 a7 k3 n3 => containsfunc_rsp (Γ := Γ) R rc rn 27 [.ip [a0, a1, a2, .sl (s 3) k3 n3, a4, a5, a6, a7] 0] (fun r => decide (r.out.l.length ≠ (s 3).length)) (fun r _ => col1_spec r a0 a1 a2 a4 a5 a6 a7 (s 3) k3 n3) (by omega)
  have ha : R.any (fun r => decide (r.out.l.length ≠ (s 3).length)) = false := List.any_eq_false.2 fun r hr => by simp [(hO r hr).1, h3]
  simp only [ha] at e3
  have hsl : ∀ s ∈ chs.l, s.l.length ≤ depL chs.l := by
    have key : ∀ (l : List (Sl Int)) (n : Nat), n ≤ l.foldl (fun n s => max n s.l.length) n ∧ ∀ s ∈ l, s.l.length ≤ l.foldl (fun n s => max n s.l.length) n := by
      intro l
      induction l with
      | nil => intro n; exact ⟨Nat.le_refl _, by simp⟩
      | cons a l ih =>
        intro n
        obtain ⟨h1, h2⟩ := ih (max n a.l.length)
        have hm1 := Nat.le_max_left n a.l.length
        have hm2 := Nat.le_max_right n a.l.length
        refine ⟨Nat.le_trans hm1 h1, fun s hs => ?_⟩
        rcases List.mem_cons.1 hs with rfl | hs
        · exact Nat.le_trans hm2 h1
        · exact h2 s hs
    exact (key chs.l 0).2
  have hg : ∀ j, j < R.length → R.getD j rspD ∈ R := fun j hj => by
    rw [List.getD_eq_getElem?_getD, List.getElem?_eq_getElem hj]; exact List.getElem_mem _
  have hdR : depL chs.l < R.length := by omega
  have hrd := hO _ (hg _ hdR)
  have g3 := fun Q t3 h0 => col_l3 (Γ := Γ) (Q := Q) R rc rn (depL chs.l) c.outs.l.length t3 chs.l chs.cap chs.nl hdl (by omega) hR hsl (fun j hj => by have := (hO _ (hg j hj)).1; omega) _ h0 chs.l 0 [] (by omega) (List.drop_zero) hnd (by simp) (by rw [List.nil_append])
  have e4 := states_spec (Γ := Γ) c h.ok
  have g5 := fun Q sc sn oT ho' h0 => col_l5 (Γ := Γ) (Q := Q) (states c) sc sn h.st (colM R (depL chs.l) c.outs.l.length 0 chs.l) oT ho' h0 (states c).length 0 (by omega)
  have hn : (colNext c chs.l R).length = (states c).length := by simp [colNext]
  have hNx : (states c).map (fun n => mpOf 0 n (colM R (depL chs.l) c.outs.l.length 0 chs.l)) = colNext c chs.l R := rfl
  simp only [hNx] at g5
  have q1 := gR hdR
  have q1' := gR' hdR
  have hcl : ∀ cap, PureCalls Tryd.prog Γ 28 [.sl (vals (colOut c chs.l R)) cap (R.getD (depL chs.l) rspD).out.nl] (.sl (vals (colOut c chs.l R)) none none) := fun cap => by
    have hlen : (colOut c chs.l R).length = c.outs.l.length := by unfold colOut; rw [List.length_take]; omega
    have hne : colOut c chs.l R ≠ [] := fun e => by rw [e] at hlen; simp at hlen; omega
    have := clone_val (Γ := Γ) ⟨colOut c chs.l R, cap, (R.getD (depL chs.l) rspD).out.nl⟩ ⟨fun e => absurd e hrd.2, fun _ => hne, by show (colOut c chs.l R).length ≤ _; omega⟩
    rwa [if_neg hrd.2] at this
  have htk : (vals (R.getD (depL chs.l) rspD).out.l).take c.outs.l.length = vals (colOut c chs.l R) := by unfold colOut; simp [enc1, List.map_take]
  generalize colOut c chs.l R = CO at *
  generalize colNext c chs.l R = CN at *
  generalize colM R (depL chs.l) c.outs.l.length 0 chs.l = ZF at *
  generalize R.getD (depL chs.l) rspD = rd at *
  generalize depL chs.l = d at *
  generalize states c = st at *
  have e5 := clip_val (Γ := Γ) (vals CO) none none enc1_wid
  have e6 := clip_val (Γ := Γ) (vals CN) none none enc1_wid
  have htn : (vals CN).take st.length = vals CN := by rw [← hn]; exact vals_take
  have w1 : IntKind.i64.wrap (2 * (d : Int)) = 2 * (d : Int) := by rw [wrap_i64] <;> omega
  have w2 : IntKind.i64.wrap (2 * (d : Int) + 1) = 2 * (d : Int) + 1 := by rw [wrap_i64] <;> omega
  have hl' : (R.length : Int) = 2 * (d : Int) + 1 := by omega
  have ho2 : c.outs.l.length ≤ rd.out.l.length := by omega
  simp only [tRsp, tV] at q1 q1'
  simp [tC, tNodes, tNames, tMems, tSl, tChs] at e1 e2 e4
  simp [mpE] at g3
  simp [mpE, enc1_nil] at g5
  simp [shifts_Collect_ic, tC, tNodes, tNames, tMems, tSl, tChs]
  refine callK_pure e1 rfl ?_
  simp [St.freeze, Reg.closed, frzRef, frz1, frz0, frzReg, del, reify]
  refine callK_fresh e2 rfl ?_
  simp [encN_len, w1, w2, hl']
  refine callK_fresh (e3 _ _ _ _ _ _ _ _ _) rfl ?_
  simp [enc1_len]
  refine g3 _ _ ?_
  simp [encN_len, tRsp_wid, hdR, q1, q1', enc1_len, enc1_wid, ho2, htk]
  refine callK_pure (hcl _) rfl ?_
  simp
  refine callK_pure e5 rfl ?_
  simp
  refine callK_pure e4 rfl ?_
  simp [enc1_len]
  refine g5 _ _ _ _ rfl ?_
  simp [St.freeze, Reg.closed, frzRef, frz1, frz0, frzReg, del, reify, htn]
  refine callK_pure e6 rfl ?_
  simp [shifts_Collect_rv, tVs, enc1_len]
end Go.Lg

/- ShiftsCollect: what is drawn, the comparisons. Conditions: none. -/
set_option linter.unusedSimpArgs false
set_option linter.unusedVariables false
set_option maxRecDepth 100000
namespace Go.Lg
open Go Go.Proofs
variable {Γ : Tables}

theorem mpOf_mem {α : Type} {d : α} {n : Int} {v : α} : ∀ {l : List (Int × α)}, (l.map (·.1)).Nodup → (n, v) ∈ l → mpOf d n l = v
  | p :: l, hn, hm => by
    simp only [List.map_cons, List.nodup_cons] at hn
    simp only [mpOf]
    rcases List.mem_cons.1 hm with rfl | hm
    · rw [if_pos rfl]
    · have hne : n ≠ p.1 := fun e => hn.1 (by rw [← e]; exact List.mem_map.2 ⟨_, hm, rfl⟩)
      rw [if_neg hne]
      exact mpOf_mem hn.2 hm
theorem colM_keys {R : List Rsp} {d o : Nat} : ∀ (l : List (Sl Int)) (k : Nat), ((colM R d o k l).map (·.1)).Perm (elems l)
  | [], _ => List.Perm.refl _
  | s :: l, k => by
    simp only [colM, List.map_append]
    rw [colC_key, elems_cons]
    exact (List.reverse_perm _).append (colM_keys l (k + 1))
theorem colM_mem {R : List Rsp} {d o : Nat} : ∀ (l : List (Sl Int)) (k0 k m : Nat), k < l.length → m < (l.getD k slD).l.length → ((l.getD k slD).l.getD m 0, (R.getD (d + (l.getD k slD).l.length - m) rspD).out.l.getD (o + (k0 + k)) 0) ∈ colM R d o k0 l
  | [], _, _, _, h, _ => absurd h (by simp)
  | s :: l, k0, 0, m, _, hm => by
    refine List.mem_append_left _ (List.mem_map.2 ⟨s.l.length - 1 - m, ?_, ?_⟩)
    · have hm : m < s.l.length := hm
      exact List.mem_range.2 (by omega)
    · have hm : m < s.l.length := hm
      show (s.l.getD (s.l.length - 1 - (s.l.length - 1 - m)) 0, (R.getD (d + 1 + (s.l.length - 1 - m)) rspD).out.l.getD (o + k0) 0) = (s.l.getD m 0, (R.getD (d + s.l.length - m) rspD).out.l.getD (o + (k0 + 0)) 0)
      rw [show s.l.length - 1 - (s.l.length - 1 - m) = m by omega, show d + 1 + (s.l.length - 1 - m) = d + s.l.length - m by omega, Nat.add_zero]
  | s :: l, k0, k + 1, m, h, hm => by
    refine List.mem_append_right _ ?_
    have := colM_mem (R := R) (d := d) (o := o) l (k0 + 1) k m (by simpa using h) (by simpa using hm)
    rw [show k0 + 1 + k = k0 + (k + 1) by omega] at this
    simpa using this
theorem col_at {R : List Rsp} {d o : Nat} {ch : List (Sl Int)} (hnd : (elems ch).Nodup) {k m : Nat} (hk : k < ch.length) (hm : m < (ch.getD k slD).l.length) : mpOf 0 ((ch.getD k slD).l.getD m 0) (colM R d o 0 ch) = (R.getD (d + (ch.getD k slD).l.length - m) rspD).out.l.getD (o + k) 0 := by
  have := colM_mem (R := R) (d := d) (o := o) ch 0 k m hk hm
  rw [Nat.zero_add] at this
  exact mpOf_mem ((colM_keys ch 0).nodup_iff.2 hnd) this

/-- The values that are drawn. -/
def valV (v : List Int) (j : Nat) : Int := if v = [] then 0 else (v.getD (j % v.length) 0).tmod 4
def rowV (v : List Int) (a n : Nat) : List Int := (List.range n).map fun j => valV v (a + j)
def rspV (v : List Int) (a n : Nat) : Rsp := ⟨⟨rowV v a n, none, none⟩, ⟨[], some 0, some true⟩⟩
theorem rowV_len {v : List Int} {a n : Nat} : (rowV v a n).length = n := by simp [rowV]
theorem rowV_succ {v : List Int} {a n : Nat} : rowV v a (n + 1) = rowV v a n ++ [valV v (a + n)] := by simp [rowV, List.range_succ]

def scE (v : Sl Int) (ch : List (Sl Int)) (d t : Nat) (a : Nat) : List (Nat × AV) := [(1, .t (tV v)), (5, .lp 5 0 0), (6, .t (.sl (enc1 tSl ch) none none)), (7, .t (tI d)), (8, .ls 69 0 t none), (9, .t (tI a)), (10, .t (tI t))]
def sc5 (c0 c1 c2 : T) (os : Sl Int) : Reg := .bx [.t c0, .t c1, .t c2, .t (tSl os)]
theorem sc_l1 {Q : AX → St → Prop} (v : Sl Int) (ch : List (Sl Int)) (d t a : Nat) (c0 c1 c2 : T) (os : Sl Int) (RL : List (List T)) (hw : os.l.length + ch.length ≤ 1000) (ha : a ≤ 100000000)
    (h0 : Q (.exit 2) ⟨scE v ch d t (a + (os.l.length + ch.length)) ++ [(11, .lp 11 0 0), (12, .t (tI (os.l.length + ch.length : Nat))), (44, .t (tB false))], [(5, sc5 c0 c1 c2 os), (11, .bx [.ls 64 0 (os.l.length + ch.length) none, .t (.sl [] (some 0) (some true))]), (64, .sl 51 1 (vals (rowV v.l a (os.l.length + ch.length)))), (69, .sl 56 2 RL)]⟩) :
    ∀ (k i : Nat), k + i = os.l.length + ch.length →
    run Tryd.prog Γ law35_ShiftsCollect_l1 Q ⟨scE v ch d t (a + i) ++ [(11, .lp 11 0 0), (12, .t (tI i))], [(5, sc5 c0 c1 c2 os), (11, .bx [.ls 64 0 i none, .t (.sl [] (some 0) (some true))]), (64, .sl 51 1 (vals (rowV v.l a i))), (69, .sl 56 2 RL)]⟩
  | 0, i, h => by
    refine law35_ShiftsCollect_l1_run fun K hK => ?_
    have h2 : i = os.l.length + ch.length := by omega
    subst h2
    have w1 : IntKind.i64.wrap ((os.l.length : Int) + ch.length) = ((os.l.length + ch.length : Nat) : Int) := by rw [wrap_i64] <;> omega
    simp [scE, sc5, tSl, enc1_len, w1, -Int.natCast_add]
    simpa [scE, sc5, tSl, -Int.natCast_add] using h0
  | k + 1, i, h => by
    refine law35_ShiftsCollect_l1_run fun K hK => ?_
    have h2 : i < os.l.length + ch.length := by omega
    have ih := sc_l1 v ch d t a c0 c1 c2 os RL hw ha h0 k (i + 1) (by omega)
    rw [rowV_succ] at ih
    have hl := rowV_len (v := v.l) (a := a) (n := i)
    have hsn := vals_snoc (l := rowV v.l a i) (v := valV v.l (a + i))
    have hvv : valV v.l (a + i) = if v.l = [] then 0 else (v.l.getD ((a + i) % v.l.length) 0).tmod 4 := rfl
    generalize rowV v.l a i = row at *
    generalize valV v.l (a + i) = y at *
    have w1 : IntKind.i64.wrap ((os.l.length : Int) + ch.length) = ((os.l.length + ch.length : Nat) : Int) := by rw [wrap_i64] <;> omega
    have w2 : IntKind.i64.wrap ((i : Int) + 1) = ((i + 1 : Nat) : Int) := by rw [wrap_i64] <;> omega
    have w3 : IntKind.i64.wrap (((a + i : Nat) : Int) + 1) = ((a + (i + 1) : Nat) : Int) := by rw [wrap_i64] <;> omega
    have htk : (vals row).take i = vals row := by rw [← hl]; exact vals_take
    by_cases h1 : v.l = []
    · rw [if_pos h1] at hvv
      subst hvv
      simp [scE, sc5, tSl, tV, h1, -Int.natCast_add] at ih
      simp [scE, sc5, tSl, tV, enc1_len, h2, h1, w1, w2, w3, htk, hsn, hl, -Int.natCast_add]
      refine ⟨by omega, ?_⟩
      rw [hK]
      simpa using ih
    · have hpos : 0 < v.l.length := List.length_pos_iff.2 h1
      have hlt : (a + i) % v.l.length < v.l.length := Nat.mod_lt _ hpos
      have hmod : ((a + i : Nat) : Int).tmod (v.l.length : Int) = (((a + i) % v.l.length : Nat) : Int) := by rw [Int.natCast_emod]; exact Int.tmod_eq_emod_of_nonneg (by omega)
      rw [if_neg h1] at hvv
      have e := gE (f := tK) 0 hlt
      have e' := gE' (f := tK) 0 hlt
      generalize (a + i) % v.l.length = j at *
      generalize v.l.getD j 0 = x at *
      subst hvv
      have hne : ¬ (v.l.length : Int) = 0 := by omega
      have hp' : (0 : Int) < v.l.length := by omega
      simp [scE, sc5, tSl, tV, -Int.natCast_add] at ih
      simp [scE, sc5, tSl, tV, enc1_len, enc1_wid, h2, h1, hne, hpos, hp', hmod, hlt, e, e', w1, w2, w3, htk, hsn, hl, -Int.natCast_emod, -Int.natCast_add]
      refine ⟨by omega, ?_⟩
      rw [hK]
      simpa using ih

theorem sc_l3 {Q : AX → St → Prop} (v : Sl Int) (ch : List (Sl Int)) (d : Nat) (hd : d ≤ 1000) (c0 c1 c2 : T) (os : Sl Int) (w : Nat) (hw : os.l.length + ch.length = w) (hw2 : w ≤ 1000)
    (h0 : ∀ a : Nat, Q (.exit 0) ⟨scE v ch d (2 * d + 1) a ++ [(34, .t (tB false))], [(5, sc5 c0 c1 c2 os), (69, .sl 56 2 (encN tRsp ((List.range (2 * d + 1)).map fun t => rspV v.l (t * w) w)))]⟩) :
    ∀ (k t : Nat), k + t = 2 * d + 1 →
    run Tryd.prog Γ law35_ShiftsCollect_l3 Q ⟨scE v ch d t (t * w), [(5, sc5 c0 c1 c2 os), (69, .sl 56 2 (encN tRsp ((List.range t).map fun t => rspV v.l (t * w) w)))]⟩
  | 0, t, h => by
    refine law35_ShiftsCollect_l3_run fun K hK => ?_
    have h2 : t = 2 * d + 1 := by omega
    subst h2
    have := h0 ((2 * d + 1) * w)
    generalize (2 * d + 1) * w = a at *
    have w1 : IntKind.i64.wrap (2 * (d : Int)) = 2 * (d : Int) := by rw [wrap_i64] <;> omega
    have w2 : IntKind.i64.wrap (2 * (d : Int) + 1) = ((2 * d + 1 : Nat) : Int) := by rw [wrap_i64] <;> omega
    generalize 2 * d + 1 = D at *
    simp [scE, sc5, tSl, w1, w2]
    simpa [scE, sc5, tSl] using this
  | k + 1, t, h => by
    refine law35_ShiftsCollect_l3_run fun K hK => ?_
    have h2 : t < 2 * d + 1 := by omega
    have ih := sc_l3 v ch d hd c0 c1 c2 os w hw hw2 h0 k (t + 1) (by omega)
    rw [List.range_succ, List.map_append, List.map_cons, List.map_nil] at ih
    have hbd : t * w ≤ 2001 * 1000 := Nat.mul_le_mul (by omega) hw2
    have g1 := fun RL Q h0 => sc_l1 (Γ := Γ) (Q := Q) v ch d t (t * w) c0 c1 c2 os RL (by omega) (by omega) h0 w 0 (by omega)
    rw [hw] at g1
    rw [show (t + 1) * w = t * w + w by rw [Nat.add_mul]; omega] at ih
    have hl : ((List.range t).map fun t => rspV v.l (t * w) w).length = t := by simp
    have hsn := encN_snoc (f := tRsp) (l := (List.range t).map fun t => rspV v.l (t * w) w) (x := rspV v.l (t * w) w)
    generalize (List.range t).map (fun t => rspV v.l (t * w) w) = L at *
    have hrl := rowV_len (v := v.l) (a := t * w) (n := w)
    simp only [tRsp, rspV, tV, enc1_nil] at hsn ih
    generalize t * w = a at *
    simp only [rowV, List.range_zero, List.map_nil, enc1_nil] at g1
    have hrw : (List.range w).map (fun j => valV v.l (a + j)) = rowV v.l a w := rfl
    simp only [hrw] at g1
    generalize rowV v.l a w = row at *
    have w1 : IntKind.i64.wrap (2 * (d : Int)) = 2 * (d : Int) := by rw [wrap_i64] <;> omega
    have w2 : IntKind.i64.wrap (2 * (d : Int) + 1) = ((2 * d + 1 : Nat) : Int) := by rw [wrap_i64] <;> omega
    have w3 : IntKind.i64.wrap ((t : Int) + 1) = (t : Int) + 1 := by rw [wrap_i64] <;> omega
    have htk : (vals row).take w = vals row := by rw [← hrl]; exact vals_take
    have htk2 : (encN tRsp L).take t = encN tRsp L := List.take_of_length_le (by rw [encN_len]; omega)
    have hD : 2 * d + 1 ≤ 2001 := by omega
    generalize 2 * d + 1 = D at *
    simp [scE, sc5, tSl] at g1
    simp [scE, sc5, tSl] at ih
    simp [scE, sc5, tSl, w1, w2, h2]
    refine g1 _ _ ?_
    simp [St.freeze, Reg.closed, frzRef, frz1, frz0, frzReg, del, reify, htk, htk2, hsn, w3, encN_len, hl]
    refine ⟨by omega, ?_⟩
    rw [hK]
    simpa using ih
end Go.Lg

/- ShiftsCollect, walked to its end. Conditions: none. -/
set_option linter.unusedSimpArgs false
set_option linter.unusedVariables false
set_option maxRecDepth 100000
namespace Go.Lg
open Go Go.Proofs
variable {Γ : Tables}

def sdE (ch : List (Sl Int)) (d : Nat) (R : List Rsp) (st : List Int) : List (Nat × AV) := [(5, .lp 5 0 0), (6, .t (.sl (enc1 tSl ch) none none)), (7, .t (tI d)), (8, .t (.sl (encN tRsp R) none none)), (14, .lp 14 0 0), (16, .t (.sl (ints st) (some st.length) none))]
def sdH (c0 c1 c2 : T) (os : Sl Int) (O N : List Int) : List (Nat × Reg) := [(5, sc5 c0 c1 c2 os), (14, .bx [.t (tVs O), .t (tVs N)])]

theorem sd_l5 {Q : AX → St → Prop} (ch : List (Sl Int)) (d : Nat) (R : List Rsp) (st : List Int) (c0 c1 c2 : T) (os : Sl Int) (O N : List Int) (hd : d < R.length) (hos : os.l.length ≤ 1000000) (hO : O.length = os.l.length) (hr : os.l.length ≤ (R.getD d rspD).out.l.length) (he : ∀ i, i < os.l.length → O.getD i 0 = (R.getD d rspD).out.l.getD i 0)
    (h0 : Q (.exit 4) ⟨sdE ch d R st ++ [(17, .t (tI os.l.length)), (102, .t (tB false))], sdH c0 c1 c2 os O N⟩) :
    ∀ (k i : Nat), k + i = os.l.length → run Tryd.prog Γ law35_ShiftsCollect_l5 Q ⟨sdE ch d R st ++ [(17, .t (tI i))], sdH c0 c1 c2 os O N⟩
  | 0, i, h => by
    refine law35_ShiftsCollect_l5_run fun K hK => ?_
    have h2 : i = os.l.length := by omega
    subst h2
    simp [sdE, sdH, sc5, tSl, tVs, enc1_len]
    simpa [sdE, sdH, sc5, tSl, tVs] using h0
  | k + 1, i, h => by
    refine law35_ShiftsCollect_l5_run fun K hK => ?_
    have h2 : i < os.l.length := by omega
    have h3 : i < O.length := by omega
    have h4 : i < (R.getD d rspD).out.l.length := by omega
    have ih := sd_l5 ch d R st c0 c1 c2 os O N hd hos hO hr he h0 k (i + 1) (by omega)
    have e1 := gE (f := tK) 0 h3
    have e1' := gE' (f := tK) 0 h3
    have e2 := gR hd
    have e2' := gR' hd
    have e3 := gE (f := tK) 0 h4
    have e3' := gE' (f := tK) 0 h4
    rw [he i h2] at e1 e1'
    generalize R.getD d rspD = r at *
    generalize r.out.l.getD i 0 = v at *
    have w1 : IntKind.i64.wrap ((i : Int) + 1) = (i : Int) + 1 := by rw [wrap_i64] <;> omega
    simp only [tRsp, tV] at e2 e2'
    simp [sdE, sdH, sc5, tSl, tVs, hO] at ih
    simp [sdE, sdH, sc5, tSl, tVs, hO, enc1_len, enc1_wid, encN_len, tRsp_wid, h2, h3, h4, hd, e1, e1', e2, e2', e3, e3', w1]
    rw [hK]
    simpa using ih

theorem sd_l7 {Q : AX → St → Prop} (ch : List (Sl Int)) (d : Nat) (R : List Rsp) (st : List Int) (c0 c1 c2 : T) (os : Sl Int) (O N : List Int) (k m : Nat) (hk : k < ch.length) (hm : m < (ch.getD k slD).l.length) (hN : N.length = st.length) (hst : st.length ≤ 1000000) (hd : d ≤ 1000000) (hcl : (ch.getD k slD).l.length ≤ d) (hR : R.length = 2 * d + 1) (ho : os.l.length + ch.length ≤ 1000000)
    (hO : ∀ j, j < R.length → os.l.length + k < (R.getD j rspD).out.l.length) (he : ∀ q, q < st.length → st.getD q 0 = (ch.getD k slD).l.getD m 0 → N.getD q 0 = (R.getD (d + (ch.getD k slD).l.length - m) rspD).out.l.getD (os.l.length + k) 0)
    (h0 : Q (.exit 10) ⟨sdE ch d R st ++ [(18, .t (tI k)), (19, .t (tI m)), (20, .t (tI st.length)), (137, .t (tB false))], sdH c0 c1 c2 os O N⟩) :
    ∀ (n q : Nat), n + q = st.length → run Tryd.prog Γ law35_ShiftsCollect_l7 Q ⟨sdE ch d R st ++ [(18, .t (tI k)), (19, .t (tI m)), (20, .t (tI q))], sdH c0 c1 c2 os O N⟩
  | 0, q, h => by
    refine law35_ShiftsCollect_l7_run fun K hK => ?_
    have h2 : q = st.length := by omega
    subst h2
    simp [sdE, sdH, sc5, tSl, tVs, enc1_len]
    simpa [sdE, sdH, sc5, tSl, tVs] using h0
  | n + 1, q, h => by
    refine law35_ShiftsCollect_l7_run fun K hK => ?_
    have h2 : q < st.length := by omega
    have h3 : q < N.length := by omega
    have ih := sd_l7 ch d R st c0 c1 c2 os O N k m hk hm hN hst hd hcl hR ho hO he h0 n (q + 1) (by omega)
    have heq := he q h2
    have e1 := gE (f := tI) 0 h2
    have e1' := gE' (f := tI) 0 h2
    have e2 := gE (f := tSl) slD hk
    have e2' := gE' (f := tSl) slD hk
    have e3 := gE (f := tI) 0 hm
    have e3' := gE' (f := tI) 0 hm
    have e4 := gE (f := tK) 0 h3
    have e4' := gE' (f := tK) 0 h3
    have h5 : d + (ch.getD k slD).l.length - m < R.length := by omega
    have e5 := gR h5
    have e5' := gR' h5
    have h6 := hO _ h5
    have e6 := gE (f := tK) 0 h6
    have e6' := gE' (f := tK) 0 h6
    have w1 : IntKind.i64.wrap ((q : Int) + 1) = (q : Int) + 1 := by rw [wrap_i64] <;> omega
    have w2 : IntKind.i64.wrap ((d : Int) + (ch.getD k slD).l.length) = (d : Int) + (ch.getD k slD).l.length := by rw [wrap_i64] <;> omega
    have w3 : IntKind.i64.wrap ((d : Int) + (ch.getD k slD).l.length - m) = ((d + (ch.getD k slD).l.length - m : Nat) : Int) := by rw [wrap_i64] <;> omega
    have w4 : IntKind.i64.wrap ((os.l.length : Int) + k) = ((os.l.length + k : Nat) : Int) := by rw [wrap_i64] <;> omega
    generalize R.getD (d + (ch.getD k slD).l.length - m) rspD = r at *
    generalize hj : d + (ch.getD k slD).l.length - m = j at *
    generalize ch.getD k slD = s at *
    generalize s.l.getD m 0 = x at *
    generalize st.getD q 0 = y at *
    generalize N.getD q 0 = u at *
    generalize r.out.l.getD (os.l.length + k) 0 = v at *
    simp only [tSl] at e2 e2'
    simp only [tRsp, tV] at e5 e5'
    simp [sdE, sdH, sc5, tSl, tVs, hN] at ih
    by_cases hyx : y = x
    · have hu := heq hyx
      subst hu
      subst hyx
      simp [sdE, sdH, sc5, tSl, tVs, hN, enc1_len, enc1_wid, encN_len, tRsp_wid, hk, hm, h2, h3, h5, h6, e1, e1', e2, e2', e3, e3', e4, e4', e5, e5', e6, e6', w1, w2, w3, w4, -Int.natCast_add]
      rw [hK]
      simpa using ih
    · simp [sdE, sdH, sc5, tSl, tVs, hN, enc1_len, enc1_wid, hk, hm, h2, e1, e1', e2, e2', e3, e3', hyx, w1]
      rw [hK]
      simpa using ih

theorem sd_l9 {Q : AX → St → Prop} (ch : List (Sl Int)) (d : Nat) (R : List Rsp) (st : List Int) (c0 c1 c2 : T) (os : Sl Int) (O N : List Int) (k : Nat) (hk : k < ch.length) (hN : N.length = st.length) (hst : st.length ≤ 1000000) (hd : d ≤ 1000000) (hcl : (ch.getD k slD).l.length ≤ d) (hR : R.length = 2 * d + 1) (ho : os.l.length + ch.length ≤ 1000000)
    (hO : ∀ j, j < R.length → os.l.length + k < (R.getD j rspD).out.l.length) (he : ∀ m q, m < (ch.getD k slD).l.length → q < st.length → st.getD q 0 = (ch.getD k slD).l.getD m 0 → N.getD q 0 = (R.getD (d + (ch.getD k slD).l.length - m) rspD).out.l.getD (os.l.length + k) 0)
    (h0 : Q (.exit 8) ⟨sdE ch d R st ++ [(18, .t (tI k)), (19, .t (tI (ch.getD k slD).l.length)), (131, .t (tB false))], sdH c0 c1 c2 os O N⟩) :
    ∀ (n m : Nat), n + m = (ch.getD k slD).l.length → run Tryd.prog Γ law35_ShiftsCollect_l9 Q ⟨sdE ch d R st ++ [(18, .t (tI k)), (19, .t (tI m))], sdH c0 c1 c2 os O N⟩
  | 0, m, h => by
    refine law35_ShiftsCollect_l9_run fun K hK => ?_
    have h2 : m = (ch.getD k slD).l.length := by omega
    subst h2
    have e2 := gE (f := tSl) slD hk
    have e2' := gE' (f := tSl) slD hk
    generalize ch.getD k slD = s at *
    simp only [tSl] at e2 e2'
    simp [sdE, sdH, sc5, tSl, tVs, enc1_len, enc1_wid, hk, e2, e2']
    simpa [sdE, sdH, sc5, tSl, tVs] using h0
  | n + 1, m, h => by
    refine law35_ShiftsCollect_l9_run fun K hK => ?_
    have hm : m < (ch.getD k slD).l.length := by omega
    have ih := sd_l9 ch d R st c0 c1 c2 os O N k hk hN hst hd hcl hR ho hO he h0 n (m + 1) (by omega)
    have g := fun Q h0 => sd_l7 (Γ := Γ) (Q := Q) ch d R st c0 c1 c2 os O N k m hk hm hN hst hd hcl hR ho hO (fun q hq e => he m q hm hq e) h0 st.length 0 (by omega)
    have e2 := gE (f := tSl) slD hk
    have e2' := gE' (f := tSl) slD hk
    have w1 : IntKind.i64.wrap ((m : Int) + 1) = (m : Int) + 1 := by rw [wrap_i64] <;> omega
    generalize ch.getD k slD = s at *
    simp only [tSl] at e2 e2'
    simp [sdE, sdH, sc5, tSl, tVs] at ih g
    simp [sdE, sdH, sc5, tSl, tVs, enc1_len, enc1_wid, hk, e2, e2', hm]
    refine g _ ?_
    simp [w1]
    rw [hK]
    simpa using ih

theorem sd_l11 {Q : AX → St → Prop} (ch : List (Sl Int)) (d : Nat) (R : List Rsp) (st : List Int) (c0 c1 c2 : T) (os : Sl Int) (O N : List Int) (hN : N.length = st.length) (hst : st.length ≤ 1000000) (hd : d ≤ 1000000) (hcl : ∀ k, k < ch.length → (ch.getD k slD).l.length ≤ d) (hR : R.length = 2 * d + 1) (ho : os.l.length + ch.length ≤ 1000000)
    (hO : ∀ j, j < R.length → (R.getD j rspD).out.l.length = os.l.length + ch.length) (he : ∀ k m q, k < ch.length → m < (ch.getD k slD).l.length → q < st.length → st.getD q 0 = (ch.getD k slD).l.getD m 0 → N.getD q 0 = (R.getD (d + (ch.getD k slD).l.length - m) rspD).out.l.getD (os.l.length + k) 0)
    (h0 : Q (.exit 6) ⟨sdE ch d R st ++ [(18, .t (tI ch.length)), (122, .t (tB false))], sdH c0 c1 c2 os O N⟩) :
    ∀ (n k : Nat), n + k = ch.length → run Tryd.prog Γ law35_ShiftsCollect_l11 Q ⟨sdE ch d R st ++ [(18, .t (tI k))], sdH c0 c1 c2 os O N⟩
  | 0, k, h => by
    refine law35_ShiftsCollect_l11_run fun K hK => ?_
    have h2 : k = ch.length := by omega
    subst h2
    simp [sdE, sdH, sc5, tSl, tVs, enc1_len]
    simpa [sdE, sdH, sc5, tSl, tVs] using h0
  | n + 1, k, h => by
    refine law35_ShiftsCollect_l11_run fun K hK => ?_
    have hk : k < ch.length := by omega
    have ih := sd_l11 ch d R st c0 c1 c2 os O N hN hst hd hcl hR ho hO he h0 n (k + 1) (by omega)
    have g := fun Q h0 => sd_l9 (Γ := Γ) (Q := Q) ch d R st c0 c1 c2 os O N k hk hN hst hd (hcl k hk) hR ho (fun j hj => by have := hO j hj; omega) (fun m q hm hq e => he k m q hk hm hq e) h0 (ch.getD k slD).l.length 0 (by omega)
    have w1 : IntKind.i64.wrap ((k : Int) + 1) = (k : Int) + 1 := by rw [wrap_i64] <;> omega
    simp [sdE, sdH, sc5, tSl, tVs] at ih g
    simp [sdE, sdH, sc5, tSl, tVs, enc1_len, hk]
    refine g _ ?_
    simp [w1]
    rw [hK]
    simpa using ih
end Go.Lg

/- ShiftsCollect: the law. Conditions: none. -/
set_option linter.unusedSimpArgs false
set_option linter.unusedVariables false
set_option maxRecDepth 100000
namespace Go.Lg
open Go Go.Proofs
variable {Γ : Tables}

def rspL (v : List Int) (d w : Nat) : List Rsp := (List.range (2 * d + 1)).map fun t => rspV v (t * w) w
theorem rspL_len {v : List Int} {d w : Nat} : (rspL v d w).length = 2 * d + 1 := by simp [rspL]
theorem rspL_mem {v : List Int} {d w : Nat} : ∀ r ∈ rspL v d w, r.out.l.length = w ∧ r.out.nl ≠ some true := by
  intro r hr
  obtain ⟨t, _, rfl⟩ := List.mem_map.1 hr
  exact ⟨rowV_len, fun h => nomatch h⟩
theorem depL_ge {l : List (Sl Int)} : ∀ s ∈ l, s.l.length ≤ depL l := by
  have key : ∀ (l : List (Sl Int)) (n : Nat), n ≤ l.foldl (fun n s => max n s.l.length) n ∧ ∀ s ∈ l, s.l.length ≤ l.foldl (fun n s => max n s.l.length) n := by
    intro l
    induction l with
    | nil => intro n; exact ⟨Nat.le_refl _, by simp⟩
    | cons a l ih =>
      intro n
      obtain ⟨h1, h2⟩ := ih (max n a.l.length)
      have hm1 := Nat.le_max_left n a.l.length
      have hm2 := Nat.le_max_right n a.l.length
      refine ⟨Nat.le_trans hm1 h1, fun s hs => ?_⟩
      rcases List.mem_cons.1 hs with rfl | hs
      · exact Nat.le_trans hm2 h1
      · exact h2 s hs
  exact (key l 0).2

set_option maxHeartbeats 2000000 in
theorem lawCollect_spec (hΓ : GOk Γ) (y : CaseD) (hy : CaseOk y) (v : Sl Int) (hv : ∀ b ∈ v.l, Byt b) : PureCalls Tryd.prog Γ 4 [.agg (tCase y), tV v] (tB true) := by
  refine run_pureQ law35_ShiftsCollect_chk rfl ?_
  have hx := noMemX_ok hy.x
  have hpl : plainErr (caseC y) = 0 := ofC_plain hx rfl
  have e1 := CaseOf_spec (Γ := Γ) y hy
  have hsc := case_scok hy
  have ho1 : 1 ≤ (caseC y).outs.l.length := by simp [caseC, ofC]
  generalize caseC y = c at *
  generalize caseCh y = ch at *
  have hn2 := hsc.n2
  have hle := elems_le ch fun s hs => (hsc.ne s hs).1
  have hpe := hsc.perm.length_eq
  have hsl := states_len' c
  have hil := inputs_len c
  have hos := hsc.outs.1
  have hs6 : ∀ s ∈ ch, s.l.length ≤ 1000000 := fun s hs => by have := hle.2 s hs; omega
  obtain ⟨s, k, n, en, hI, h3⟩ := insH_ok (Γ := Γ) hΓ (scOk_ins hsc hpl none none) (by omega) hs6
  have h3' : (s 3).length = c.outs.l.length + ch.length := by rw [h3, sc_outs hsc]; simp
  have hnd : (elems ch).Nodup := hsc.perm.nodup_iff.2 (ofL_nodup [14] c.nodes.l 0).2
  have hd : depL ch ≤ 16 := depL_le fun s hs => by have := hle.2 s hs; omega
  have hRl := rspL_len (v := v.l) (d := depL ch) (w := c.outs.l.length + ch.length)
  have hRm := rspL_mem (v := v.l) (d := depL ch) (w := c.outs.l.length + ch.length)
  have e2 := Depth_spec (Γ := Γ) ⟨ch, none, none⟩ (by show ch.length ≤ _; omega) hs6
  have e3 := Collect_spec hI h3' ⟨by omega, by show ch.length ≤ _; omega⟩ ho1 hnd (rspL v.l (depL ch) (c.outs.l.length + ch.length)) none none hRl hRm
  have e4 := Collect_err hI ((rspL v.l (depL ch) (c.outs.l.length + ch.length)).drop 1) none none (by rw [List.length_drop]; omega) (.inr (.inl (by rw [List.length_drop]; omega)))
  have e5 := states_spec (Γ := Γ) c hsc.ok
  have g3 := fun Q c0 c1 c2 h0 => sc_l3 (Γ := Γ) (Q := Q) v ch (depL ch) (by omega) c0 c1 c2 c.outs _ rfl (by omega) h0 (2 * depL ch + 1) 0 (by omega)
  have hRd : (List.range (2 * depL ch + 1)).map (fun t => rspV v.l (t * (c.outs.l.length + ch.length)) (c.outs.l.length + ch.length)) = rspL v.l (depL ch) (c.outs.l.length + ch.length) := rfl
  simp only [hRd] at g3
  generalize rspL v.l (depL ch) (c.outs.l.length + ch.length) = R at *
  have hg : ∀ j, j < R.length → R.getD j rspD ∈ R := fun j hj => by
    rw [List.getD_eq_getElem?_getD, List.getElem?_eq_getElem hj]; exact List.getElem_mem _
  have hdR : depL ch < R.length := by omega
  have hCO : (colOut c ch R).length = c.outs.l.length := by
    unfold colOut
    rw [List.length_take, (hRm _ (hg _ hdR)).1]; omega
  have hCN : (colNext c ch R).length = (states c).length := by simp [colNext]
  have hkm : ∀ k, k < ch.length → ch.getD k slD ∈ ch := fun k hk => by
    rw [List.getD_eq_getElem?_getD, List.getElem?_eq_getElem hk]; exact List.getElem_mem _
  have g5 := fun Q c0 c1 c2 h0 => sd_l5 (Γ := Γ) (Q := Q) ch (depL ch) R (states c) c0 c1 c2 c.outs (colOut c ch R) (colNext c ch R) hdR (by omega) hCO (by rw [(hRm _ (hg _ hdR)).1]; omega) (fun i hi => by
    unfold colOut
    rw [List.getD_eq_getElem?_getD, List.getElem?_take_of_lt hi, ← List.getD_eq_getElem?_getD]) h0 c.outs.l.length 0 (by omega)
  have g11 := fun Q c0 c1 c2 h0 => sd_l11 (Γ := Γ) (Q := Q) ch (depL ch) R (states c) c0 c1 c2 c.outs (colOut c ch R) (colNext c ch R) hCN (by omega) (by omega) (fun k hk => depL_ge _ (hkm k hk)) hRl (by omega) (fun j hj => (hRm _ (hg j hj)).1)
    (fun k m q hk hm hq e => by
      unfold colNext
      rw [List.getD_eq_getElem?_getD, List.getElem?_map, List.getElem?_eq_getElem hq]
      show mpOf 0 ((states c)[q]) _ = _
      rw [← getD_eq hq, e, col_at hnd hk hm]) h0 ch.length 0 (by omega)
  simp only [ne_eq, not_true_eq_false, if_false] at e4
  generalize colOut c ch R = CO at *
  generalize colNext c ch R = CN at *
  generalize states c = st at *
  generalize depL ch = d at *
  have htk : (encN tRsp R).take (2 * d + 1) = encN tRsp R := List.take_of_length_le (by rw [encN_len]; omega)
  have hdr : (encN tRsp R).drop 1 = encN tRsp (R.drop 1) := by simp [encN, List.map_drop]
  have hdt : ∀ m, m = R.length - 1 → ((encN tRsp R).drop 1).take m = encN tRsp (R.drop 1) := fun m hm => by rw [hdr]; exact List.take_of_length_le (by rw [encN_len, List.length_drop]; omega)
  simp [tCase, tCD] at e1
  simp [tC, tNodes, tNames, tMems, tSl, tChs, nilR] at e2 e3 e4 e5
  simp [scE, sc5, tSl, tV, show encN tRsp [] = [] from rfl] at g3
  simp [sdE, sdH, sc5, tSl, tVs, hCO, hCN] at g5 g11
  simp [law35_ShiftsCollect_ic, tCase, tCD, tV]
  refine callK_pure e1 rfl ?_
  simp [tC, tNodes, tNames, tMems, tSl, tChs]
  refine callK_fresh e2 rfl ?_
  simp
  refine g3 _ _ _ _ fun a => ?_
  simp [St.freeze, Reg.closed, frzRef, frz1, frz0, frzReg, del, reify, htk]
  refine callK_pure e3 rfl ?_
  simp [tVs]
  refine callK_pure e5 rfl ?_
  simp [tVs, enc1_len, hCO, hCN]
  refine g5 _ _ _ _ ?_
  simp
  refine g11 _ _ _ _ ?_
  have htl : List.take (R.length - 1) (encN tRsp R).tail = encN tRsp R.tail := by
    have := hdt (R.length - 1) rfl
    simpa using this
  simp [encN_len, tRsp_wid, htl]
  refine ⟨by omega, ?_⟩
  refine callK_pure e4 rfl ?_
  simp
  refine callK_pure (lives35_spec hΓ) rfl ?_
  simp [law35_ShiftsCollect_rv, reify]
end Go.Lg
