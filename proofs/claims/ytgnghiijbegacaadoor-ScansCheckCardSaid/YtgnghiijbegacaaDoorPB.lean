/- Check, States, plain. Conditions: none. -/
import Derived.Test.YtgnghiijbegacaaDoorPL
set_option linter.unusedSimpArgs false
set_option linter.unusedVariables false
set_option maxRecDepth 100000
namespace Go.Lg
open Go Go.Proofs
variable {Γ : Tables}

/-- A circuit that the program may be asked about. -/
structure COk (c : Cir) : Prop extends CirOk c where
  asc : ∀ s ∈ c.names.l, ∀ b ∈ s, b < 128

theorem check_spec (hΓ : GOk Γ) (c : Cir) (hc : COk c) : FreshCalls Tryd.prog Γ 14 [.agg (tC c)] (tI (levErr c)) := by
  refine run_freshQ netlists_Check_chk rfl ?_
  have e := levels_spec hΓ c hc.toCirOk hc.asc
  simp [netlists_Check_ic, tC, tNodes, tNames, tMems, tSl]
  refine callK_fresh e rfl ?_
  simp
  simp [netlists_Check_rv]

def states (c : Cir) : List Int := ofL [14] c.nodes.l 0
def mems (c : Cir) : List Int := ofL [15] c.nodes.l 0

theorem of_one (c : Cir) (hc : COk c) (k : Int) : FreshCalls Tryd.prog Γ 15 [.agg (tC c), .sl [[tK k]] (some 1) (some false)] (.sl (ints (ofL [k] c.nodes.l 0)) (some (ofL [k] c.nodes.l 0).length) none) := by
  have := of_spec (Γ := Γ) c hc.toCirOk [k] (some 1) (some false) (by simp)
  simpa [enc1] using this

theorem states_spec (c : Cir) (hc : COk c) : PureCalls Tryd.prog Γ 17 [.agg (tC c)] (.sl (ints (states c)) (some (states c).length) none) := by
  refine run_pureQ netlists_States_chk rfl ?_
  simp [netlists_States_ic, tC, tNodes, tNames, tMems, tSl]
  refine callK_fresh (of_one c hc 14) rfl ?_
  simp [netlists_States_rv, states]

def plainErr (c : Cir) : Int := if levErr c ≠ 0 then levErr c else if 0 < c.mems.l.length ∨ 0 < (mems c).length then 7 else 0

theorem plain_spec (hΓ : GOk Γ) (c : Cir) (hc : COk c) : FreshCalls Tryd.prog Γ 41 [.agg (tC c)] (tI (plainErr c)) := by
  refine run_freshQ scans_plain_chk rfl ?_
  simp [scans_plain_ic, tC, tNodes, tNames, tMems, tSl]
  refine callK_fresh (check_spec hΓ c hc) rfl ?_
  by_cases h1 : levErr c = 0
  case neg =>
    have : plainErr c = levErr c := by unfold plainErr; rw [if_pos h1]
    simp [h1, scans_plain_rv, this]
  have hp : plainErr c = if 0 < c.mems.l.length ∨ 0 < (mems c).length then 7 else 0 := by unfold plainErr; rw [if_neg (show ¬ (levErr c ≠ 0) by simp [h1])]
  by_cases h2 : 0 < c.mems.l.length
  · rw [if_pos (.inl h2)] at hp
    have h2' : (0 : Int) < c.mems.l.length := by omega
    simp [h1, encN_len, h2, h2', scans_plain_rv, hp]
  · have h2' : ¬ (0 : Int) < c.mems.l.length := by omega
    simp [h1, encN_len, h2, h2']
    refine callK_fresh (of_one c hc 15) rfl ?_
    have hml : c.mems.l = [] := List.eq_nil_of_length_eq_zero (by omega)
    by_cases h3 : 0 < (ofL [15] c.nodes.l 0).length
    · rw [if_pos (show 0 < c.mems.l.length ∨ 0 < (mems c).length from .inr h3)] at hp
      have h3' : (0 : Int) < (ofL [15] c.nodes.l 0).length := by omega
      have h4 : ¬ ofL [15] c.nodes.l 0 = [] := fun e => by rw [e] at h3; simp at h3
      simp [enc1_len]
      simp [h3, h4, Later, scans_plain_rv, hp]
    · have h3m : ¬ 0 < (mems c).length := h3
      rw [if_neg (show ¬ (0 < c.mems.l.length ∨ 0 < (mems c).length) by omega)] at hp
      have h4 : ofL [15] c.nodes.l 0 = [] := List.eq_nil_of_length_eq_zero (by omega)
      simp [enc1_len, h4]
      simp [h4, Later, scans_plain_rv, hp]
end Go.Lg

/- scans.Check. Conditions: none. -/
set_option linter.unusedSimpArgs false
set_option linter.unusedVariables false
set_option maxRecDepth 100000
namespace Go.Lg
open Go Go.Proofs
variable {Γ : Tables}

def seenI (l : List Int) : List (Value × T) := l.map fun n => (.int .i64 n, tB true)
theorem seenI_find (x : Int) : ∀ l : List Int, findM (.int .i64 x) (seenI l) = if x ∈ l then some (tB true) else none
  | [] => rfl
  | y :: l => by
    have ih := seenI_find x l
    simp only [seenI, List.map_cons, findM, keyEq, int_beq] at ih ⊢
    by_cases h : x = y
    · simp [h]
    · simp [h, ih]
theorem seenI_set (x : Int) : ∀ l : List Int, x ∉ l → setM (.int .i64 x) (tB true) (seenI l) = seenI (l ++ [x])
  | [], _ => rfl
  | y :: l, h => by
    have ih := seenI_set x l (fun hm => h (List.mem_cons_of_mem _ hm))
    have hne : x ≠ y := fun e => h (by simp [e])
    simp only [seenI, List.map_cons, setM, keyEq, int_beq, List.cons_append] at ih ⊢
    simp [hne, ih]
theorem seenI_fit (l : List Int) : keysFit (.int .i64) (seenI l) := by
  intro e he; obtain ⟨s, _, rfl⟩ := List.mem_map.1 he; rfl
theorem seenI_len (l : List Int) : (seenI l).length = l.length := by simp [seenI]

def tChs (s : Sl (Sl Int)) : T := .sl (enc1 tSl s.l) s.cap s.nl
def Sl.d : Sl Int := ⟨[], none, none⟩

def elemBad (c : Cir) (done : List Int) (n : Int) : Bool := decide (n < 0 ∨ (c.nodes.l.length : Int) ≤ n ∨ kindAt c n.toNat ≠ 14 ∨ n ∈ done)
def goElems (c : Cir) : List Int → List Int → Option (List Int)
  | done, [] => some done
  | done, n :: l => if elemBad c done n then none else goElems c (done ++ [n]) l
def goChains (c : Cir) : List Int → List (Sl Int) → Option (List Int)
  | done, [] => some done
  | done, s :: l => if s.l = [] then none else (goElems c done s.l).bind fun d => goChains c d l

theorem elems_loop {Q : AX → St → Prop} (c : Cir) (hn : c.nodes.l.length ≤ 1000000000) (chs : T) (a21 a22 : T) (s : Sl Int) (hs : s.l.length ≤ 1000000000) (R : Option (List Int))
    (h0 : ∀ d, R = some d → Q (.exit 2) ⟨[(2, .t (.ip (tC c) 0)), (6, .lm 19), (20, .t chs), (21, .t a21), (22, .t a22), (29, .t (tSl s)), (30, .t (tI s.l.length)), (31, .t (tI s.l.length)), (32, .t (tB false))], [(19, .mp (seenI d))]⟩)
    (h1 : R = none → Q .ret ⟨[(4, .t (tI 1))], []⟩) : ∀ (kk k : Nat) (done : List Int), kk + k = s.l.length → goElems c done (s.l.drop k) = R →
    run Tryd.prog Γ scans_Check_l1 Q ⟨[(2, .t (.ip (tC c) 0)), (6, .lm 19), (20, .t chs), (21, .t a21), (22, .t a22), (29, .t (tSl s)), (30, .t (tI s.l.length)), (31, .t (tI k))], [(19, .mp (seenI done))]⟩
  | 0, k, done, h, hR => by
    refine scans_Check_l1_run fun K hK => ?_
    have h2 : ¬ k < s.l.length := by omega
    have h3 : k = s.l.length := by omega
    simp [h2]
    subst h3
    rw [List.drop_of_length_le (Nat.le_refl _)] at hR
    exact h0 _ hR.symm
  | kk + 1, k, done, h, hR => by
    refine scans_Check_l1_run fun K hK => ?_
    have h2 : k < s.l.length := by omega
    rw [List.drop_eq_getElem_cons h2] at hR
    simp only [goElems] at hR
    have hfit := seenI_fit done
    generalize hx : s.l[k] = n at hR
    by_cases b1 : n < 0
    · rw [if_pos (show elemBad c done n = true by simp [elemBad, b1])] at hR
      simp (disch := omega) [h2, tSl, enc1_len, enc1_get (0 : Int), enc1_wid, hx, b1]
      exact h1 hR.symm
    by_cases b2 : (c.nodes.l.length : Int) ≤ n
    · rw [if_pos (show elemBad c done n = true by simp [elemBad, b2])] at hR
      simp (disch := omega) [h2, tSl, enc1_len, enc1_get (0 : Int), enc1_wid, hx, b1, b2, tC, tNodes, encN_len]
      exact h1 hR.symm
    have hj : n.toNat < c.nodes.l.length := by omega
    have hk : kindAt c n.toNat = c.nodes.l[n.toNat].k := by simp [kindAt, hj]
    by_cases b3 : c.nodes.l[n.toNat].k = 14
    case neg =>
      rw [if_pos (show elemBad c done n = true by simp [elemBad, hk, b3])] at hR
      simp (disch := omega) [h2, tSl, enc1_len, enc1_get (0 : Int), enc1_wid, hx, b1, b2, tC, tNodes, encN_len, encN_get Nd.d, tNd_wid, tNd, hj, b3]
      exact ⟨by omega, h1 hR.symm⟩
    by_cases b4 : n ∈ done
    · rw [if_pos (show elemBad c done n = true by simp [elemBad, b4])] at hR
      simp (disch := omega) [h2, tSl, enc1_len, enc1_get (0 : Int), enc1_wid, hx, b1, b2, tC, tNodes, encN_len, encN_get Nd.d, tNd_wid, tNd, hj, b3, KT.fits, hfit, seenI_find, b4]
      exact ⟨by omega, h1 hR.symm⟩
    rw [if_neg (show ¬ elemBad c done n = true by simp [elemBad, b1, b2, hk, b3, b4])] at hR
    simp (disch := omega) [h2, tSl, enc1_len, enc1_get (0 : Int), enc1_wid, hx, b1, b2, tC, tNodes, encN_len, encN_get Nd.d, tNd_wid, tNd, hj, b3, KT.fits, hfit, seenI_find, b4, seenI_set, wrap_i64]
    refine ⟨by omega, ?_⟩
    rw [hK]
    have := elems_loop c hn chs a21 a22 s hs R h0 h1 kk (k + 1) (done ++ [n]) (by omega) hR
    simpa [tSl, tC, tNodes] using this

theorem chains_loop {Q : AX → St → Prop} (c : Cir) (hn : c.nodes.l.length ≤ 1000000000) (chs : Sl (Sl Int)) (hl : chs.l.length ≤ 1000000000) (hs : ∀ s ∈ chs.l, s.l.length ≤ 1000000000) (R : Option (List Int))
    (h0 : ∀ d, R = some d → Q (.exit 0) ⟨[(2, .t (.ip (tC c) 0)), (6, .lm 19), (20, .t (tChs chs)), (21, .t (tI chs.l.length)), (22, .t (tI chs.l.length)), (23, .t (tB false))], [(19, .mp (seenI d))]⟩)
    (h1 : R = none → Q .ret ⟨[(4, .t (tI 1))], []⟩) : ∀ (kk k : Nat) (done : List Int), kk + k = chs.l.length → goChains c done (chs.l.drop k) = R →
    run Tryd.prog Γ scans_Check_l3 Q ⟨[(2, .t (.ip (tC c) 0)), (6, .lm 19), (20, .t (tChs chs)), (21, .t (tI chs.l.length)), (22, .t (tI k))], [(19, .mp (seenI done))]⟩
  | 0, k, done, h, hR => by
    refine scans_Check_l3_run fun K hK => ?_
    have h2 : ¬ k < chs.l.length := by omega
    have h3 : k = chs.l.length := by omega
    simp [h2]
    subst h3
    rw [List.drop_of_length_le (Nat.le_refl _)] at hR
    exact h0 _ hR.symm
  | kk + 1, k, done, h, hR => by
    refine scans_Check_l3_run fun K hK => ?_
    have h2 : k < chs.l.length := by omega
    have hsl := hs _ (List.getElem_mem h2)
    rw [List.drop_eq_getElem_cons h2] at hR
    simp only [goChains] at hR
    by_cases he : chs.l[k].l = []
    · rw [if_pos he] at hR
      simp (disch := omega) [h2, tChs, enc1_len, enc1_get Sl.d, enc1_wid, tSl, he, enc1_nil]
      exact h1 hR.symm
    rw [if_neg he] at hR
    have he' : ¬ chs.l[k].l.length = 0 := fun e => he (List.eq_nil_of_length_eq_zero e)
    simp (disch := omega) [h2, tChs, enc1_len, enc1_get Sl.d, enc1_wid, tSl, he, he']
    refine elems_loop c hn (.sl (enc1 tSl chs.l) chs.cap chs.nl) (tI chs.l.length) (tI k) chs.l[k] hsl (goElems c done chs.l[k].l) (fun d hd => ?_) (fun hd => ?_) chs.l[k].l.length 0 done (by omega) rfl
    · rw [hd] at hR
      simp (disch := omega) [wrap_i64]
      rw [hK]
      have := chains_loop c hn chs hl hs R h0 h1 kk (k + 1) d (by omega) hR
      simpa [tChs] using this
    · rw [hd] at hR
      simp
      exact h1 hR.symm

def checkErr (c : Cir) (chs : List (Sl Int)) : Int :=
  if plainErr c ≠ 0 then plainErr c else if 64 < chs.length then 3 else match goChains c [] chs with
    | none => 1
    | some d => if d.length ≠ (states c).length then 8 else 0

theorem scheck_spec (hΓ : GOk Γ) (c : Cir) (hc : COk c) (chs : Sl (Sl Int)) (hl : chs.l.length ≤ 1000000000) (hs : ∀ s ∈ chs.l, s.l.length ≤ 1000000000) : FreshCalls Tryd.prog Γ 18 [.agg (tC c), tChs chs] (tI (checkErr c chs.l)) := by
  refine run_freshQ scans_Check_chk rfl ?_
  simp [scans_Check_ic, tC, tNodes, tNames, tMems, tSl]
  refine callK_fresh (plain_spec hΓ c hc) rfl ?_
  by_cases h1 : plainErr c = 0
  case neg =>
    have : checkErr c chs.l = plainErr c := by unfold checkErr; rw [if_pos h1]
    simp [h1, scans_Check_rv, this]
  have hp : checkErr c chs.l = if 64 < chs.l.length then 3 else match goChains c [] chs.l with
    | none => 1
    | some d => if d.length ≠ (states c).length then 8 else 0 := by unfold checkErr; rw [if_neg (show ¬ (plainErr c ≠ 0) by simp [h1])]
  by_cases h2 : 64 < chs.l.length
  · rw [if_pos h2] at hp
    have h2' : (64 : Int) < chs.l.length := by omega
    simp [h1, tChs, enc1_len, h2', scans_Check_rv, hp]
  rw [if_neg h2] at hp
  have h2' : ¬ (64 : Int) < chs.l.length := by omega
  simp [h1, tChs, enc1_len, h2']
  refine chains_loop c hc.nodes chs hl hs (goChains c [] chs.l) (fun d hd => ?_) (fun hd => ?_) chs.l.length 0 [] (by omega) rfl
  case refine_2 =>
    rw [hd] at hp
    simp [scans_Check_rv, hp]
  rw [hd] at hp
  simp only at hp
  simp [seenI_len, tC, tNodes, tNames, tMems, tSl]
  refine callK_pure (states_spec c hc) rfl ?_
  by_cases h3 : d.length = (states c).length
  · rw [if_neg (show ¬ (d.length ≠ (states c).length) by simp [h3])] at hp
    simp [enc1_len, h3, scans_Check_rv, hp]
  · rw [if_pos h3] at hp
    have h3' : ¬ (d.length : Int) = (states c).length := by omega
    simp [enc1_len, h3, h3', scans_Check_rv, hp]
end Go.Lg

/- abs, length, Reverse. Conditions: none. -/
set_option linter.unusedSimpArgs false
set_option linter.unusedVariables false
set_option maxRecDepth 100000
namespace Go.Lg
open Go Go.Proofs
variable {Γ : Tables}

abbrev Pnt := Int × Int
def tPnt (p : Pnt) : T := .agg [tI p.1, tI p.2]
def cPnt (p : Pnt) : List T := [tI p.1, tI p.2]
/-- The positions, as a map. -/
def atM (l : List (Int × Pnt)) : List (Value × T) := l.map fun p => (.int .i64 p.1, tPnt p.2)
def atOf (l : List (Int × Pnt)) (n : Int) : Pnt := match l.find? (fun p => p.1 == n) with | some p => p.2 | none => (0, 0)
theorem atM_fit (l : List (Int × Pnt)) : keysFit (.int .i64) (atM l) := by
  intro e he; obtain ⟨s, _, rfl⟩ := List.mem_map.1 he; rfl
theorem atM_find (n : Int) : ∀ l : List (Int × Pnt), (findM (.int .i64 n) (atM l)).getD (.agg [tI 0, tI 0]) = tPnt (atOf l n)
  | [] => rfl
  | p :: l => by
    have ih := atM_find n l
    simp only [atM, List.map_cons, findM, keyEq, int_beq, atOf, List.find?_cons] at ih ⊢
    by_cases h : n = p.1
    · simp [h]
    · have h' : ¬ p.1 = n := fun e => h e.symm
      simp only [h, h', decide_false, Bool.false_eq_true, ↓reduceIte]
      exact ih

theorem abs_spec (n : Int) (h : -4000000 ≤ n ∧ n ≤ 4000000) : FreshCalls Tryd.prog Γ 79 [tI n] (tI (max n (-n))) := by
  refine run_freshQ scans_abs_chk rfl ?_
  simp (disch := omega) [scans_abs_ic, scans_abs_rv, wrap_i64]
  split <;> omega

def Small (l : List (Int × Pnt)) : Prop := ∀ p ∈ l, -1000000 ≤ p.2.1 ∧ p.2.1 ≤ 1000000 ∧ -1000000 ≤ p.2.2 ∧ p.2.2 ≤ 1000000
theorem Small.at {l : List (Int × Pnt)} (h : Small l) (n : Int) : -1000000 ≤ (atOf l n).1 ∧ (atOf l n).1 ≤ 1000000 ∧ -1000000 ≤ (atOf l n).2 ∧ (atOf l n).2 ≤ 1000000 := by
  unfold atOf
  split
  · rename_i p hp
    exact h p (List.mem_of_find?_eq_some hp)
  · simp
def dist (p q : Pnt) : Int := max (p.1 - q.1) (-(p.1 - q.1)) + max (p.2 - q.2) (-(p.2 - q.2))
theorem dist_le {l : List (Int × Pnt)} (h : Small l) (a b : Int) : 0 ≤ dist (atOf l a) (atOf l b) ∧ dist (atOf l a) (atOf l b) ≤ 4000000 := by
  have h1 := h.at a
  have h2 := h.at b
  unfold dist; omega

def lenS (m : List (Int × Pnt)) : List Int → Int
  | a :: b :: l => dist (atOf m a) (atOf m b) + lenS m (b :: l)
  | _ => 0
theorem lenS_snoc (m : List (Int × Pnt)) (b : Int) : ∀ (l : List Int) (a : Int), lenS m (l ++ [a, b]) = lenS m (l ++ [a]) + dist (atOf m a) (atOf m b)
  | [], a => by simp [lenS]
  | [x], a => by simp [lenS]
  | x :: y :: l, a => by
    have := lenS_snoc m b (y :: l) a
    simp only [List.cons_append, lenS] at this ⊢
    omega
theorem lenS_le {m : List (Int × Pnt)} (h : Small m) : ∀ l : List Int, 0 ≤ lenS m l ∧ lenS m l ≤ 4000000 * l.length
  | [] => by simp [lenS]
  | [a] => by simp [lenS]
  | a :: b :: l => by
    have h1 := lenS_le h (b :: l)
    have h2 := dist_le h a b
    simp only [lenS, List.length_cons] at h1 ⊢
    omega

theorem length_loop {Q : AX → St → Prop} (m : List (Int × Pnt)) (hm : Small m) (l : List Int) (cap : Option Nat) (nl : Option Bool) (hl : l.length ≤ 1000000000)
    (h0 : Q (.exit 0) ⟨[(0, .t (.sl (ints l) cap nl)), (1, .t (.mp (atM m))), (5, .t (tI (lenS m l))), (6, .t (tI (max 1 l.length : Nat))), (12, .t (tB false))], []⟩) :
    ∀ (kk i : Nat), kk + i = max 1 l.length → 1 ≤ i →
    run Tryd.prog Γ scans_length_l1 Q ⟨[(0, .t (.sl (ints l) cap nl)), (1, .t (.mp (atM m))), (5, .t (tI (lenS m (l.take i)))), (6, .t (tI i))], []⟩
  | 0, i, h, h1 => by
    refine scans_length_l1_run fun K hK => ?_
    have h2 : ¬ i < l.length := by omega
    simp [h2, enc1_len]
    have h3 : i = max 1 l.length := by omega
    subst h3
    rw [List.take_of_length_le (by omega)]
    exact_mod_cast h0
  | kk + 1, i, h, h1 => by
    refine scans_length_l1_run fun K hK => ?_
    have h2 : i < l.length := by omega
    have h4 : i - 1 < l.length := by omega
    have hi : ((i : Int) - 1).toNat = i - 1 := by omega
    have hfit := atM_fit m
    have hle := lenS_le hm (l.take i)
    have hlt : (l.take i).length = i := by simp; omega
    have e0 : l.take i = l.take (i - 1) ++ [l[i - 1]] := by
      have := List.take_add_one (l := l) (i := i - 1)
      rw [show i - 1 + 1 = i by omega] at this
      rw [this]; simp [h4]
    have t1 : l.take (i + 1) = l.take i ++ [l[i]] := by rw [List.take_add_one]; simp [h2]
    have e1 : l.take (i + 1) = l.take (i - 1) ++ [l[i - 1], l[i]] := t1.trans ((congrArg (· ++ [l[i]]) e0).trans (List.append_assoc _ _ _))
    have hs := lenS_snoc m l[i] (l.take (i - 1)) l[i - 1]
    rw [← e0, ← e1] at hs
    have ha := hm.at l[i - 1]
    have hb := hm.at l[i]
    have hd : dist (atOf m l[i - 1]) (atOf m l[i]) = max ((atOf m l[i - 1]).1 - (atOf m l[i]).1) (-((atOf m l[i - 1]).1 - (atOf m l[i]).1)) + max ((atOf m l[i - 1]).2 - (atOf m l[i]).2) (-((atOf m l[i - 1]).2 - (atOf m l[i]).2)) := rfl
    rw [hd] at hs
    have f1 := atM_find l[i - 1] m
    have f2 := atM_find l[i] m
    simp only [tPnt] at f1 f2
    obtain ⟨a1, a2, a3, a4⟩ := ha
    obtain ⟨b1, b2, b3, b4⟩ := hb
    have k1 := abs_spec (Γ := Γ) ((atOf m l[i - 1]).1 - (atOf m l[i]).1) (by omega)
    have k2 := abs_spec (Γ := Γ) ((atOf m l[i - 1]).2 - (atOf m l[i]).2) (by omega)
    have ih := length_loop m hm l cap nl hl h0 kk (i + 1) (by omega) (by omega)
    rw [hs] at ih
    generalize atOf m l[i - 1] = p at *
    generalize atOf m l[i] = q at *
    simp (disch := omega) [h2, h4, hi, enc1_len, enc1_get (0 : Int), enc1_wid, wrap_i64, KT.fits, hfit, f1, f2]
    refine ⟨by omega, ?_⟩
    refine callK_fresh k1 rfl ?_
    simp (disch := omega) [wrap_i64]
    refine callK_fresh k2 rfl ?_
    simp (disch := omega) [wrap_i64]
    rw [hK]
    exact_mod_cast ih

theorem length_spec (m : List (Int × Pnt)) (hm : Small m) (l : List Int) (cap : Option Nat) (nl : Option Bool) (hl : l.length ≤ 1000000000) : FreshCalls Tryd.prog Γ 50 [.sl (ints l) cap nl, .mp (atM m)] (tI (lenS m l)) := by
  refine run_freshQ scans_length_chk rfl ?_
  simp [scans_length_ic]
  have h1 : lenS m (l.take 1) = 0 := by
    match l with
    | [] => rfl
    | [a] => rfl
    | a :: b :: l => rfl
  have := length_loop (Γ := Γ) (Q := blockX 0 (thenX (run Tryd.prog Γ (.seq (.reg scans_length_r7 [.keep [4] []]) .ret) (ret true scans_length_rv fun r => r = tI (lenS m l))) (ret true scans_length_rv fun r => r = tI (lenS m l)))) m hm l cap nl hl (by simp [scans_length_rv]) (max 1 l.length - 1) 1 (by omega) (by omega)
  rw [h1] at this
  exact this

/-- The part from a to b of a list, turned. -/
def swapL (l : List Int) (a b : Nat) : List Int := (l.set a (l.getD b 0)).set b (l.getD a 0)
def revL : Nat → Nat → Nat → List Int → List Int
  | 0, _, _, l => l
  | f + 1, a, b, l => if a < b then revL f (a + 1) (b - 1) (swapL l a b) else l
theorem swapL_len {l : List Int} {a b : Nat} : (swapL l a b).length = l.length := by simp [swapL]
theorem revL_len : ∀ {f a b : Nat} {l : List Int}, (revL f a b l).length = l.length
  | 0, _, _, _ => rfl
  | f + 1, a, b, l => by
    simp only [revL]
    split
    · rw [revL_len]; exact swapL_len
    · rfl

theorem reverse_loop {Q : AX → St → Prop} (ty : Nat) (off len : Nat) (cap : Option Nat) (R : List Int) (hlen : len ≤ 1000000000)
    (h0 : ∀ a b : Int, Q (.exit 0) ⟨[(0, .ls 1000000 off len cap), (2, .t (tI a)), (3, .t (tI b)), (9, .t (tB false))], [(1000000, .sl ty 1 (ints R))]⟩) :
    ∀ (f a : Nat) (b : Int) (l : List Int), (b < len ∧ -1 ≤ b) → b + 1 ≤ f + a → a ≤ len → off + len ≤ l.length → revL f (off + a) ((off + b).toNat) l = R →
    run Tryd.prog Γ slices_Reverse_int_l1 Q ⟨[(0, .ls 1000000 off len cap), (2, .t (tI a)), (3, .t (tI b))], [(1000000, .sl ty 1 (ints l))]⟩
  | 0, a, b, l, hb, hf, ha, hl, hR => by
    refine slices_Reverse_int_l1_run fun K hK => ?_
    have h2 : ¬ (a : Int) < b := by omega
    simp [h2]
    simp only [revL] at hR
    subst hR
    exact h0 _ _
  | f + 1, a, b, l, hb, hf, ha, hl, hR => by
    refine slices_Reverse_int_l1_run fun K hK => ?_
    simp only [revL] at hR
    by_cases h2 : (a : Int) < b
    case neg =>
      rw [if_neg (by omega)] at hR
      simp [h2]
      subst hR
      exact h0 _ _
    rw [if_pos (by omega)] at hR
    have hbn : (off + b).toNat = off + b.toNat := by omega
    have hb2 : b.toNat < len := by omega
    have la : off + a < l.length := by omega
    have lb : off + b.toNat < l.length := by omega
    have hsw : swapL l (off + a) (off + b).toNat = (l.set (off + a) l[off + b.toNat]).set (off + b.toNat) l[off + a] := by
      unfold swapL
      rw [hbn]
      simp [la, lb]
    rw [hsw] at hR
    have ih := reverse_loop ty off len cap R hlen h0 f (a + 1) (b - 1) ((l.set (off + a) l[off + b.toNat]).set (off + b.toNat) l[off + a]) (by omega) (by omega) (by omega) (by simp; omega) (by
      rw [← hR]; congr 1; omega)
    simp (disch := omega) [h2, hb2, enc1_len, enc1_get (0 : Int), enc1_wid, enc1_set, wrap_i64, la, lb]
    refine ⟨by omega, by omega, by omega, ?_⟩
    rw [hK]
    exact_mod_cast ih

def revP (l : List Int) (off len : Nat) : List Int := revL (len + 1) off (off + len - 1) l

theorem reverse_h (ty off len : Nat) (cap : Option Nat) (l : List Int) (hl : off + len ≤ l.length) (hlen : len ≤ 1000000000) (h1 : 1 ≤ len) : HCalls Tryd.prog Γ 80 [(1000000, .sl ty 1 (ints l))] [.ls 1000000 off len cap] (.t (.tup [])) [(1000000, .sl ty 1 (ints (revP l off len)))] := by
  refine run_handQ slices_Reverse_int_chk rfl ?_
  simp (disch := omega) [slices_Reverse_int_ic, wrap_i64]
  have := reverse_loop (Γ := Γ) (Q := blockX 0 (retH slices_Reverse_int_rv fun r h => r = .t (.tup []) ∧ h = [(1000000, .sl ty 1 (ints (revP l off len)))])) ty off len cap (revP l off len) hlen (fun a b => by simp [slices_Reverse_int_rv]) (len + 1) 0 (len - 1) l (by omega) (by omega) (by omega) hl (by
    unfold revP; congr 1; omega)
  exact this
end Go.Lg

/- placed and Length. Conditions: none. -/
set_option linter.unusedSimpArgs false
set_option linter.unusedVariables false
set_option maxRecDepth 100000
namespace Go.Lg
open Go Go.Proofs
variable {Γ : Tables}

def tPts (s : Sl Pnt) : T := .sl (encN cPnt s.l) s.cap s.nl
theorem cPnt_wid {l : List Pnt} : wid 2 (encN cPnt l) := encN_wid fun _ => rfl

theorem ofL_nodup (ks : List Int) : ∀ (l : List Nd) (i : Nat), (∀ j ∈ ofL ks l i, (i : Int) ≤ j) ∧ (ofL ks l i).Nodup
  | [], _ => ⟨fun j h => (by cases h), List.nodup_nil⟩
  | x :: l, i => by
    obtain ⟨h1, h2⟩ := ofL_nodup ks l (i + 1)
    simp only [ofL]
    split
    · refine ⟨fun j hj => ?_, List.nodup_cons.2 ⟨fun hm => ?_, h2⟩⟩
      · rcases List.mem_cons.1 hj with rfl | hj
        · omega
        · have := h1 j hj; omega
      · have := h1 _ hm; omega
    · exact ⟨fun j hj => by have := h1 j hj; omega, h2⟩
theorem states_nodup (c : Cir) : (states c).Nodup := (ofL_nodup _ _ _).2

theorem atM_set (n : Int) (p : Pnt) : ∀ l : List (Int × Pnt), n ∉ l.map (·.1) → setM (.int .i64 n) (tPnt p) (atM l) = atM (l ++ [(n, p)])
  | [], _ => rfl
  | y :: l, h => by
    have ih := atM_set n p l (fun hm => h (List.mem_cons_of_mem _ hm))
    have hne : ¬ n = y.1 := fun e => h (by simp [e])
    simp only [atM, List.map_cons, setM, keyEq, int_beq, List.cons_append] at ih ⊢
    simp [hne, ih]

def ptBad (p : Pnt) : Bool := decide (p.1 < -1000000 ∨ 1000000 < p.1 ∨ p.2 < -1000000 ∨ 1000000 < p.2)

theorem placed_loop {Q : AX → St → Prop} (st : List Int) (hnd : st.Nodup) (at' : Sl Pnt) (hl : at'.l.length ≤ 1000000000) (he : at'.l.length = st.length)
    (h0 : at'.l.any ptBad = false → Q (.exit 0) ⟨[(9, .t (.sl (ints st) (some st.length) none)), (10, .lm 26), (27, .t (tPts at')), (28, .t (tI at'.l.length)), (29, .t (tI at'.l.length)), (30, .t (tB false))], [(26, .mp (atM (st.zip at'.l)))]⟩)
    (h1 : at'.l.any ptBad = true → ∀ m, Q .ret ⟨[(6, .t (.mp [])), (7, .t (tI 1))], [(26, .mp (atM m))]⟩) : ∀ (kk i : Nat), kk + i = at'.l.length → (∀ j, j < i → ∀ p, at'.l[j]? = some p → ptBad p = false) →
    run Tryd.prog Γ scans_placed_l1 Q ⟨[(9, .t (.sl (ints st) (some st.length) none)), (10, .lm 26), (27, .t (tPts at')), (28, .t (tI at'.l.length)), (29, .t (tI i))], [(26, .mp (atM ((st.zip at'.l).take i)))]⟩
  | 0, i, h, hq => by
    refine scans_placed_l1_run fun K hK => ?_
    have h2 : ¬ i < at'.l.length := by omega
    have h3 : i = at'.l.length := by omega
    simp [h2]
    subst h3
    rw [List.take_of_length_le (by simp [List.length_zip]; omega)]
    refine h0 (List.any_eq_false.2 fun p hp => ?_)
    obtain ⟨j, hj, rfl⟩ := List.getElem_of_mem hp
    simp [hq j hj _ (List.getElem?_eq_getElem hj)]
  | kk + 1, i, h, hq => by
    refine scans_placed_l1_run fun K hK => ?_
    have h2 : i < at'.l.length := by omega
    have h2' : i < st.length := by omega
    have hget : (encN cPnt at'.l)[i]?.getD [] = cPnt at'.l[i] := by simp [encN, h2]
    have hzl : i < (st.zip at'.l).length := by simp [List.length_zip]; omega
    have hzt : (st.zip at'.l).take (i + 1) = (st.zip at'.l).take i ++ [(st[i], at'.l[i])] := by
      rw [List.take_add_one, List.getElem?_eq_getElem hzl]; simp
    have hnm : st[i] ∉ ((st.zip at'.l).take i).map (·.1) := by
      intro hm
      obtain ⟨p, hp, hpe⟩ := List.mem_map.1 hm
      obtain ⟨j, hj, rfl⟩ := List.getElem_of_mem hp
      simp [List.length_zip] at hj
      simp at hpe
      exact (List.pairwise_iff_getElem.1 hnd j i (by omega) h2' (by omega)) hpe
    have hset := atM_set st[i] at'.l[i] _ hnm
    rw [← hzt] at hset
    have hfit := atM_fit ((st.zip at'.l).take i)
    have hbad : at'.l[i] ∈ at'.l := List.getElem_mem h2
    have fail : ptBad at'.l[i] = true → at'.l.any ptBad = true := fun hb => List.any_eq_true.2 ⟨_, hbad, hb⟩
    generalize hp : at'.l[i] = p at *
    obtain ⟨x, y⟩ := p
    by_cases b1 : x < -1000000
    · simp (disch := omega) [h2, tPts, encN_len, hget, cPnt_wid, cPnt, b1]
      exact h1 (fail (by simp [ptBad, b1])) _
    by_cases b2 : 1000000 < x
    · simp (disch := omega) [h2, tPts, encN_len, hget, cPnt_wid, cPnt, b1, b2]
      exact h1 (fail (by simp [ptBad, b2])) _
    by_cases b3 : y < -1000000
    · simp (disch := omega) [h2, tPts, encN_len, hget, cPnt_wid, cPnt, b1, b2, b3]
      exact h1 (fail (by simp [ptBad, b3])) _
    by_cases b4 : 1000000 < y
    · simp (disch := omega) [h2, tPts, encN_len, hget, cPnt_wid, cPnt, b1, b2, b3, b4]
      exact h1 (fail (by simp [ptBad, b4])) _
    have ih := placed_loop st hnd at' hl he h0 h1 kk (i + 1) (by omega) (fun j hj q hqq => by
      rcases Nat.lt_succ_iff_lt_or_eq.1 hj with hj | rfl
      · exact hq j hj q hqq
      · rw [List.getElem?_eq_getElem h2, hp] at hqq
        simp only [Option.some.injEq] at hqq; subst hqq
        simp [ptBad, b1, b2, b3, b4])
    simp only [tPnt] at hset
    simp (disch := omega) [h2, h2', tPts, encN_len, hget, cPnt_wid, cPnt, b1, b2, b3, b4, enc1_len, enc1_get (0 : Int), enc1_wid, KT.fits, hfit, hset, wrap_i64]
    rw [hK]
    simpa [tPts] using ih

def placedErr (c : Cir) (chs : List (Sl Int)) (at' : List Pnt) : Int :=
  if checkErr c chs ≠ 0 then checkErr c chs else if at'.length ≠ (states c).length then 8 else if at'.any ptBad = true then 1 else 0
def placedM (c : Cir) (chs : List (Sl Int)) (at' : List Pnt) : List (Int × Pnt) := if placedErr c chs at' = 0 then (states c).zip at' else []

theorem placed_spec (hΓ : GOk Γ) (c : Cir) (hc : COk c) (chs : Sl (Sl Int)) (hl : chs.l.length ≤ 1000000000) (hs : ∀ s ∈ chs.l, s.l.length ≤ 1000000000) (at' : Sl Pnt) (ha : at'.l.length ≤ 1000000000) :
    PureCalls Tryd.prog Γ 49 [.agg (tC c), tChs chs, tPts at'] (.tup [.mp (atM (placedM c chs.l at'.l)), tI (placedErr c chs.l at'.l)]) := by
  refine run_pureQ scans_placed_chk rfl ?_
  simp [scans_placed_ic, tC, tNodes, tNames, tMems, tSl]
  refine callK_fresh (scheck_spec hΓ c hc chs hl hs) rfl ?_
  by_cases h1 : checkErr c chs.l = 0
  case neg =>
    have : placedErr c chs.l at'.l = checkErr c chs.l := by unfold placedErr; rw [if_pos h1]
    simp [h1, scans_placed_rv, placedM, this, atM]
  have hp : placedErr c chs.l at'.l = if at'.l.length ≠ (states c).length then 8 else if at'.l.any ptBad = true then 1 else 0 := by
    unfold placedErr; rw [if_neg (show ¬ (checkErr c chs.l ≠ 0) by simp [h1])]
  simp [h1]
  refine callK_pure (states_spec c hc) rfl ?_
  by_cases h2 : at'.l.length = (states c).length
  case neg =>
    rw [if_pos h2] at hp
    have h2' : ¬ (at'.l.length : Int) = (states c).length := by omega
    simp [tPts, encN_len, enc1_len, h2, h2', scans_placed_rv, hp, placedM, atM]
  rw [if_neg (show ¬ (at'.l.length ≠ (states c).length) by simp [h2])] at hp
  have hpl := fun Q h0 h1 => placed_loop (Γ := Γ) (Q := Q) (states c) (states_nodup c) at' ha h2 h0 h1 at'.l.length 0 (by omega) (by simp)
  simp [tPts, encN_len, enc1_len, h2]
  simp only [tPts, h2] at hpl
  refine hpl _ (fun hb => ?_) (fun hb m => ?_)
  · rw [if_neg (by simp [hb])] at hp
    simp [scans_placed_rv, hp, placedM]
  · rw [if_pos hb] at hp
    simp [scans_placed_rv, hp, placedM, atM]

def lenTot (m : List (Int × Pnt)) (l : List (Sl Int)) : Int := (l.map fun s => lenS m s.l).sum

theorem lenTot_snoc (m : List (Int × Pnt)) (l : List (Sl Int)) (s : Sl Int) : lenTot m (l ++ [s]) = lenTot m l + lenS m s.l := by simp [lenTot]
theorem lenTot_le {m : List (Int × Pnt)} (hm : Small m) : ∀ l : List (Sl Int), (∀ s ∈ l, s.l.length ≤ 1000000000) → 0 ≤ lenTot m l ∧ lenTot m l ≤ 4000000000000000 * l.length
  | [], _ => by simp [lenTot]
  | s :: l, h => by
    have h1 := lenTot_le hm l fun x hx => h x (List.mem_cons_of_mem _ hx)
    have h2 := lenS_le hm s.l
    have h3 := h s List.mem_cons_self
    simp only [lenTot, List.map_cons, List.sum_cons, List.length_cons] at h1 ⊢
    omega
theorem lenS_nil : ∀ l : List Int, lenS [] l = 0
  | [] => rfl
  | [_] => rfl
  | a :: b :: l => by simp only [lenS, lenS_nil (b :: l)]; simp [atOf, dist]
theorem lenTot_nil (l : List (Sl Int)) : lenTot [] l = 0 := by
  induction l with
  | nil => rfl
  | cons s l ih => simp only [lenTot, List.map_cons, List.sum_cons, lenS_nil] at ih ⊢; omega

theorem Length_loop {Q : AX → St → Prop} (m : List (Int × Pnt)) (hm : Small m) (chs : Sl (Sl Int)) (hl : chs.l.length ≤ 1000000000) (hs : ∀ s ∈ chs.l, s.l.length ≤ 1000000000) (hb : m = [] ∨ chs.l.length ≤ 64) (e : Int)
    (h0 : Q (.exit 0) ⟨[(8, .t (.mp (atM m))), (9, .t (tI e)), (10, .t (tI (lenTot m chs.l))), (20, .t (tChs chs)), (21, .t (tI chs.l.length)), (22, .t (tI chs.l.length)), (23, .t (tB false))], []⟩) : ∀ (kk i : Nat), kk + i = chs.l.length →
    run Tryd.prog Γ scans_Length_l1 Q ⟨[(8, .t (.mp (atM m))), (9, .t (tI e)), (10, .t (tI (lenTot m (chs.l.take i)))), (20, .t (tChs chs)), (21, .t (tI chs.l.length)), (22, .t (tI i))], []⟩
  | 0, i, h => by
    refine scans_Length_l1_run fun K hK => ?_
    have h2 : ¬ i < chs.l.length := by omega
    have h3 : i = chs.l.length := by omega
    simp [h2]
    subst h3
    simpa using h0
  | kk + 1, i, h => by
    refine scans_Length_l1_run fun K hK => ?_
    have h2 : i < chs.l.length := by omega
    have hsl := hs _ (List.getElem_mem h2)
    have ht : chs.l.take (i + 1) = chs.l.take i ++ [chs.l[i]] := by rw [List.take_add_one]; simp [h2]
    have hsn := lenTot_snoc m (chs.l.take i) chs.l[i]
    rw [← ht] at hsn
    have b1 := lenS_le hm chs.l[i].l
    have b2 := lenTot_le hm (chs.l.take i) fun s hs' => hs s (List.mem_of_mem_take hs')
    have b3 : (chs.l.take i).length = i := by simp; omega
    have b4 : 0 ≤ lenTot m (chs.l.take i) + lenS m chs.l[i].l ∧ lenTot m (chs.l.take i) + lenS m chs.l[i].l ≤ 4611686018427387904 := by
      rcases hb with rfl | hb
      · rw [lenS_nil, lenTot_nil]; omega
      · omega
    have e1 := length_spec (Γ := Γ) m hm chs.l[i].l chs.l[i].cap chs.l[i].nl hsl
    have ih := Length_loop m hm chs hl hs hb e h0 kk (i + 1) (by omega)
    rw [hsn] at ih
    simp (disch := omega) [h2, tChs, enc1_len, enc1_get Sl.d, enc1_wid, tSl]
    refine callK_fresh e1 rfl ?_
    simp (disch := omega) [wrap_i64]
    rw [hK]
    simpa [tChs] using ih

theorem placedM_small (c : Cir) (chs : List (Sl Int)) (at' : List Pnt) : Small (placedM c chs at') := by
  unfold placedM
  split
  · rename_i h
    intro p hp
    have hb : ptBad p.2 = false := by
      unfold placedErr at h
      split at h
      · rename_i h'; exact absurd h h'
      split at h
      · cases h
      split at h
      · cases h
      rename_i h3
      have h4 : at'.any ptBad = false := by simpa using h3
      have h5 := List.any_eq_false.1 h4 p.2 (List.of_mem_zip hp).2
      simpa using h5
    simp only [ptBad, decide_eq_false_iff_not, not_or, Int.not_lt] at hb
    omega
  · intro p hp; cases hp

theorem checkErr_len {c : Cir} {chs : List (Sl Int)} (h : checkErr c chs = 0) : chs.length ≤ 64 := by
  unfold checkErr at h
  split at h
  · rename_i h'; exact absurd h h'
  split at h
  · cases h
  omega
theorem placedM_len (c : Cir) (chs : List (Sl Int)) (at' : List Pnt) : placedM c chs at' = [] ∨ chs.length ≤ 64 := by
  unfold placedM
  split
  · rename_i h
    right
    unfold placedErr at h
    split at h
    · rename_i h'; exact absurd h h'
    · rename_i h'; exact checkErr_len (by simpa using h')
  · exact .inl rfl

theorem Length_spec (hΓ : GOk Γ) (c : Cir) (hc : COk c) (chs : Sl (Sl Int)) (hl : chs.l.length ≤ 1000000000) (hs : ∀ s ∈ chs.l, s.l.length ≤ 1000000000) (at' : Sl Pnt) (ha : at'.l.length ≤ 1000000000) :
    FreshCalls Tryd.prog Γ 21 [.agg (tC c), tChs chs, tPts at'] (.tup [tI (if placedErr c chs.l at'.l = 0 then lenTot (placedM c chs.l at'.l) chs.l else 0), tI (placedErr c chs.l at'.l)]) := by
  refine run_freshQ scans_Length_chk rfl ?_
  simp [scans_Length_ic, tC, tNodes, tNames, tMems, tSl]
  refine callK_pure (placed_spec hΓ c hc chs hl hs at' ha) rfl ?_
  simp
  simp [tChs, enc1_len]
  refine Length_loop (placedM c chs.l at'.l) (placedM_small _ _ _) chs hl hs (placedM_len _ _ _) (placedErr c chs.l at'.l) ?_ chs.l.length 0 (by omega)
  by_cases h : placedErr c chs.l at'.l = 0 <;> simp [h, scans_Length_rv]
end Go.Lg

/- shorter and Shorten. Conditions: none. -/
set_option linter.unusedSimpArgs false
set_option linter.unusedVariables false
set_option maxRecDepth 100000
namespace Go.Lg
open Go Go.Proofs
variable {Γ : Tables}

def kLoop (m : List (Int × Pnt)) (best : Int) (i : Nat) : Nat → Nat → List Int → Sum (Int × List Int) (List Int)
  | 0, _, l => .inr l
  | f + 1, k, l => if lenS m (revP l i (k + 1 - i)) < best then .inl (lenS m (revP l i (k + 1 - i)), revP l i (k + 1 - i)) else kLoop m best i f (k + 1) (revP (revP l i (k + 1 - i)) i (k + 1 - i))
def iLoop (m : List (Int × Pnt)) (best : Int) (n : Nat) : Nat → Nat → List Int → Sum (Int × List Int) (List Int)
  | 0, _, l => .inr l
  | f + 1, i, l => match kLoop m best i (n - (i + 1)) (i + 1) l with
    | .inl r => .inl r
    | .inr l' => iLoop m best n f (i + 1) l'
def shortS (m : List (Int × Pnt)) (n : Nat) : Nat → Int → List Int → List Int
  | 0, _, l => l
  | f + 1, best, l => match iLoop m best n n 0 l with
    | .inl r => shortS m n f r.1 r.2
    | .inr l' => l'

theorem revP_len {l : List Int} {a b : Nat} : (revP l a b).length = l.length := revL_len

/-- Lists that come back have the same length. -/
def lenOk (n : Nat) : Sum (Int × List Int) (List Int) → Prop
  | .inl r => r.2.length = n
  | .inr l => l.length = n
theorem kLoop_len {m : List (Int × Pnt)} {best : Int} {i : Nat} : ∀ {f k : Nat} {l : List Int}, lenOk l.length (kLoop m best i f k l)
  | 0, _, _ => rfl
  | f + 1, k, l => by
    simp only [kLoop]
    split
    · exact revP_len
    · have := kLoop_len (m := m) (best := best) (i := i) (f := f) (k := k + 1) (l := revP (revP l i (k + 1 - i)) i (k + 1 - i))
      rw [revP_len, revP_len] at this; exact this
theorem iLoop_len {m : List (Int × Pnt)} {best : Int} {n : Nat} : ∀ {f i : Nat} {l : List Int}, lenOk l.length (iLoop m best n f i l)
  | 0, _, _ => rfl
  | f + 1, i, l => by
    simp only [iLoop]
    have h := kLoop_len (m := m) (best := best) (i := i) (f := n - (i + 1)) (k := i + 1) (l := l)
    split
    · rename_i r hr; rw [hr] at h; exact h
    · rename_i l' hr
      rw [hr] at h
      have := iLoop_len (m := m) (best := best) (n := n) (f := f) (i := i + 1) (l := l')
      rw [show l'.length = l.length from h] at this; exact this
/-- An improvement is one. -/
theorem kLoop_lt {m : List (Int × Pnt)} {best : Int} {i : Nat} {r : Int × List Int} : ∀ {f k : Nat} {l : List Int}, kLoop m best i f k l = .inl r → r.1 < best ∧ r.1 = lenS m r.2
  | 0, _, _, h => by simp [kLoop] at h
  | f + 1, k, l, h => by
    simp only [kLoop] at h
    split at h
    · rename_i hlt; simp only [Sum.inl.injEq] at h; subst h; exact ⟨hlt, rfl⟩
    · exact kLoop_lt h
theorem iLoop_lt {m : List (Int × Pnt)} {best : Int} {n : Nat} {r : Int × List Int} : ∀ {f i : Nat} {l : List Int}, iLoop m best n f i l = .inl r → r.1 < best ∧ r.1 = lenS m r.2
  | 0, _, _, h => by simp [iLoop] at h
  | f + 1, i, l, h => by
    simp only [iLoop] at h
    split at h
    · rename_i r' hr; simp only [Sum.inl.injEq] at h; subst h; exact kLoop_lt hr
    · exact iLoop_lt h

theorem k_loop {Q : AX → St → Prop} (m : List (Int × Pnt)) (hm : Small m) (n : Nat) (hn : n ≤ 1000000000) (best : Int) (i : Nat) (R : Sum (Int × List Int) (List Int))
    (h0 : ∀ l, R = .inr l → Q (.exit 4) ⟨[(0, .ls 10007 0 n (some n)), (1, .t (.mp (atM m))), (5, .t (tI best)), (6, .t (tI i)), (7, .t (tI (max n (i + 1) : Nat))), (16, .t (tI n)), (17, .t (tI i)), (25, .t (tB false))], [(10007, .sl 3 1 (ints l))]⟩)
    (h1 : ∀ r, R = .inl r → Q (.exit 1) ⟨[(0, .ls 10007 0 n (some n)), (1, .t (.mp (atM m))), (5, .t (tI r.1))], [(10007, .sl 3 1 (ints r.2))]⟩) : ∀ (f k : Nat) (l : List Int), f + k = max n (i + 1) → i < k → l.length = n → kLoop m best i f k l = R →
    run Tryd.prog Γ scans_shorter_l1 Q ⟨[(0, .ls 10007 0 n (some n)), (1, .t (.mp (atM m))), (5, .t (tI best)), (6, .t (tI i)), (7, .t (tI k)), (16, .t (tI n)), (17, .t (tI i))], [(10007, .sl 3 1 (ints l))]⟩
  | 0, k, l, h, hik, hl, hR => by
    refine scans_shorter_l1_run fun K hK => ?_
    have h2 : ¬ k < n := by omega
    simp [h2]
    have h3 : k = max n (i + 1) := by omega
    subst h3
    simp only [kLoop] at hR
    exact_mod_cast h0 l hR.symm
  | f + 1, k, l, h, hik, hl, hR => by
    refine scans_shorter_l1_run fun K hK => ?_
    have h2 : k < n := by omega
    have hi2 : i < n := by omega
    simp only [kLoop] at hR
    have hr1 := reverse_h (Γ := Γ) 3 i (k + 1 - i) (some (n - i)) l (by omega) (by omega) (by omega)
    generalize hlr : revP l i (k + 1 - i) = lr at hr1 hR
    have hlrn : lr.length = n := by rw [← hlr, revP_len, hl]
    have hr2 := reverse_h (Γ := Γ) 3 i (k + 1 - i) (some (n - i)) lr (by omega) (by omega) (by omega)
    have e1 := length_spec (Γ := Γ) m hm lr (some n) none (by omega)
    have hle := lenS_le hm lr
    have htk : (ints lr).take n = ints lr := by rw [← hlrn]; simp
    have hk1 : ((k : Int) + 1).toNat = k + 1 := by omega
    simp (disch := omega) [h2, wrap_i64, hk1]
    refine ⟨by omega, _, _, hr1, ?_⟩
    simp [enc1_len, hlrn, hl]
    refine callK_fresh e1 (by simp [reify, htk]) ?_
    by_cases hlt : lenS m lr < best
    · rw [if_pos hlt] at hR
      simp [hlt]
      exact h1 _ hR.symm
    · rw [if_neg hlt] at hR
      simp (disch := omega) [hlt, wrap_i64, hk1]
      refine ⟨by omega, _, _, hr2, ?_⟩
      simp (disch := omega) [enc1_len, hlrn, revP_len, wrap_i64]
      refine ⟨rfl, ?_⟩
      rw [hK]
      exact_mod_cast k_loop m hm n hn best i R h0 h1 f (k + 1) _ (by omega) (by omega) (by rw [revP_len, hlrn]) hR

theorem i_loop {Q : AX → St → Prop} (m : List (Int × Pnt)) (hm : Small m) (n : Nat) (hn : n ≤ 1000000000) (best : Int) (R : Sum (Int × List Int) (List Int))
    (h0 : ∀ l, R = .inr l → Q (.exit 2) ⟨[(0, .ls 10007 0 n (some n)), (1, .t (.mp (atM m))), (5, .t (tI best)), (16, .t (tI n)), (17, .t (tI n)), (18, .t (tB false))], [(10007, .sl 3 1 (ints l))]⟩)
    (h1 : ∀ r, R = .inl r → Q (.exit 1) ⟨[(0, .ls 10007 0 n (some n)), (1, .t (.mp (atM m))), (5, .t (tI r.1))], [(10007, .sl 3 1 (ints r.2))]⟩) : ∀ (f i : Nat) (l : List Int), f + i = n → l.length = n → iLoop m best n f i l = R →
    run Tryd.prog Γ scans_shorter_l3 Q ⟨[(0, .ls 10007 0 n (some n)), (1, .t (.mp (atM m))), (5, .t (tI best)), (16, .t (tI n)), (17, .t (tI i))], [(10007, .sl 3 1 (ints l))]⟩
  | 0, i, l, h, hl, hR => by
    refine scans_shorter_l3_run fun K hK => ?_
    have h2 : ¬ i < n := by omega
    simp [h2]
    have h3 : i = n := by omega
    subst h3
    exact h0 l hR.symm
  | f + 1, i, l, h, hl, hR => by
    refine scans_shorter_l3_run fun K hK => ?_
    have h2 : i < n := by omega
    simp only [iLoop] at hR
    simp (disch := omega) [h2, wrap_i64]
    have hk := fun Q h0 h1 => k_loop (Γ := Γ) (Q := Q) m hm n hn best i (kLoop m best i (n - (i + 1)) (i + 1) l) h0 h1 (n - (i + 1)) (i + 1) l (by omega) (by omega) hl rfl
    have hlen := kLoop_len (m := m) (best := best) (i := i) (f := n - (i + 1)) (k := i + 1) (l := l)
    generalize kLoop m best i (n - (i + 1)) (i + 1) l = S at hk hR hlen
    refine hk _ (fun l' hS => ?_) (fun r hS => ?_)
    · subst hS
      simp only at hR
      simp (disch := omega) [wrap_i64]
      rw [hK]
      have h5 : l'.length = l.length := hlen
      exact_mod_cast i_loop m hm n hn best R h0 h1 f (i + 1) l' (by omega) (by omega) hR
    · subst hS
      simp only at hR
      simp
      exact h1 r hR.symm

theorem again_loop {Q : AX → St → Prop} (m : List (Int × Pnt)) (hm : Small m) (n : Nat) (hn : n ≤ 1000000000) (R : List Int)
    (h0 : Q .ret ⟨[(4, .ls 10007 0 n (some n))], [(10007, .sl 3 1 (ints R))]⟩) : ∀ (f : Nat) (best : Int) (l : List Int), best < f → best = lenS m l → l.length = n → shortS m n f best l = R →
    run Tryd.prog Γ scans_shorter_l5 Q ⟨[(0, .ls 10007 0 n (some n)), (1, .t (.mp (atM m))), (5, .t (tI best))], [(10007, .sl 3 1 (ints l))]⟩
  | 0, best, l, hb, he, hl, hR => by
    have := (lenS_le hm l).1
    omega
  | f + 1, best, l, hb, he, hl, hR => by
    refine scans_shorter_l5_run fun K hK => ?_
    simp only [shortS] at hR
    simp
    have hi := fun Q h0 h1 => i_loop (Γ := Γ) (Q := Q) m hm n hn best (iLoop m best n n 0 l) h0 h1 n 0 l (by omega) hl rfl
    have hlen := iLoop_len (m := m) (best := best) (n := n) (f := n) (i := 0) (l := l)
    have hlt := @iLoop_lt m best n
    have hlt2 : ∀ r, iLoop m best n n 0 l = .inl r → r.1 < best ∧ r.1 = lenS m r.2 := fun r hr => hlt hr
    generalize iLoop m best n n 0 l = S at hi hR hlen hlt2
    refine hi _ (fun l' hS => ?_) (fun r hS => ?_)
    · subst hS
      simp only at hR
      subst hR
      simp
      exact h0
    · subst hS
      simp only at hR
      simp
      rw [hK]
      obtain ⟨h5, h6⟩ := hlt2 r rfl
      have h7 : r.2.length = l.length := hlen
      exact again_loop m hm n hn R h0 f r.1 r.2 (by omega) h6 (by omega) hR

def shorterL (m : List (Int × Pnt)) (l : List Int) : List Int := shortS m l.length ((lenS m l).toNat + 1) (lenS m l) l

theorem shorter_spec (m : List (Int × Pnt)) (hm : Small m) (l : List Int) (cap : Option Nat) (hl : l.length ≤ 1000000000) (hne : l ≠ []) (nl : Option Bool) (hnl : nl ≠ some true) : FreshCalls Tryd.prog Γ 51 [.sl (ints l) cap nl, .mp (atM m)] (.sl (ints (shorterL m l)) (some l.length) none) := by
  refine run_freshQ scans_shorter_chk rfl ?_
  have hc := clone_int_h (Γ := Γ) l cap hl hne nl hnl
  have hp := clip_int_h (Γ := Γ) 3 (ints l) l.length none enc1_wid
  have e1 := length_spec (Γ := Γ) m hm l (some l.length) none hl
  have hle := lenS_le hm l
  have hsl : ∀ (f : Nat) (b : Int) (x : List Int), x.length = l.length → (shortS m l.length f b x).length = l.length := by
    intro f
    induction f with
    | zero => intro b x hx; exact hx
    | succ f ih =>
      intro b x hx
      simp only [shortS]
      have h := iLoop_len (m := m) (best := b) (n := l.length) (f := l.length) (i := 0) (l := x)
      split
      · rename_i r hr; rw [hr] at h; exact ih _ _ ((show r.2.length = x.length from h).trans hx)
      · rename_i r hr; rw [hr] at h; exact (show r.length = x.length from h).trans hx
  have hsr : (shorterL m l).length = l.length := hsl _ _ _ rfl
  have htk : (ints (shorterL m l)).take l.length = ints (shorterL m l) := by rw [← hsr]; simp
  simp [scans_shorter_ic]
  refine ⟨_, _, hc, ?_⟩
  simp [enc1_len]
  refine ⟨_, _, hp, ?_⟩
  simp [enc1_len]
  refine callK_fresh e1 (by simp [reify]) ?_
  simp
  refine again_loop m hm l.length hl (shorterL m l) ?_ ((lenS m l).toNat + 1) (lenS m l) l (by omega) rfl rfl rfl
  simp [scans_shorter_rv, htk]
end Go.Lg

/- Shorten, Balance. Conditions: none. -/
set_option linter.unusedSimpArgs false
set_option linter.unusedVariables false
set_option maxRecDepth 100000
namespace Go.Lg
open Go Go.Proofs
variable {Γ : Tables}

theorem tSl_wid {l : List (Sl Int)} : wid 1 (enc1 tSl l) := enc1_wid
def shortAll (m : List (Int × Pnt)) (l : List (Sl Int)) : List (Sl Int) := l.map fun s => ⟨shorterL m s.l, some s.l.length, none⟩

theorem goElems_ne {c : Cir} : ∀ {l : List (Sl Int)} {done d : List Int}, goChains c done l = some d → ∀ s ∈ l, s.l ≠ []
  | [], _, _, _, s, hs => by cases hs
  | x :: l, done, d, h, s, hs => by
    simp only [goChains] at h
    split at h
    · cases h
    rename_i hx
    rw [Option.bind_eq_some_iff] at h
    obtain ⟨d', _, h2⟩ := h
    rcases List.mem_cons.1 hs with rfl | hs
    · exact hx
    · exact goElems_ne h2 s hs
theorem checkErr_ne {c : Cir} {chs : List (Sl Int)} (h : checkErr c chs = 0) : ∀ s ∈ chs, s.l ≠ [] := by
  unfold checkErr at h
  split at h
  · rename_i h'; exact absurd h h'
  split at h
  · cases h
  split at h
  · cases h
  rename_i d hd
  exact goElems_ne hd
theorem placedErr_check {c : Cir} {chs : List (Sl Int)} {at' : List Pnt} (h : placedErr c chs at' = 0) : checkErr c chs = 0 := by
  unfold placedErr at h
  split at h
  · rename_i h'; exact absurd h h'
  · rename_i h'; simpa using h'

theorem Shorten_loop {Q : AX → St → Prop} (m : List (Int × Pnt)) (hm : Small m) (chs : Sl (Sl Int)) (hl : chs.l.length ≤ 64) (hs : ∀ s ∈ chs.l, s.l.length ≤ 1000000000 ∧ s.l ≠ [] ∧ s.nl ≠ some true)
    (h0 : Q (.exit 0) ⟨[(8, .t (.mp (atM m))), (10, .ls 34 0 chs.l.length none), (23, .t (tChs chs)), (24, .t (tI chs.l.length)), (25, .t (tI chs.l.length)), (26, .t (tB false))], [(34, .sl 31 1 (enc1 tSl (shortAll m chs.l)))]⟩) : ∀ (kk i : Nat), kk + i = chs.l.length →
    run Tryd.prog Γ scans_Shorten_l1 Q ⟨[(8, .t (.mp (atM m))), (10, .ls 34 0 i none), (23, .t (tChs chs)), (24, .t (tI chs.l.length)), (25, .t (tI i))], [(34, .sl 31 1 (enc1 tSl (shortAll m (chs.l.take i))))]⟩
  | 0, i, h => by
    refine scans_Shorten_l1_run fun K hK => ?_
    have h2 : ¬ i < chs.l.length := by omega
    have h3 : i = chs.l.length := by omega
    simp [h2]
    subst h3
    simpa using h0
  | kk + 1, i, h => by
    refine scans_Shorten_l1_run fun K hK => ?_
    have h2 : i < chs.l.length := by omega
    obtain ⟨hsl, hne, hnl⟩ := hs _ (List.getElem_mem h2)
    have ht : chs.l.take (i + 1) = chs.l.take i ++ [chs.l[i]] := by rw [List.take_add_one]; simp [h2]
    have hsn : shortAll m (chs.l.take (i + 1)) = shortAll m (chs.l.take i) ++ [⟨shorterL m chs.l[i].l, some chs.l[i].l.length, none⟩] := by rw [ht, shortAll, List.map_append]; rfl
    have hln : (shortAll m (chs.l.take i)).length = i := by simp [shortAll]; omega
    have e1 := shorter_spec (Γ := Γ) m hm chs.l[i].l chs.l[i].cap hsl hne chs.l[i].nl hnl
    have ih := Shorten_loop m hm chs hl hs h0 kk (i + 1) (by omega)
    rw [hsn] at ih
    have htk : (enc1 tSl (shortAll m (chs.l.take i))).take i = enc1 tSl (shortAll m (chs.l.take i)) := List.take_of_length_le (by rw [enc1_len, hln]; exact Nat.le_refl i)
    have hw : wid 1 [[T.sl (ints (shorterL m chs.l[i].l)) (some chs.l[i].l.length) none]] := by intro e he; simp at he; subst he; rfl
    simp (disch := omega) [h2, tChs, enc1_len, enc1_get Sl.d, enc1_wid, tSl]
    refine callK_fresh e1 rfl ?_
    simp (disch := omega) [enc1_wid, enc1_len, hln, htk, hw, wrap_i64]
    refine ⟨by omega, ?_⟩
    rw [hK]
    have e2 : enc1 tSl (shortAll m (chs.l.take i)) ++ [[T.sl (ints (shorterL m chs.l[i].l)) (some chs.l[i].l.length) none]] = enc1 tSl (shortAll m (chs.l.take i) ++ [⟨shorterL m chs.l[i].l, some chs.l[i].l.length, none⟩]) := enc1_snoc (f := tSl) (x := ⟨shorterL m chs.l[i].l, some chs.l[i].l.length, none⟩)
    rw [e2]
    simpa [tChs] using ih

theorem Shorten_spec (hΓ : GOk Γ) (c : Cir) (hc : COk c) (chs : Sl (Sl Int)) (hl : chs.l.length ≤ 1000000000) (hs : ∀ s ∈ chs.l, s.l.length ≤ 1000000000 ∧ s.nl ≠ some true) (at' : Sl Pnt) (ha : at'.l.length ≤ 1000000000) :
    PureCalls Tryd.prog Γ 22 [.agg (tC c), tChs chs, tPts at'] (.tup [if placedErr c chs.l at'.l = 0 then tChs ⟨shortAll (placedM c chs.l at'.l) chs.l, some chs.l.length, none⟩ else .sl [] (some 0) (some true), tI (placedErr c chs.l at'.l)]) := by
  refine run_pureQ scans_Shorten_chk rfl ?_
  simp [scans_Shorten_ic, tC, tNodes, tNames, tMems, tSl]
  refine callK_pure (placed_spec hΓ c hc chs hl (fun s h => (hs s h).1) at' ha) rfl ?_
  simp
  by_cases h : placedErr c chs.l at'.l = 0
  case neg => simp [h, Later, scans_Shorten_rv]
  have hck := placedErr_check h
  have h64 := checkErr_len hck
  have hne := checkErr_ne hck
  have hlp := fun Q h0 => Shorten_loop (Γ := Γ) (Q := Q) (placedM c chs.l at'.l) (placedM_small _ _ _) chs h64 (fun s hq => ⟨(hs s hq).1, hne s hq, (hs s hq).2⟩) h0 chs.l.length 0 (by omega)
  simp [h, Later, tChs, enc1_len]
  simp only [shortAll, List.take_zero, List.map_nil, enc1_nil, tChs] at hlp
  refine hlp _ ?_
  have hln : (shortAll (placedM c chs.l at'.l) chs.l).length = chs.l.length := by simp [shortAll]
  have htk : (enc1 tSl (chs.l.map fun s => (⟨shorterL (placedM c chs.l at'.l) s.l, some s.l.length, none⟩ : Sl Int))).take chs.l.length = enc1 tSl (chs.l.map fun s => (⟨shorterL (placedM c chs.l at'.l) s.l, some s.l.length, none⟩ : Sl Int)) := List.take_of_length_le (by simp [enc1])
  simp [Reg.closed, St.freeze, frzRef, frz1, frz0, reify, frzReg, htk]
  refine callK_pure (clip_ints _ none none enc1_wid) rfl ?_
  simp [scans_Shorten_rv, enc1_len, shortAll, h]

theorem clone_int_p (l : List Int) (cap : Option Nat) (hl : l.length ≤ 1000000000) (h0 : l ≠ []) : FreshCalls Tryd.prog Γ 43 [.sl (ints l) cap none] (.sl (ints l) none none) := by
  refine run_freshQ slices_Clone_int_chk rfl ?_
  have h1 : ints l ≠ [] := by simpa [enc1] using h0
  simp (disch := omega) [slices_Clone_int_ic, slices_Clone_int_rv, enc1_wid, enc1_len, h1, Later]
  omega

/-- n chains, what is left to be dealt. -/
def balS : Nat → List Int → List (Sl Int)
  | 0, _ => []
  | n + 1, l => ⟨l.take ((l.length + n) / (n + 1)), some ((l.length + n) / (n + 1)), none⟩ :: balS n (l.drop ((l.length + n) / (n + 1)))
theorem balS_len : ∀ {n : Nat} {l : List Int}, (balS n l).length = n
  | 0, _ => rfl
  | n + 1, l => by simp [balS, balS_len]

theorem ceil_div (a n : Nat) : (if 0 < a % (n + 1) then a / (n + 1) + 1 else a / (n + 1)) = (a + n) / (n + 1) := by
  have h1 := Nat.div_add_mod a (n + 1)
  have h2 := Nat.mod_lt a (show 0 < n + 1 by omega)
  symm
  split
  · rw [Nat.div_eq_of_lt_le]
    · rw [Nat.add_mul, Nat.mul_comm]; omega
    · rw [Nat.add_mul, Nat.add_mul, Nat.mul_comm]; omega
  · rw [Nat.div_eq_of_lt_le]
    · rw [Nat.mul_comm]; omega
    · rw [Nat.add_mul, Nat.mul_comm]; omega

theorem bal_loop {Q : AX → St → Prop} (n : Nat) (hn : n ≤ 64) (R : List (Sl Int))
    (h0 : ∀ l c, Q (.exit 1) ⟨[(1, .t (tI n)), (7, .t (.sl (ints l) c none)), (8, .ls 55 0 n none), (29, .t (tI n)), (30, .t (tI n)), (31, .t (tB false))], [(55, .sl 31 1 (enc1 tSl R))]⟩) :
    ∀ (k i : Nat) (l : List Int) (cap : Option Nat) (out : List (Sl Int)), k + i = n → k ≤ l.length → l.length ≤ 1000000000 → out.length = i → out ++ balS k l = R →
    run Tryd.prog Γ scans_Balance_l1 Q ⟨[(1, .t (tI n)), (7, .t (.sl (ints l) cap none)), (8, .ls 55 0 i none), (29, .t (tI n)), (30, .t (tI i))], [(55, .sl 31 1 (enc1 tSl out))]⟩
  | 0, i, l, cap, out, h, hk, hl, ho, hR => by
    refine scans_Balance_l1_run fun K hK => ?_
    have h2 : ¬ i < n := by omega
    have h3 : i = n := by omega
    simp [h2]
    subst h3
    simp only [balS, List.append_nil] at hR
    subst hR
    exact h0 _ _
  | k + 1, i, l, cap, out, h, hk, hl, ho, hR => by
    refine scans_Balance_l1_run fun K hK => ?_
    have h2 : i < n := by omega
    have hni : (n : Int) - i = ((k + 1 : Nat) : Int) := by omega
    have hq : ((l.length : Int).tdiv ((k + 1 : Nat) : Int)) = ((l.length / (k + 1) : Nat) : Int) := by
      rw [Int.natCast_ediv]; exact Int.tdiv_eq_ediv_of_nonneg (by omega)
    have hm : ((l.length : Int).tmod ((k + 1 : Nat) : Int)) = ((l.length % (k + 1) : Nat) : Int) := by
      rw [Int.natCast_emod]; exact Int.tmod_eq_emod_of_nonneg (by omega)
    have hdl : l.length / (k + 1) ≤ l.length := Nat.div_le_self _ _
    have hmany : (l.length + k) / (k + 1) ≤ l.length := by
      rw [Nat.div_le_iff_le_mul_add_pred (by omega)]
      have : l.length ≤ (k + 1) * l.length := Nat.le_mul_of_pos_left _ (by omega)
      omega
    have hpos : 1 ≤ (l.length + k) / (k + 1) := by
      rw [Nat.le_div_iff_mul_le (by omega)]; omega
    have hkeep : k ≤ l.length - (l.length + k) / (k + 1) := by
      have h1 := Nat.div_mul_le_self (l.length + k) (k + 1)
      have h5 : (l.length + k) / (k + 1) * (k + 1) = (l.length + k) / (k + 1) * k + (l.length + k) / (k + 1) := by rw [Nat.mul_add, Nat.mul_one]
      rcases Nat.eq_zero_or_pos k with h6 | h6
      · omega
      · have h7 : k ≤ (l.length + k) / (k + 1) * k := Nat.le_mul_of_pos_left _ (by omega)
        -- with at least one a chain, what is left suffices
        have h8 : (l.length + k) / (k + 1) ≤ l.length - k := by
          rw [Nat.div_le_iff_le_mul_add_pred (by omega)]
          have h9 : (k + 1) * (l.length - k) = k * (l.length - k) + (l.length - k) := by rw [Nat.add_mul, Nat.one_mul]
          have h10 : k ≤ k * (l.length - k) := Nat.le_mul_of_pos_right _ (by omega)
          omega
        omega
    simp only [balS] at hR
    have hcd := ceil_div l.length k
    generalize hmn : (l.length + k) / (k + 1) = many at *
    have hne : l.take many ≠ [] := by
      intro e
      have := congrArg List.length e
      rw [List.length_take, List.length_nil] at this
      omega
    have hlt : (l.take many).length = many := by simp; omega
    have e1 := clone_int_p (Γ := Γ) (l.take many) cap (by omega) hne
    have e2 := clip_int (Γ := Γ) (ints (l.take many)) none none enc1_wid
    rw [enc1_len, hlt] at e2
    have ih := bal_loop n hn R h0 k (i + 1) (l.drop many) (cap.map (· - many)) (out ++ [⟨l.take many, some many, none⟩]) (by omega) (by simp; omega) (by simp; omega) (by simp [ho]) (by rw [← hR]; simp)
    have htk : (enc1 tSl out).take i = enc1 tSl out := List.take_of_length_le (by rw [enc1_len, ho]; exact Nat.le_refl i)
    have hw : wid 1 [[T.sl (ints (l.take many)) (some many) none]] := by intro e he; simp at he; subst he; rfl
    have hsn : enc1 tSl out ++ [[T.sl (ints (l.take many)) (some many) none]] = enc1 tSl (out ++ [⟨l.take many, some many, none⟩]) := enc1_snoc (f := tSl) (x := ⟨l.take many, some many, none⟩)
    have hdk : ((k + 1 : Nat) : Int) ≠ 0 := by omega
    generalize l.length / (k + 1) = q at hq hdl hcd
    generalize l.length % (k + 1) = r at hm hcd
    simp (disch := omega) [h2, wrap_i64, enc1_len, hni, hq, hm, -Int.natCast_ediv, -Int.natCast_emod, -Int.natCast_add]
    refine ⟨fun hc => ?_, fun hc => ?_⟩
    · have hr0 : 0 < r := by omega
      rw [if_pos hr0] at hcd
      have hqm : (q : Int) + 1 = many := by omega
      simp (disch := omega) [Later, wrap_i64, enc1_len, enc1_wid, enc1_take, hqm]
      refine ⟨hmany, ?_⟩
      refine callK_fresh e1 rfl ?_
      simp
      refine callK_pure e2 rfl ?_
      simp (disch := omega) [enc1_len, enc1_wid, ho, htk, hw, wrap_i64, enc1_drop, hqm]
      refine ⟨by omega, by omega, ?_⟩
      rw [hK, hsn]
      rw [List.take_of_length_le (by rw [enc1_len, List.length_drop]; exact Nat.le_refl _)]
      simpa using ih
    · have hr0 : ¬ 0 < r := by omega
      rw [if_neg hr0] at hcd
      have hqm : (q : Int) = many := by omega
      simp (disch := omega) [Later, wrap_i64, enc1_len, enc1_wid, enc1_take, hqm]
      refine ⟨by omega, ?_⟩
      refine callK_fresh e1 rfl ?_
      simp
      refine callK_pure e2 rfl ?_
      simp (disch := omega) [enc1_len, enc1_wid, ho, htk, hw, wrap_i64, enc1_drop, hqm]
      refine ⟨by omega, by omega, ?_⟩
      rw [hK, hsn]
      rw [List.take_of_length_le (by rw [enc1_len, List.length_drop]; exact Nat.le_refl _)]
      simpa using ih

def balErr (c : Cir) (n : Int) : Int := if plainErr c ≠ 0 then plainErr c else if n < 1 then 1 else if 64 < n then 3 else 0
def balN (c : Cir) (n : Int) : Nat := min n.toNat (states c).length
def bal (c : Cir) (n : Int) : List (Sl Int) := balS (balN c n) (states c)

theorem states_len (c : Cir) : (states c).length ≤ c.nodes.l.length := ofL_len _ _ _

theorem Balance_spec (hΓ : GOk Γ) (c : Cir) (hc : COk c) (n : Int) :
    PureCalls Tryd.prog Γ 13 [.agg (tC c), tI n] (.tup [if balErr c n = 0 then tChs ⟨bal c n, some (bal c n).length, none⟩ else .sl [] (some 0) (some true), tI (balErr c n)]) := by
  refine run_pureQ scans_Balance_chk rfl ?_
  simp [scans_Balance_ic, tC, tNodes, tNames, tMems, tSl]
  refine callK_fresh (plain_spec hΓ c hc) rfl ?_
  by_cases h1 : plainErr c = 0
  case neg =>
    have : balErr c n = plainErr c := by unfold balErr; rw [if_pos h1]
    simp [h1, scans_Balance_rv, this]
  have hb : balErr c n = if n < 1 then 1 else if 64 < n then 3 else 0 := by unfold balErr; rw [if_neg (show ¬ (plainErr c ≠ 0) by simp [h1])]
  by_cases h2 : n < 1
  · rw [if_pos h2] at hb
    simp [h1, h2, scans_Balance_rv, hb]
  rw [if_neg h2] at hb
  by_cases h3 : 64 < n
  · rw [if_pos h3] at hb
    simp [h1, h2, h3, scans_Balance_rv, hb]
  rw [if_neg h3] at hb
  have hsl := states_len c
  have hcn := hc.nodes
  have hmin : (if ((states c).length : Int) < n then ((states c).length : Int) else n) = (balN c n : Nat) := by
    unfold balN; split <;> omega
  have hbl := fun Q h0 => bal_loop (Γ := Γ) (Q := Q) (balN c n) (by unfold balN; omega) (bal c n) h0 (balN c n) 0 (states c) (some (states c).length) [] (by omega) (by unfold balN; omega) (by omega) rfl rfl
  have hlen : (bal c n).length = balN c n := balS_len
  simp [h1, h2, h3]
  refine callK_pure (states_spec c hc) rfl ?_
  simp [enc1_len, hmin]
  refine hbl _ fun l cp => ?_
  have htk : (enc1 tSl (bal c n)).take (balN c n) = enc1 tSl (bal c n) := List.take_of_length_le (by rw [enc1_len, hlen]; exact Nat.le_refl _)
  simp [Reg.closed, St.freeze, frzRef, frz1, frz0, reify, frzReg, htk]
  refine callK_pure (clip_ints _ none none enc1_wid) rfl ?_
  simp [scans_Balance_rv, enc1_len, hb, tChs]
end Go.Lg

/- The examples of the chapter. Conditions: none. -/
set_option linter.unusedSimpArgs false
set_option linter.unusedVariables false
set_option maxRecDepth 100000
namespace Go.Lg
open Go Go.Proofs
variable {Γ : Tables}

def rowNd : Nat → Nd
  | 0 => ⟨0, ⟨[], some 0, some true⟩, 0, 0⟩
  | _ + 1 => ⟨14, ⟨[0], some 1, some false⟩, 0, 0⟩
def rowNm : Nat → List UInt8
  | 0 => [97]
  | i + 1 => [102, UInt8.ofNat (48 + i)]
def rowC' (n : Nat) : Cir := ⟨⟨(List.range (n + 1)).map rowNd, none, none⟩, ⟨(List.range (n + 1)).map rowNm, none, none⟩, ⟨[], some 0, some true⟩, ⟨[0], some 1, some false⟩⟩

theorem row_loop {Q : AX → St → Prop} (n : Nat) (hn : n ≤ 9) (e2 : List AV)
    (h0 : Q (.exit 0) ⟨[(0, .t (tI n)), (2, .lp 2 0 0), (3, .lp 3 0 0), (4, .t (tI n)), (12, .t (tB false))], [(2, .bx [.t (.sl [] (some 0) (some true)), .t (.sl [] (some 0) (some true)), .t (.sl [] (some 0) (some true)), .t (.sl [] (some 0) (some true))]), (3, .bx [.ls 20 0 (n + 1) none, .ls 32 0 (n + 1) none, .t (.sl [] (some 0) (some true)), .t (.sl [[tI 0]] (some 1) (some false))]), (20, .sl 48 4 (encN tNd ((List.range (n + 1)).map rowNd))), (32, .sl 9 1 (enc1 tS ((List.range (n + 1)).map rowNm)))]⟩) :
    ∀ (k i : Nat), k + i = n →
    run Tryd.prog Γ law34_row_l1 Q ⟨[(0, .t (tI n)), (2, .lp 2 0 0), (3, .lp 3 0 0), (4, .t (tI i))], [(2, .bx [.t (.sl [] (some 0) (some true)), .t (.sl [] (some 0) (some true)), .t (.sl [] (some 0) (some true)), .t (.sl [] (some 0) (some true))]), (3, .bx [.ls 20 0 (i + 1) none, .ls 32 0 (i + 1) none, .t (.sl [] (some 0) (some true)), .t (.sl [[tI 0]] (some 1) (some false))]), (20, .sl 48 4 (encN tNd ((List.range (i + 1)).map rowNd))), (32, .sl 9 1 (enc1 tS ((List.range (i + 1)).map rowNm)))]⟩
  | 0, i, h => by
    refine law34_row_l1_run fun K hK => ?_
    have h2 : ¬ i < n := by omega
    have h3 : i = n := by omega
    simp [h2]
    subst h3
    exact h0
  | k + 1, i, h => by
    refine law34_row_l1_run fun K hK => ?_
    have h2 : i < n := by omega
    have hmod : (i : Int).tmod 10 = i := by
      rw [Int.tmod_eq_emod_of_nonneg (by omega)]; omega
    have ih := row_loop n hn e2 h0 k (i + 1) (by omega)
    have hr : List.range (i + 1 + 1) = List.range (i + 1) ++ [i + 1] := List.range_succ
    have hw4 : wid 4 [[tK 14, T.sl [[tI 0]] (some 1) (some false), tI 0, tI 0]] := by intro e he; simp at he; subst he; rfl
    have ht1 : (encN tNd ((List.range (i + 1)).map rowNd)).take (i + 1) = encN tNd ((List.range (i + 1)).map rowNd) := List.take_of_length_le (by simp [encN])
    have ht2 : (enc1 tS ((List.range (i + 1)).map rowNm)).take (i + 1) = enc1 tS ((List.range (i + 1)).map rowNm) := List.take_of_length_le (by simp [enc1])
    have hi9 : i = 0 ∨ i = 1 ∨ i = 2 ∨ i = 3 ∨ i = 4 ∨ i = 5 ∨ i = 6 ∨ i = 7 ∨ i = 8 := by omega
    have hx : (ByteArray.mk #[48, 49, 50, 51, 52, 53, 54, 55, 56, 57]).extract i (i + 1) = ByteArray.mk #[UInt8.ofNat (48 + i)] := by
      rcases hi9 with rfl | rfl | rfl | rfl | rfl | rfl | rfl | rfl | rfl <;> rfl
    have hy : ∀ x : UInt8, ByteArray.mk #[102] ++ ByteArray.mk #[x] = ByteArray.mk #[102, x] := fun x => rfl
    have hs1 : (ByteArray.mk #[48, 49, 50, 51, 52, 53, 54, 55, 56, 57]).size = 10 := rfl
    have hs2 : (ByteArray.mk #[102]).size = 1 := rfl
    have hs3 : ∀ x : UInt8, (ByteArray.mk #[x]).size = 1 := fun x => rfl
    simp (disch := omega) [h2, hmod, wrap_i64, hw4, encN_len, enc1_len, tNd_wid, enc1_wid, ht1, ht2, sV, hx, hy, hs1, hs2, hs3]
    have q1 : encN tNd ((List.range (i + 1 + 1)).map rowNd) = encN tNd ((List.range (i + 1)).map rowNd) ++ [[tK 14, T.sl [[tI 0]] (some 1) (some false), tI 0, tI 0]] := by
      rw [hr, List.map_append]; simp [encN, rowNd, tNd, tSl, enc1]
    have q2 : enc1 tS ((List.range (i + 1 + 1)).map rowNm) = enc1 tS ((List.range (i + 1)).map rowNm) ++ [[T.v (Value.string { data := #[102, 48 + UInt8.ofNat i] })]] := by
      rw [hr, List.map_append]; simp [enc1, rowNm, tS, sV]
    rw [q1, q2] at ih
    refine ⟨by omega, ⟨by omega, by omega⟩, ⟨by intro e he; simp at he; subst he; rfl, by omega⟩, ?_⟩
    rw [hK]
    exact_mod_cast ih

theorem row_spec (n : Nat) (hn : n ≤ 9) : PureCalls Tryd.prog Γ 47 [tI n] (.agg (tC (rowC' n))) := by
  refine run_pureQ law34_row_chk rfl ?_
  have hl := fun Q h0 => row_loop (Γ := Γ) (Q := Q) n hn [] h0 n 0 (by omega)
  have q1 : encN tNd ((List.range (0 + 1)).map rowNd) = [[tK 0, T.sl [] (some 0) (some true), tI 0, tI 0]] := rfl
  have q2 : enc1 tS ((List.range (0 + 1)).map rowNm) = [[tS [97]]] := rfl
  rw [q1, q2] at hl
  have ht1 : (encN tNd ((List.range (n + 1)).map rowNd)).take (n + 1) = encN tNd ((List.range (n + 1)).map rowNd) := List.take_of_length_le (by simp [encN])
  have ht2 : (enc1 tS ((List.range (n + 1)).map rowNm)).take (n + 1) = enc1 tS ((List.range (n + 1)).map rowNm) := List.take_of_length_le (by simp [enc1])
  simp only [tS, sV] at hl
  simp [law34_row_ic, sV]
  refine hl _ ?_
  simp [law34_row_rv, ht1, ht2, tC, rowC', tNodes, tNames, tMems, tSl, enc1, encN]
  exact ⟨List.take_of_length_le (by simp), List.take_of_length_le (by simp)⟩

theorem rowBal : balErr (rowC' 5) 2 = 0 ∧ bal (rowC' 5) 2 = [⟨[1, 2, 3], some 3, none⟩, ⟨[4, 5], some 2, none⟩] := by
  constructor
  · decide +kernel
  · rfl
def rowCh : List (Sl Int) := [⟨[1, 2, 3], some 3, some false⟩]
def rowAt : List Pnt := [(0, 0), (5, 0), (1, 0)]
theorem rowPl : placedErr (rowC' 3) rowCh rowAt = 0 := by decide +kernel
theorem rowLen : lenTot (placedM (rowC' 3) rowCh rowAt) rowCh = 9 := by decide +kernel
theorem rowShort : shorterL (placedM (rowC' 3) rowCh rowAt) [1, 2, 3] = [2, 3, 1] := by decide +kernel
theorem rowOk (n : Nat) (hn : n ≤ 9) : COk (rowC' n) := by
  have h1 : ∀ x ∈ (rowC' n).nodes.l, 0 ≤ x.k ∧ x.k ≤ 255 ∧ x.inn.l.length ≤ 1000000000 := by
    intro x hx
    obtain ⟨i, _, rfl⟩ := List.mem_map.1 hx
    cases i <;> simp [rowNd]
  refine ⟨⟨by simp [rowC']; omega, by simp [rowC']; omega, by simp [rowC'], by simp [rowC'], fun x hx => ⟨(h1 x hx).1, (h1 x hx).2.1⟩, fun x hx => (h1 x hx).2.2, by simp [rowC']⟩, ?_⟩
  intro s hs b hb
  obtain ⟨i, hi, rfl⟩ := List.mem_map.1 hs
  have hi' := List.mem_range.1 hi
  have : i = 0 ∨ i = 1 ∨ i = 2 ∨ i = 3 ∨ i = 4 ∨ i = 5 ∨ i = 6 ∨ i = 7 ∨ i = 8 ∨ i = 9 := by omega
  rcases this with rfl | rfl | rfl | rfl | rfl | rfl | rfl | rfl | rfl | rfl <;> simp [rowNm] at hb <;> (try rcases hb with rfl | rfl) <;> (try subst hb) <;> decide

theorem lives_spec (hΓ : GOk Γ) : FreshCalls Tryd.prog Γ 16 [] (tB true) := by
  refine run_freshQ law34_lives_chk rfl ?_
  have b5 := Balance_spec hΓ (rowC' 5) (rowOk 5 (by omega)) 2
  have l3 := Length_spec hΓ (rowC' 3) (rowOk 3 (by omega)) ⟨rowCh, some 1, some false⟩ (by decide) (by decide) ⟨rowAt, some 3, some false⟩ (by decide)
  have s3 := Shorten_spec hΓ (rowC' 3) (rowOk 3 (by omega)) ⟨rowCh, some 1, some false⟩ (by decide) (by decide) ⟨rowAt, some 3, some false⟩ (by decide)
  have e1 : shortAll (placedM (rowC' 3) rowCh rowAt) rowCh = [⟨[2, 3, 1], some 3, none⟩] := by
    show [(⟨shorterL (placedM (rowC' 3) rowCh rowAt) [1, 2, 3], some 3, none⟩ : Sl Int)] = _
    rw [rowShort]
  simp only [rowPl, rowLen, rowBal, e1, if_true] at b5 l3 s3
  simp [law34_lives_ic]
  refine callK_pure (row_spec 5 (by omega)) rfl ?_
  simp
  refine callK_pure b5 rfl ?_
  simp
  refine callK_pure (row_spec 3 (by omega)) rfl ?_
  simp
  refine callK_fresh l3 rfl ?_
  simp
  refine callK_pure (row_spec 3 (by omega)) rfl ?_
  simp
  refine callK_pure s3 rfl ?_
  simp [tChs, enc1, tSl]
  simp [law34_lives_rv, wid]
end Go.Lg
