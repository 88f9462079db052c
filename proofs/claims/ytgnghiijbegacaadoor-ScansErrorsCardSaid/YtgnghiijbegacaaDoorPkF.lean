/- shorter and Shorten. Conditions: none. -/
import Derived.Test.YtgnghiijbegacaaDoorPkE
import Derived.Test.YtgnghiijbegacaaDoorPkD
import Derived.Test.YtgnghiijbegacaaDoorPkC
import Derived.Test.YtgnghiijbegacaaDoorProg
import Derived.KernelRfl
set_option linter.unusedSimpArgs false
set_option linter.unusedVariables false
set_option maxRecDepth 100000
namespace Go.Lg
open Go Go.Proofs
variable {Γ : Tables}

def kLoop (m : List (Int × Pnt)) (best : Int) (i : Nat) : Nat → Nat → List Int → Sum (Int × List Int) (List Int)
  | 0, _, l => .inr l
  | f + 1, k, l => if lenS m (revP l i (k + 1 - i)) < best then .inl (lenS m (revP l i (k + 1 - i)), revP l i (k + 1 - i)) else kLoop m best i f (k + 1) (revP (revP l i (k + 1 - i)) i (k + 1 - i))
def iLoop (m : List (Int × Pnt)) (best : Int) (n : Nat) : Nat → Nat → List Int → Sum (Int × List Int) (List Int)
  | 0, _, l => .inr l
  | f + 1, i, l => match kLoop m best i (n - (i + 1)) (i + 1) l with
    | .inl r => .inl r
    | .inr l' => iLoop m best n f (i + 1) l'
def shortS (m : List (Int × Pnt)) (n : Nat) : Nat → Int → List Int → List Int
  | 0, _, l => l
  | f + 1, best, l => match iLoop m best n n 0 l with
    | .inl r => shortS m n f r.1 r.2
    | .inr l' => l'

theorem revP_len {l : List Int} {a b : Nat} : (revP l a b).length = l.length := revL_len

/-- Lists that come back have the same length. -/
def lenOk (n : Nat) : Sum (Int × List Int) (List Int) → Prop
  | .inl r => r.2.length = n
  | .inr l => l.length = n
theorem kLoop_len {m : List (Int × Pnt)} {best : Int} {i : Nat} : ∀ {f k : Nat} {l : List Int}, lenOk l.length (kLoop m best i f k l)
  | 0, _, _ => rfl
  | f + 1, k, l => by
    simp only [kLoop]
    split
    · exact revP_len
    · have := kLoop_len (m := m) (best := best) (i := i) (f := f) (k := k + 1) (l := revP (revP l i (k + 1 - i)) i (k + 1 - i))
      rw [revP_len, revP_len] at this; exact this
theorem iLoop_len {m : List (Int × Pnt)} {best : Int} {n : Nat} : ∀ {f i : Nat} {l : List Int}, lenOk l.length (iLoop m best n f i l)
  | 0, _, _ => rfl
  | f + 1, i, l => by
    simp only [iLoop]
    have h := kLoop_len (m := m) (best := best) (i := i) (f := n - (i + 1)) (k := i + 1) (l := l)
    split
    · rename_i r hr; rw [hr] at h; exact h
    · rename_i l' hr
      rw [hr] at h
      have := iLoop_len (m := m) (best := best) (n := n) (f := f) (i := i + 1) (l := l')
      rw [show l'.length = l.length from h] at this; exact this
/-- An improvement is one. -/
theorem kLoop_lt {m : List (Int × Pnt)} {best : Int} {i : Nat} {r : Int × List Int} : ∀ {f k : Nat} {l : List Int}, kLoop m best i f k l = .inl r → r.1 < best ∧ r.1 = lenS m r.2
  | 0, _, _, h => by simp [kLoop] at h
  | f + 1, k, l, h => by
    simp only [kLoop] at h
    split at h
    · rename_i hlt; simp only [Sum.inl.injEq] at h; subst h; exact ⟨hlt, rfl⟩
    · exact kLoop_lt h
theorem iLoop_lt {m : List (Int × Pnt)} {best : Int} {n : Nat} {r : Int × List Int} : ∀ {f i : Nat} {l : List Int}, iLoop m best n f i l = .inl r → r.1 < best ∧ r.1 = lenS m r.2
  | 0, _, _, h => by simp [iLoop] at h
  | f + 1, i, l, h => by
    simp only [iLoop] at h
    split at h
    · rename_i r' hr; simp only [Sum.inl.injEq] at h; subst h; exact kLoop_lt hr
    · exact iLoop_lt h

theorem k_loop {Q : AX → St → Prop} (m : List (Int × Pnt)) (hm : Small m) (n : Nat) (hn : n ≤ 1000000000) (best : Int) (i : Nat) (R : Sum (Int × List Int) (List Int))
    (h0 : ∀ l, R = .inr l → Q (.exit 4) ⟨[(0, .ls 10007 0 n (some n)), (1, .t (.mp (atM m))), (5, .t (tI best)), (6, .t (tI i)), (7, .t (tI (max n (i + 1) : Nat))), (16, .t (tI n)), (17, .t (tI i)), (25, .t (tB false))], [(10007, .sl 3 1 (ints l))]⟩)
    (h1 : ∀ r, R = .inl r → Q (.exit 1) ⟨[(0, .ls 10007 0 n (some n)), (1, .t (.mp (atM m))), (5, .t (tI r.1))], [(10007, .sl 3 1 (ints r.2))]⟩) : ∀ (f k : Nat) (l : List Int), f + k = max n (i + 1) → i < k → l.length = n → kLoop m best i f k l = R →
    run Tryd.prog Γ scans_shorter_l1 Q ⟨[(0, .ls 10007 0 n (some n)), (1, .t (.mp (atM m))), (5, .t (tI best)), (6, .t (tI i)), (7, .t (tI k)), (16, .t (tI n)), (17, .t (tI i))], [(10007, .sl 3 1 (ints l))]⟩
  | 0, k, l, h, hik, hl, hR => by
    refine scans_shorter_l1_run fun K hK => ?_
    have h2 : ¬ k < n := by omega
    simp [h2]
    have h3 : k = max n (i + 1) := by omega
    subst h3
    simp only [kLoop] at hR
    exact_mod_cast h0 l hR.symm
  | f + 1, k, l, h, hik, hl, hR => by
    refine scans_shorter_l1_run fun K hK => ?_
    have h2 : k < n := by omega
    have hi2 : i < n := by omega
    simp only [kLoop] at hR
    have hr1 := reverse_h (Γ := Γ) 3 i (k + 1 - i) (some (n - i)) l (by omega) (by omega) (by omega)
    generalize hlr : revP l i (k + 1 - i) = lr at hr1 hR
    have hlrn : lr.length = n := by rw [← hlr, revP_len, hl]
    have hr2 := reverse_h (Γ := Γ) 3 i (k + 1 - i) (some (n - i)) lr (by omega) (by omega) (by omega)
    have e1 := length_spec (Γ := Γ) m hm lr (some n) none (by omega)
    have hle := lenS_le hm lr
    have htk : (ints lr).take n = ints lr := by rw [← hlrn]; simp
    have hk1 : ((k : Int) + 1).toNat = k + 1 := by omega
    simp (disch := omega) [h2, wrap_i64, hk1]
    refine ⟨by omega, _, _, hr1, ?_⟩
    simp [enc1_len, hlrn, hl]
    refine callK_fresh e1 (by simp [reify, htk]) ?_
    by_cases hlt : lenS m lr < best
    · rw [if_pos hlt] at hR
      simp [hlt]
      exact h1 _ hR.symm
    · rw [if_neg hlt] at hR
      simp (disch := omega) [hlt, wrap_i64, hk1]
      refine ⟨by omega, _, _, hr2, ?_⟩
      simp (disch := omega) [enc1_len, hlrn, revP_len, wrap_i64]
      refine ⟨rfl, ?_⟩
      rw [hK]
      exact_mod_cast k_loop m hm n hn best i R h0 h1 f (k + 1) _ (by omega) (by omega) (by rw [revP_len, hlrn]) hR

theorem i_loop {Q : AX → St → Prop} (m : List (Int × Pnt)) (hm : Small m) (n : Nat) (hn : n ≤ 1000000000) (best : Int) (R : Sum (Int × List Int) (List Int))
    (h0 : ∀ l, R = .inr l → Q (.exit 2) ⟨[(0, .ls 10007 0 n (some n)), (1, .t (.mp (atM m))), (5, .t (tI best)), (16, .t (tI n)), (17, .t (tI n)), (18, .t (tB false))], [(10007, .sl 3 1 (ints l))]⟩)
    (h1 : ∀ r, R = .inl r → Q (.exit 1) ⟨[(0, .ls 10007 0 n (some n)), (1, .t (.mp (atM m))), (5, .t (tI r.1))], [(10007, .sl 3 1 (ints r.2))]⟩) : ∀ (f i : Nat) (l : List Int), f + i = n → l.length = n → iLoop m best n f i l = R →
    run Tryd.prog Γ scans_shorter_l3 Q ⟨[(0, .ls 10007 0 n (some n)), (1, .t (.mp (atM m))), (5, .t (tI best)), (16, .t (tI n)), (17, .t (tI i))], [(10007, .sl 3 1 (ints l))]⟩
  | 0, i, l, h, hl, hR => by
    refine scans_shorter_l3_run fun K hK => ?_
    have h2 : ¬ i < n := by omega
    simp [h2]
    have h3 : i = n := by omega
    subst h3
    exact h0 l hR.symm
  | f + 1, i, l, h, hl, hR => by
    refine scans_shorter_l3_run fun K hK => ?_
    have h2 : i < n := by omega
    simp only [iLoop] at hR
    simp (disch := omega) [h2, wrap_i64]
    have hk := fun Q h0 h1 => k_loop (Γ := Γ) (Q := Q) m hm n hn best i (kLoop m best i (n - (i + 1)) (i + 1) l) h0 h1 (n - (i + 1)) (i + 1) l (by omega) (by omega) hl rfl
    have hlen := kLoop_len (m := m) (best := best) (i := i) (f := n - (i + 1)) (k := i + 1) (l := l)
    generalize kLoop m best i (n - (i + 1)) (i + 1) l = S at hk hR hlen
    refine hk _ (fun l' hS => ?_) (fun r hS => ?_)
    · subst hS
      simp only at hR
      simp (disch := omega) [wrap_i64]
      rw [hK]
      have h5 : l'.length = l.length := hlen
      exact_mod_cast i_loop m hm n hn best R h0 h1 f (i + 1) l' (by omega) (by omega) hR
    · subst hS
      simp only at hR
      simp
      exact h1 r hR.symm

theorem again_loop {Q : AX → St → Prop} (m : List (Int × Pnt)) (hm : Small m) (n : Nat) (hn : n ≤ 1000000000) (R : List Int)
    (h0 : Q .ret ⟨[(4, .ls 10007 0 n (some n))], [(10007, .sl 3 1 (ints R))]⟩) : ∀ (f : Nat) (best : Int) (l : List Int), best < f → best = lenS m l → l.length = n → shortS m n f best l = R →
    run Tryd.prog Γ scans_shorter_l5 Q ⟨[(0, .ls 10007 0 n (some n)), (1, .t (.mp (atM m))), (5, .t (tI best))], [(10007, .sl 3 1 (ints l))]⟩
  | 0, best, l, hb, he, hl, hR => by
    have := (lenS_le hm l).1
    omega
  | f + 1, best, l, hb, he, hl, hR => by
    refine scans_shorter_l5_run fun K hK => ?_
    simp only [shortS] at hR
    simp
    have hi := fun Q h0 h1 => i_loop (Γ := Γ) (Q := Q) m hm n hn best (iLoop m best n n 0 l) h0 h1 n 0 l (by omega) hl rfl
    have hlen := iLoop_len (m := m) (best := best) (n := n) (f := n) (i := 0) (l := l)
    have hlt := @iLoop_lt m best n
    have hlt2 : ∀ r, iLoop m best n n 0 l = .inl r → r.1 < best ∧ r.1 = lenS m r.2 := fun r hr => hlt hr
    generalize iLoop m best n n 0 l = S at hi hR hlen hlt2
    refine hi _ (fun l' hS => ?_) (fun r hS => ?_)
    · subst hS
      simp only at hR
      subst hR
      simp
      exact h0
    · subst hS
      simp only at hR
      simp
      rw [hK]
      obtain ⟨h5, h6⟩ := hlt2 r rfl
      have h7 : r.2.length = l.length := hlen
      exact again_loop m hm n hn R h0 f r.1 r.2 (by omega) h6 (by omega) hR

def shorterL (m : List (Int × Pnt)) (l : List Int) : List Int := shortS m l.length ((lenS m l).toNat + 1) (lenS m l) l

theorem shorter_spec (m : List (Int × Pnt)) (hm : Small m) (l : List Int) (cap : Option Nat) (hl : l.length ≤ 1000000000) (hne : l ≠ []) (nl : Option Bool) (hnl : nl ≠ some true) : FreshCalls Tryd.prog Γ 51 [.sl (ints l) cap nl, .mp (atM m)] (.sl (ints (shorterL m l)) (some l.length) none) := by
  refine run_freshQ scans_shorter_chk rfl ?_
  have hc := clone_int_h (Γ := Γ) l cap hl hne nl hnl
  have hp := clip_int_h (Γ := Γ) 3 (ints l) l.length none enc1_wid
  have e1 := length_spec (Γ := Γ) m hm l (some l.length) none hl
  have hle := lenS_le hm l
  have hsl : ∀ (f : Nat) (b : Int) (x : List Int), x.length = l.length → (shortS m l.length f b x).length = l.length := by
    intro f
    induction f with
    | zero => intro b x hx; exact hx
    | succ f ih =>
      intro b x hx
      simp only [shortS]
      have h := iLoop_len (m := m) (best := b) (n := l.length) (f := l.length) (i := 0) (l := x)
      split
      · rename_i r hr; rw [hr] at h; exact ih _ _ ((show r.2.length = x.length from h).trans hx)
      · rename_i r hr; rw [hr] at h; exact (show r.length = x.length from h).trans hx
  have hsr : (shorterL m l).length = l.length := hsl _ _ _ rfl
  have htk : (ints (shorterL m l)).take l.length = ints (shorterL m l) := by rw [← hsr]; simp
  simp [scans_shorter_ic]
  refine ⟨_, _, hc, ?_⟩
  simp [enc1_len]
  refine ⟨_, _, hp, ?_⟩
  simp [enc1_len]
  refine callK_fresh e1 (by simp [reify]) ?_
  simp
  refine again_loop m hm l.length hl (shorterL m l) ?_ ((lenS m l).toNat + 1) (lenS m l) l (by omega) rfl rfl rfl
  simp [scans_shorter_rv, htk]
end Go.Lg

/- Shorten, Balance. Conditions: none. -/
set_option linter.unusedSimpArgs false
set_option linter.unusedVariables false
set_option maxRecDepth 100000
namespace Go.Lg
open Go Go.Proofs
variable {Γ : Tables}

def shortAll (m : List (Int × Pnt)) (l : List (Sl Int)) : List (Sl Int) := l.map fun s => ⟨shorterL m s.l, some s.l.length, none⟩

theorem goElems_ne {c : Cir} : ∀ {l : List (Sl Int)} {done d : List Int}, goChains c done l = some d → ∀ s ∈ l, s.l ≠ []
  | [], _, _, _, s, hs => by cases hs
  | x :: l, done, d, h, s, hs => by
    simp only [goChains] at h
    split at h
    · cases h
    rename_i hx
    rw [Option.bind_eq_some_iff] at h
    obtain ⟨d', _, h2⟩ := h
    rcases List.mem_cons.1 hs with rfl | hs
    · exact hx
    · exact goElems_ne h2 s hs
theorem checkErr_ne {c : Cir} {chs : List (Sl Int)} (h : checkErr c chs = 0) : ∀ s ∈ chs, s.l ≠ [] := by
  unfold checkErr at h
  split at h
  · rename_i h'; exact absurd h h'
  split at h
  · cases h
  split at h
  · cases h
  rename_i d hd
  exact goElems_ne hd
theorem placedErr_check {c : Cir} {chs : List (Sl Int)} {at' : List Pnt} (h : placedErr c chs at' = 0) : checkErr c chs = 0 := by
  unfold placedErr at h
  split at h
  · rename_i h'; exact absurd h h'
  · rename_i h'; simpa using h'

theorem Shorten_loop {Q : AX → St → Prop} (m : List (Int × Pnt)) (hm : Small m) (chs : Sl (Sl Int)) (hl : chs.l.length ≤ 64) (hs : ∀ s ∈ chs.l, s.l.length ≤ 1000000000 ∧ s.l ≠ [] ∧ s.nl ≠ some true)
    (h0 : Q (.exit 0) ⟨[(8, .t (.mp (atM m))), (10, .ls 34 0 chs.l.length none), (23, .t (tChs chs)), (24, .t (tI chs.l.length)), (25, .t (tI chs.l.length)), (26, .t (tB false))], [(34, .sl 31 1 (enc1 tSl (shortAll m chs.l)))]⟩) : ∀ (kk i : Nat), kk + i = chs.l.length →
    run Tryd.prog Γ scans_Shorten_l1 Q ⟨[(8, .t (.mp (atM m))), (10, .ls 34 0 i none), (23, .t (tChs chs)), (24, .t (tI chs.l.length)), (25, .t (tI i))], [(34, .sl 31 1 (enc1 tSl (shortAll m (chs.l.take i))))]⟩
  | 0, i, h => by
    refine scans_Shorten_l1_run fun K hK => ?_
    have h2 : ¬ i < chs.l.length := by omega
    have h3 : i = chs.l.length := by omega
    simp [h2]
    subst h3
    simpa using h0
  | kk + 1, i, h => by
    refine scans_Shorten_l1_run fun K hK => ?_
    have h2 : i < chs.l.length := by omega
    obtain ⟨hsl, hne, hnl⟩ := hs _ (List.getElem_mem h2)
    have ht : chs.l.take (i + 1) = chs.l.take i ++ [chs.l[i]] := by rw [List.take_add_one]; simp [h2]
    have hsn : shortAll m (chs.l.take (i + 1)) = shortAll m (chs.l.take i) ++ [⟨shorterL m chs.l[i].l, some chs.l[i].l.length, none⟩] := by rw [ht, shortAll, List.map_append]; rfl
    have hln : (shortAll m (chs.l.take i)).length = i := by simp [shortAll]; omega
    have e1 := shorter_spec (Γ := Γ) m hm chs.l[i].l chs.l[i].cap hsl hne chs.l[i].nl hnl
    have ih := Shorten_loop m hm chs hl hs h0 kk (i + 1) (by omega)
    rw [hsn] at ih
    have htk : (enc1 tSl (shortAll m (chs.l.take i))).take i = enc1 tSl (shortAll m (chs.l.take i)) := List.take_of_length_le (by rw [enc1_len, hln]; exact Nat.le_refl i)
    have hw : wid 1 [[T.sl (ints (shorterL m chs.l[i].l)) (some chs.l[i].l.length) none]] := by intro e he; simp at he; subst he; rfl
    simp (disch := omega) [h2, tChs, enc1_len, enc1_get Sl.d, enc1_wid, tSl]
    refine callK_fresh e1 rfl ?_
    simp (disch := omega) [enc1_wid, enc1_len, hln, htk, hw, wrap_i64]
    refine ⟨by omega, ?_⟩
    rw [hK]
    have e2 : enc1 tSl (shortAll m (chs.l.take i)) ++ [[T.sl (ints (shorterL m chs.l[i].l)) (some chs.l[i].l.length) none]] = enc1 tSl (shortAll m (chs.l.take i) ++ [⟨shorterL m chs.l[i].l, some chs.l[i].l.length, none⟩]) := enc1_snoc (f := tSl) (x := ⟨shorterL m chs.l[i].l, some chs.l[i].l.length, none⟩)
    rw [e2]
    simpa [tChs] using ih

theorem Shorten_spec (hΓ : GOk Γ) (c : Cir) (hc : COk c) (chs : Sl (Sl Int)) (hl : chs.l.length ≤ 1000000000) (hs : ∀ s ∈ chs.l, s.l.length ≤ 1000000000 ∧ s.nl ≠ some true) (at' : Sl Pnt) (ha : at'.l.length ≤ 1000000000) :
    PureCalls Tryd.prog Γ 22 [.agg (tC c), tChs chs, tPts at'] (.tup [if placedErr c chs.l at'.l = 0 then tChs ⟨shortAll (placedM c chs.l at'.l) chs.l, some chs.l.length, none⟩ else .sl [] (some 0) (some true), tI (placedErr c chs.l at'.l)]) := by
  refine run_pureQ scans_Shorten_chk rfl ?_
  simp [scans_Shorten_ic, tC, tNodes, tNames, tMems, tSl]
  refine callK_pure (placed_spec hΓ c hc chs hl (fun s h => (hs s h).1) at' ha) rfl ?_
  simp
  by_cases h : placedErr c chs.l at'.l = 0
  case neg => simp [h, Later, scans_Shorten_rv]
  have hck := placedErr_check h
  have h64 := checkErr_len hck
  have hne := checkErr_ne hck
  have hlp := fun Q h0 => Shorten_loop (Γ := Γ) (Q := Q) (placedM c chs.l at'.l) (placedM_small _ _ _) chs h64 (fun s hq => ⟨(hs s hq).1, hne s hq, (hs s hq).2⟩) h0 chs.l.length 0 (by omega)
  simp [h, Later, tChs, enc1_len]
  simp only [shortAll, List.take_zero, List.map_nil, enc1_nil, tChs] at hlp
  refine hlp _ ?_
  have hln : (shortAll (placedM c chs.l at'.l) chs.l).length = chs.l.length := by simp [shortAll]
  have htk : (enc1 tSl (chs.l.map fun s => (⟨shorterL (placedM c chs.l at'.l) s.l, some s.l.length, none⟩ : Sl Int))).take chs.l.length = enc1 tSl (chs.l.map fun s => (⟨shorterL (placedM c chs.l at'.l) s.l, some s.l.length, none⟩ : Sl Int)) := List.take_of_length_le (by simp [enc1])
  simp [Reg.closed, St.freeze, frzRef, frz1, frz0, reify, frzReg, htk]
  refine callK_pure (clip_ints _ none none enc1_wid) rfl ?_
  simp [scans_Shorten_rv, enc1_len, shortAll, h]

theorem clone_int_p (l : List Int) (cap : Option Nat) (hl : l.length ≤ 1000000000) (h0 : l ≠ []) : FreshCalls Tryd.prog Γ 43 [.sl (ints l) cap none] (.sl (ints l) none none) := by
  refine run_freshQ slices_Clone_int_chk rfl ?_
  have h1 : ints l ≠ [] := by simpa [enc1] using h0
  simp (disch := omega) [slices_Clone_int_ic, slices_Clone_int_rv, enc1_wid, enc1_len, h1, Later]
  omega

/-- n chains, what is left to be dealt. -/
def balS : Nat → List Int → List (Sl Int)
  | 0, _ => []
  | n + 1, l => ⟨l.take ((l.length + n) / (n + 1)), some ((l.length + n) / (n + 1)), none⟩ :: balS n (l.drop ((l.length + n) / (n + 1)))
theorem balS_len : ∀ {n : Nat} {l : List Int}, (balS n l).length = n
  | 0, _ => rfl
  | n + 1, l => by simp [balS, balS_len]

theorem ceil_div (a n : Nat) : (if 0 < a % (n + 1) then a / (n + 1) + 1 else a / (n + 1)) = (a + n) / (n + 1) := by
  have h1 := Nat.div_add_mod a (n + 1)
  have h2 := Nat.mod_lt a (show 0 < n + 1 by omega)
  symm
  split
  · rw [Nat.div_eq_of_lt_le]
    · rw [Nat.add_mul, Nat.mul_comm]; omega
    · rw [Nat.add_mul, Nat.add_mul, Nat.mul_comm]; omega
  · rw [Nat.div_eq_of_lt_le]
    · rw [Nat.mul_comm]; omega
    · rw [Nat.add_mul, Nat.mul_comm]; omega

theorem bal_loop {Q : AX → St → Prop} (n : Nat) (hn : n ≤ 64) (R : List (Sl Int))
    (h0 : ∀ l c, Q (.exit 1) ⟨[(1, .t (tI n)), (7, .t (.sl (ints l) c none)), (8, .ls 55 0 n none), (29, .t (tI n)), (30, .t (tI n)), (31, .t (tB false))], [(55, .sl 31 1 (enc1 tSl R))]⟩) :
    ∀ (k i : Nat) (l : List Int) (cap : Option Nat) (out : List (Sl Int)), k + i = n → k ≤ l.length → l.length ≤ 1000000000 → out.length = i → out ++ balS k l = R →
    run Tryd.prog Γ scans_Balance_l1 Q ⟨[(1, .t (tI n)), (7, .t (.sl (ints l) cap none)), (8, .ls 55 0 i none), (29, .t (tI n)), (30, .t (tI i))], [(55, .sl 31 1 (enc1 tSl out))]⟩
  | 0, i, l, cap, out, h, hk, hl, ho, hR => by
    refine scans_Balance_l1_run fun K hK => ?_
    have h2 : ¬ i < n := by omega
    have h3 : i = n := by omega
    simp [h2]
    subst h3
    simp only [balS, List.append_nil] at hR
    subst hR
    exact h0 _ _
  | k + 1, i, l, cap, out, h, hk, hl, ho, hR => by
    refine scans_Balance_l1_run fun K hK => ?_
    have h2 : i < n := by omega
    have hni : (n : Int) - i = ((k + 1 : Nat) : Int) := by omega
    have hq : ((l.length : Int).tdiv ((k + 1 : Nat) : Int)) = ((l.length / (k + 1) : Nat) : Int) := by
      rw [Int.natCast_ediv]; exact Int.tdiv_eq_ediv_of_nonneg (by omega)
    have hm : ((l.length : Int).tmod ((k + 1 : Nat) : Int)) = ((l.length % (k + 1) : Nat) : Int) := by
      rw [Int.natCast_emod]; exact Int.tmod_eq_emod_of_nonneg (by omega)
    have hdl : l.length / (k + 1) ≤ l.length := Nat.div_le_self _ _
    have hmany : (l.length + k) / (k + 1) ≤ l.length := by
      rw [Nat.div_le_iff_le_mul_add_pred (by omega)]
      have : l.length ≤ (k + 1) * l.length := Nat.le_mul_of_pos_left _ (by omega)
      omega
    have hpos : 1 ≤ (l.length + k) / (k + 1) := by
      rw [Nat.le_div_iff_mul_le (by omega)]; omega
    have hkeep : k ≤ l.length - (l.length + k) / (k + 1) := by
      have h1 := Nat.div_mul_le_self (l.length + k) (k + 1)
      have h5 : (l.length + k) / (k + 1) * (k + 1) = (l.length + k) / (k + 1) * k + (l.length + k) / (k + 1) := by rw [Nat.mul_add, Nat.mul_one]
      rcases Nat.eq_zero_or_pos k with h6 | h6
      · omega
      · have h7 : k ≤ (l.length + k) / (k + 1) * k := Nat.le_mul_of_pos_left _ (by omega)
        -- with at least one a chain, what is left suffices
        have h8 : (l.length + k) / (k + 1) ≤ l.length - k := by
          rw [Nat.div_le_iff_le_mul_add_pred (by omega)]
          have h9 : (k + 1) * (l.length - k) = k * (l.length - k) + (l.length - k) := by rw [Nat.add_mul, Nat.one_mul]
          have h10 : k ≤ k * (l.length - k) := Nat.le_mul_of_pos_right _ (by omega)
          omega
        omega
    simp only [balS] at hR
    have hcd := ceil_div l.length k
    generalize hmn : (l.length + k) / (k + 1) = many at *
    have hne : l.take many ≠ [] := by
      intro e
      have := congrArg List.length e
      rw [List.length_take, List.length_nil] at this
      omega
    have hlt : (l.take many).length = many := by simp; omega
    have e1 := clone_int_p (Γ := Γ) (l.take many) cap (by omega) hne
    have e2 := clip_int (Γ := Γ) (ints (l.take many)) none none enc1_wid
    rw [enc1_len, hlt] at e2
    have ih := bal_loop n hn R h0 k (i + 1) (l.drop many) (cap.map (· - many)) (out ++ [⟨l.take many, some many, none⟩]) (by omega) (by simp; omega) (by simp; omega) (by simp [ho]) (by rw [← hR]; simp)
    have htk : (enc1 tSl out).take i = enc1 tSl out := List.take_of_length_le (by rw [enc1_len, ho]; exact Nat.le_refl i)
    have hw : wid 1 [[T.sl (ints (l.take many)) (some many) none]] := by intro e he; simp at he; subst he; rfl
    have hsn : enc1 tSl out ++ [[T.sl (ints (l.take many)) (some many) none]] = enc1 tSl (out ++ [⟨l.take many, some many, none⟩]) := enc1_snoc (f := tSl) (x := ⟨l.take many, some many, none⟩)
    have hdk : ((k + 1 : Nat) : Int) ≠ 0 := by omega
    generalize l.length / (k + 1) = q at hq hdl hcd
    generalize l.length % (k + 1) = r at hm hcd
    simp (disch := omega) [h2, wrap_i64, enc1_len, hni, hq, hm, -Int.natCast_ediv, -Int.natCast_emod, -Int.natCast_add]
    refine ⟨fun hc => ?_, fun hc => ?_⟩
    · have hr0 : 0 < r := by omega
      rw [if_pos hr0] at hcd
      have hqm : (q : Int) + 1 = many := by omega
      simp (disch := omega) [Later, wrap_i64, enc1_len, enc1_wid, enc1_take, hqm]
      refine ⟨hmany, ?_⟩
      refine callK_fresh e1 rfl ?_
      simp
      refine callK_pure e2 rfl ?_
      simp (disch := omega) [enc1_len, enc1_wid, ho, htk, hw, wrap_i64, enc1_drop, hqm]
      refine ⟨by omega, by omega, ?_⟩
      rw [hK, hsn]
      rw [List.take_of_length_le (by rw [enc1_len, List.length_drop]; exact Nat.le_refl _)]
      simpa using ih
    · have hr0 : ¬ 0 < r := by omega
      rw [if_neg hr0] at hcd
      have hqm : (q : Int) = many := by omega
      simp (disch := omega) [Later, wrap_i64, enc1_len, enc1_wid, enc1_take, hqm]
      refine ⟨by omega, ?_⟩
      refine callK_fresh e1 rfl ?_
      simp
      refine callK_pure e2 rfl ?_
      simp (disch := omega) [enc1_len, enc1_wid, ho, htk, hw, wrap_i64, enc1_drop, hqm]
      refine ⟨by omega, by omega, ?_⟩
      rw [hK, hsn]
      rw [List.take_of_length_le (by rw [enc1_len, List.length_drop]; exact Nat.le_refl _)]
      simpa using ih

def balErr (c : Cir) (n : Int) : Int := if plainErr c ≠ 0 then plainErr c else if n < 1 then 1 else if 64 < n then 3 else 0
def balN (c : Cir) (n : Int) : Nat := min n.toNat (states c).length
def bal (c : Cir) (n : Int) : List (Sl Int) := balS (balN c n) (states c)

theorem states_len (c : Cir) : (states c).length ≤ c.nodes.l.length := ofL_len _ _ _

theorem Balance_spec (hΓ : GOk Γ) (c : Cir) (hc : COk c) (n : Int) :
    PureCalls Tryd.prog Γ 13 [.agg (tC c), tI n] (.tup [if balErr c n = 0 then tChs ⟨bal c n, some (bal c n).length, none⟩ else .sl [] (some 0) (some true), tI (balErr c n)]) := by
  refine run_pureQ scans_Balance_chk rfl ?_
  simp [scans_Balance_ic, tC, tNodes, tNames, tMems, tSl]
  refine callK_fresh (plain_spec hΓ c hc) rfl ?_
  by_cases h1 : plainErr c = 0
  case neg =>
    have : balErr c n = plainErr c := by unfold balErr; rw [if_pos h1]
    simp [h1, scans_Balance_rv, this]
  have hb : balErr c n = if n < 1 then 1 else if 64 < n then 3 else 0 := by unfold balErr; rw [if_neg (show ¬ (plainErr c ≠ 0) by simp [h1])]
  by_cases h2 : n < 1
  · rw [if_pos h2] at hb
    simp [h1, h2, scans_Balance_rv, hb]
  rw [if_neg h2] at hb
  by_cases h3 : 64 < n
  · rw [if_pos h3] at hb
    simp [h1, h2, h3, scans_Balance_rv, hb]
  rw [if_neg h3] at hb
  have hsl := states_len c
  have hcn := hc.nodes
  have hmin : (if ((states c).length : Int) < n then ((states c).length : Int) else n) = (balN c n : Nat) := by
    unfold balN; split <;> omega
  have hbl := fun Q h0 => bal_loop (Γ := Γ) (Q := Q) (balN c n) (by unfold balN; omega) (bal c n) h0 (balN c n) 0 (states c) (some (states c).length) [] (by omega) (by unfold balN; omega) (by omega) rfl rfl
  have hlen : (bal c n).length = balN c n := balS_len
  simp [h1, h2, h3]
  refine callK_pure (states_spec c hc) rfl ?_
  simp [enc1_len, hmin]
  refine hbl _ fun l cp => ?_
  have htk : (enc1 tSl (bal c n)).take (balN c n) = enc1 tSl (bal c n) := List.take_of_length_le (by rw [enc1_len, hlen]; exact Nat.le_refl _)
  simp [Reg.closed, St.freeze, frzRef, frz1, frz0, reify, frzReg, htk]
  refine callK_pure (clip_ints _ none none enc1_wid) rfl ?_
  simp [scans_Balance_rv, enc1_len, hb, tChs]
end Go.Lg

/- Copies of circuits. Conditions: none. -/
set_option linter.unusedSimpArgs false
set_option linter.unusedVariables false
set_option maxRecDepth 100000
namespace Go.Lg
open Go Go.Proofs
variable {Γ : Tables}

/-- What is known of a list tells whether it is nil. -/
def SlOk {α : Type} (s : Sl α) : Prop := (s.nl = some true → s.l = []) ∧ (s.nl = none → s.l ≠ []) ∧ s.l.length ≤ 1000000
def cpS (s : Sl Int) : Sl Int := ⟨s.l, some s.l.length, if s.nl = some true then some true else none⟩

theorem clone_int_a (s : Sl Int) (hs : SlOk s) : FreshCalls Tryd.prog Γ 43 [tSl s] (if s.nl = some true then .sl [] (some 0) (some true) else .sl (ints s.l) none none) := by
  refine run_freshQ slices_Clone_int_chk rfl ?_
  obtain ⟨l, cap, nl⟩ := s
  obtain ⟨h1, h2, h3⟩ := hs
  simp only at h1 h2 h3
  rcases nl with _ | _ | _
  · have h4 : ints l ≠ [] := by simpa [enc1] using h2 rfl
    simp (disch := omega) [slices_Clone_int_ic, slices_Clone_int_rv, enc1_wid, enc1_len, h4, Later, tSl]
    omega
  · simp (disch := omega) [slices_Clone_int_ic, slices_Clone_int_rv, enc1_wid, enc1_len, Later, tSl]
    omega
  · have := h1 rfl
    subst this
    simp [slices_Clone_int_ic, slices_Clone_int_rv, tSl]

theorem copied_int_spec (s : Sl Int) (hs : SlOk s) : PureCalls Tryd.prog Γ 99 [tSl s] (tSl (cpS s)) := by
  refine run_pureQ netlists_copied_int_chk rfl ?_
  have e1 := clone_int_a (Γ := Γ) s hs
  obtain ⟨l, cap, nl⟩ := s
  obtain ⟨h1, h2, h3⟩ := hs
  simp only at h1 h2 h3
  simp only at e1
  simp [netlists_copied_int_ic, tSl]
  refine callK_fresh e1 rfl ?_
  rcases nl with _ | _ | _
  · simp
    refine callK_pure (clip_int (ints l) none none enc1_wid) rfl ?_
    simp [netlists_copied_int_rv, cpS, enc1_len]
  · simp
    refine callK_pure (clip_int (ints l) none none enc1_wid) rfl ?_
    simp [netlists_copied_int_rv, cpS, enc1_len]
  · have := h1 rfl
    subst this
    simp
    refine callK_pure (clip_int [] (some 0) (some true) (by simp)) rfl ?_
    simp [netlists_copied_int_rv, cpS, enc1_len, enc1_nil]

theorem copied_names_spec (l : List (List UInt8)) (cap : Option Nat) (h : l ≠ []) (hl : l.length ≤ 1000000) : PureCalls Tryd.prog Γ 97 [.sl (enc1 tS l) cap none] (.sl (enc1 tS l) (some l.length) none) := by
  refine run_pureQ netlists_copied_string_chk rfl ?_
  have h4 : enc1 tS l ≠ [] := by simpa [enc1] using h
  have e1 : PureCalls Tryd.prog Γ 117 [.sl (enc1 tS l) cap none] (.sl (enc1 tS l) none none) := by
    refine run_pureQ slices_Clone_string_chk rfl ?_
    simp (disch := omega) [slices_Clone_string_ic, slices_Clone_string_rv, enc1_wid, enc1_len, h4, Later]
    omega
  have e2 : PureCalls Tryd.prog Γ 70 [.sl (enc1 tS l) none none] (.sl (enc1 tS l) (some l.length) none) := by
    refine run_pureQ slices_Clip_string_chk rfl ?_
    simp [slices_Clip_string_ic, slices_Clip_string_rv, enc1_wid, enc1_len]
  simp [netlists_copied_string_ic]
  refine callK_pure e1 rfl ?_
  simp
  refine callK_pure e2 rfl ?_
  simp [netlists_copied_string_rv]

theorem copied_mems_nil : PureCalls Tryd.prog Γ 98 [.sl [] (some 0) (some true)] (.sl [] (some 0) (some true)) := by
  refine run_pureQ netlists_copied_api_Memory_chk rfl ?_
  have e1 : PureCalls Tryd.prog Γ 119 [.sl [] (some 0) (some true)] (.sl [] (some 0) (some true)) := by
    refine run_pureQ slices_Clone_api_Memory_chk rfl ?_
    simp [slices_Clone_api_Memory_ic, slices_Clone_api_Memory_rv]
  have e2 : PureCalls Tryd.prog Γ 118 [.sl [] (some 0) (some true)] (.sl [] (some 0) (some true)) := by
    refine run_pureQ slices_Clip_api_Memory_chk rfl ?_
    simp [slices_Clip_api_Memory_ic, slices_Clip_api_Memory_rv]
  simp [netlists_copied_api_Memory_ic]
  refine callK_pure e1 rfl ?_
  simp
  refine callK_pure e2 rfl ?_
  simp [netlists_copied_api_Memory_rv]

theorem copied_nodes_h (l : List Nd) (cap : Option Nat) (h : l ≠ []) (hl : l.length ≤ 1000000) : HCalls Tryd.prog Γ 96 [] [.t (.sl (encN tNd l) cap none)] (.ls 4007 0 l.length (some l.length)) [(4007, .sl 48 4 (encN tNd l))] := by
  refine run_handQ netlists_copied_api_Node_chk rfl ?_
  have h4 : encN tNd l ≠ [] := by simpa [encN] using h
  have e1 : HCalls Tryd.prog Γ 116 [] [.t (.sl (encN tNd l) cap none)] (.ls 7 0 l.length none) [(7, .sl 48 4 (encN tNd l))] := by
    refine run_handQ slices_Clone_api_Node_chk rfl ?_
    simp (disch := omega) [slices_Clone_api_Node_ic, slices_Clone_api_Node_rv, tNd_wid, encN_len, h4, Later]
    omega
  have e2 : HCalls Tryd.prog Γ 69 [(1000000, .sl 48 4 (encN tNd l))] [.ls 1000000 0 l.length none] (.ls 1000000 0 l.length (some l.length)) [(1000000, .sl 48 4 (encN tNd l))] := by
    refine run_handQ slices_Clip_api_Node_chk rfl ?_
    simp [slices_Clip_api_Node_ic, slices_Clip_api_Node_rv, tNd_wid, encN_len]
  simp [netlists_copied_api_Node_ic]
  refine ⟨_, _, e1, ?_⟩
  simp
  refine ⟨_, _, e2, ?_⟩
  simp [netlists_copied_api_Node_rv]
end Go.Lg

/- scans.Pattern. Conditions: none. -/
set_option linter.unusedSimpArgs false
set_option linter.unusedVariables false
set_option maxRecDepth 100000
namespace Go.Lg
open Go Go.Proofs
variable {Γ : Tables}

theorem pat1_spec (v : Int) : FreshCalls Tryd.prog Γ 72 [tK v] (tB (aboveV v)) := by
  refine run_freshQ scans_Pattern_1_chk rfl ?_
  simp [scans_Pattern_1_ic, scans_Pattern_1_rv, aboveV]

theorem clone_val (s : Sl Int) (hs : SlOk s) : PureCalls Tryd.prog Γ 75 [tV s] (if s.nl = some true then .sl [] (some 0) (some true) else .sl (vals s.l) none none) := by
  refine run_pureQ slices_Clone_api_Value_chk rfl ?_
  obtain ⟨l, cap, nl⟩ := s
  obtain ⟨h1, h2, h3⟩ := hs
  simp only at h1 h2 h3
  rcases nl with _ | _ | _
  · have h4 : vals l ≠ [] := by simpa [enc1] using h2 rfl
    simp (disch := omega) [slices_Clone_api_Value_ic, slices_Clone_api_Value_rv, enc1_wid, enc1_len, h4, Later, tV]
    omega
  · simp (disch := omega) [slices_Clone_api_Value_ic, slices_Clone_api_Value_rv, enc1_wid, enc1_len, Later, tV]
    omega
  · have := h1 rfl
    subst this
    simp [slices_Clone_api_Value_ic, slices_Clone_api_Value_rv, tV]

def patAll (p : Pat) (en : Int) (inn : Sl Int) : List Int := p.inn.l ++ ([en] ++ inn.l)
def patErr (c : Cir) (p : Pat) (en : Int) (inn : Sl Int) : Int := if (patAll p en inn).length ≠ (inputs c).length then 8 else if (patAll p en inn).any aboveV = true ∨ p.st.l.any aboveV = true then 1 else 0
def patRes (c : Cir) (p : Pat) (en : Int) (inn : Sl Int) : T := if patErr c p en inn = 0 then .tup [.agg [tVs (patAll p en inn), tV (cpS p.st)], tI 0] else .tup [.agg [.sl [] (some 0) (some true), .sl [] (some 0) (some true)], tI (patErr c p en inn)]

theorem Pattern_spec (c : Cir) (hc : COk c) (s4 s6 s7 : List (List T)) (k4 k6 k7 : Option Nat) (n4 n6 n7 : Option Bool) (i5 : Int) (p : Pat) (en : Int) (inn : Sl Int) (hp : p.inn.l.length ≤ 100000 ∧ inn.l.length ≤ 100000) (hst : SlOk p.st) :
    PureCalls Tryd.prog Γ 38 [.agg (tC c ++ [.sl s4 k4 n4, tI i5, .sl s6 k6 n6, .sl s7 k7 n7]), .agg (tP p), tK en, tV inn] (patRes c p en inn) := by
  refine run_pureQ scans_Pattern_chk rfl ?_
  have hal : (patAll p en inn).length = p.inn.l.length + (1 + inn.l.length) := by simp [patAll]; omega
  have e1 := concat_spec (Γ := Γ) [p.inn, ⟨[en], some 1, some false⟩, inn] (some 3) (some false) (by simp) (by simp; omega) (by simp; omega)
  have hfl : ([p.inn, ⟨[en], some 1, some false⟩, inn] : List (Sl Int)).flatMap (·.l) = patAll p en inn := by simp [patAll]
  rw [hfl] at e1
  have e2 := inputs_spec (Γ := Γ) c hc
  have e3 := containsfunc_val (Γ := Γ) (patAll p en inn) none none 72 [] aboveV (fun x _ => pat1_spec x) (by omega)
  have e4 := containsfunc_val (Γ := Γ) p.st.l p.st.cap p.st.nl 72 [] aboveV (fun x _ => pat1_spec x) (by have := hst.2.2; omega)
  have e5 := clone_val (Γ := Γ) p.st hst
  have e6 := clip_val (Γ := Γ) (vals (patAll p en inn)) none none enc1_wid
  unfold patRes patErr
  generalize hA : patAll p en inn = A at *
  have e1' : FreshCalls Tryd.prog Γ 71 [.sl [[.sl (vals p.inn.l) p.inn.cap p.inn.nl], [.sl [[tK en]] (some 1) (some false)], [.sl (vals inn.l) inn.cap inn.nl]] (some 3) (some false)] (.sl (vals A) none none) := e1
  simp [scans_Pattern_ic, tC, tNodes, tNames, tMems, tSl, tP, tV]
  refine callK_fresh e1' (by simp) ?_
  simp [tC, tNodes, tNames, tMems, tSl] at e2
  simp
  refine callK_pure e2 rfl ?_
  by_cases hl : A.length = (inputs c).length
  · have hl' : ((A.length : Int) = ((inputs c).length : Int)) := by omega
    simp [hl, hl', enc1_len]
    refine callK_fresh e3 rfl ?_
    cases h3 : A.any aboveV
    · simp [h3]
      refine callK_fresh e4 rfl ?_
      cases h4 : p.st.l.any aboveV
      · simp [h4]
        refine callK_pure e6 rfl ?_
        simp
        refine callK_pure e5 rfl ?_
        by_cases hn : p.st.nl = some true
        · have h0 := hst.1 hn
          have e7 := clip_val (Γ := Γ) [] (some 0) (some true) wid_nil
          simp [hn]
          refine callK_pure e7 rfl ?_
          simp [scans_Pattern_rv, hl, h3, h4, h0, hn, cpS, tVs, tV, enc1_len, enc1]
        · have e7 := clip_val (Γ := Γ) (vals p.st.l) none none enc1_wid
          simp [hn]
          refine callK_pure e7 rfl ?_
          simp [scans_Pattern_rv, hl, h3, h4, hn, cpS, tVs, tV, enc1_len]
      · simp [h4, scans_Pattern_rv, hl]
    · simp [h3, scans_Pattern_rv, hl]
  · have hl' : ¬ ((A.length : Int) = ((inputs c).length : Int)) := by omega
    simp [hl, hl', enc1_len, scans_Pattern_rv]
end Go.Lg

/- netlists.Copy. Conditions: none. -/
set_option linter.unusedSimpArgs false
set_option linter.unusedVariables false
set_option maxRecDepth 100000
namespace Go.Lg
open Go Go.Proofs
variable {Γ : Tables}

theorem calltK_pure {f : FuncId} {as' : List AV} {ts : List T} {res : T} {K : T → Prop} (h : PureCalls Tryd.prog Γ f ts res) (ht : optAll (as'.map toT) = some ts) (hk : K res) : calltK Tryd.prog Γ f as' K ⟨⟩ := ⟨ts, res, ht, .inl h, hk⟩
theorem encN_set {α : Type} {f : α → List T} {l : List α} {n : Nat} {x : α} : (encN f l).set n (f x) = encN f (l.set n x) := by simp [encN, List.map_set]
theorem gN {l : List Nd} {i : Nat} (h : i < l.length) : (encN tNd l)[i]?.getD [] = tNd (l.getD i Nd.d) := by
  rw [encN_get Nd.d h]; rfl

def cpNd (x : Nd) : Nd := ⟨x.k, cpS x.inn, x.mem, x.bit⟩
def cpL : Nat → Nat → List Nd → List Nd
  | 0, _, L => L
  | k + 1, i, L => cpL k (i + 1) (L.set i (cpNd (L.getD i Nd.d)))
theorem cpL_eq : ∀ (k i : Nat) (L : List Nd), i + k = L.length → cpL k i L = L.take i ++ (L.drop i).map cpNd
  | 0, i, L, h => by rw [List.drop_of_length_le (by omega), List.take_of_length_le (by omega)]; simp [cpL]
  | k + 1, i, L, h => by
    have hi : i < L.length := by omega
    simp only [cpL]
    rw [cpL_eq k (i + 1) _ (by simp; omega), List.drop_eq_getElem_cons hi]
    have e : L.getD i Nd.d = L[i] := by simp [List.getD_eq_getElem?_getD, hi]
    rw [e]
    have h1 : (L.set i (cpNd L[i])).take (i + 1) = L.take i ++ [cpNd L[i]] := by
      rw [List.take_add_one, List.take_set_of_le (Nat.le_refl i)]
      simp [hi]
    rw [h1, List.drop_set_of_lt (by omega), List.map_cons, List.append_assoc]
    rfl

def cpH (n : Nat) (nm mm oo : T) (L : List Nd) : List (Nat × Reg) :=
  [(2, .bx [.t (.sl [] (some 0) (some true)), .t (.sl [] (some 0) (some true)), .t (.sl [] (some 0) (some true)), .t (.sl [] (some 0) (some true))]), (3, .bx [.ls 14007 0 n (some n), .t nm, .t mm, .t oo]), (14007, .sl 48 4 (encN tNd L))]

theorem copy_loop {Q : AX → St → Prop} (n : Nat) (hn : n ≤ 1000000) (nm mm oo : T) (R : List Nd)
    (h0 : Q (.exit 0) ⟨[(2, .lp 2 0 0), (3, .lp 3 0 0), (22, .ls 14007 0 n (some n)), (23, .t (tI n)), (24, .t (tI n)), (25, .t (tB false))], cpH n nm mm oo R⟩) :
    ∀ (k i : Nat) (L : List Nd), k + i = n → L.length = n → (∀ j, i ≤ j → j < n → SlOk (L.getD j Nd.d).inn) → cpL k i L = R →
    run Tryd.prog Γ netlists_Copy_l1 Q ⟨[(2, .lp 2 0 0), (3, .lp 3 0 0), (22, .ls 14007 0 n (some n)), (23, .t (tI n)), (24, .t (tI i))], cpH n nm mm oo L⟩
  | 0, i, L, h, hl, hs, hR => by
    refine netlists_Copy_l1_run fun K hK => ?_
    have h3 : i = n := by omega
    subst h3
    simp only [cpL] at hR
    subst hR
    simp [cpH]
    simpa [cpH] using h0
  | k + 1, i, L, h, hl, hs, hR => by
    refine netlists_Copy_l1_run fun K hK => ?_
    have h2 : i < n := by omega
    have hi : i < L.length := by omega
    simp only [cpL] at hR
    have e := gN hi
    have hx : SlOk (L.getD i Nd.d).inn := hs i (Nat.le_refl i) h2
    have e1 := copied_int_spec (Γ := Γ) _ hx
    have ih := copy_loop n hn nm mm oo R h0 k (i + 1) (L.set i (cpNd (L.getD i Nd.d))) (by omega) (by simp [hl]) (fun j hj hjn => by
      have : (L.set i (cpNd (L.getD i Nd.d))).getD j Nd.d = L.getD j Nd.d := by
        rw [List.getD_eq_getElem?_getD, List.getElem?_set, if_neg (by omega), ← List.getD_eq_getElem?_getD]
      rw [this]
      exact hs j (by omega) hjn) hR
    generalize L.getD i Nd.d = x at *
    have e' : ∀ h : i < (encN tNd L).length, (encN tNd L)[i] = tNd x := fun h => by rw [← e]; simp [hi, encN_len]
    have hset : (encN tNd L).set i [tK x.k, tSl (cpS x.inn), tI x.mem, tI x.bit] = encN tNd (L.set i (cpNd x)) := encN_set (f := tNd) (x := cpNd x)
    simp only [tSl] at e1 hset
    simp (disch := omega) [cpH, h2, encN_len, tNd_wid, e, e', hl, wrap_i64, tNd, tSl]
    refine calltK_pure e1 rfl ?_
    simp (disch := omega) [cpH, h2, hi, encN_len, tNd_wid, e, e', hl, wrap_i64, tNd, tSl, hset]
    rw [hK]
    simpa [cpH] using ih

def copyC (c : Cir) : Cir := ⟨⟨c.nodes.l.map cpNd, some c.nodes.l.length, none⟩, ⟨c.names.l, some c.names.l.length, none⟩, ⟨[], some 0, some true⟩, cpS c.outs⟩

/-- A circuit that can be copied: without memories, and what is empty is nil. -/
structure CpOk (c : Cir) : Prop where
  n0 : c.nodes.l ≠ []
  n1 : c.nodes.l.length ≤ 1000000
  nn : c.nodes.nl = none
  m0 : c.names.l ≠ []
  m1 : c.names.l.length ≤ 1000000
  mn : c.names.nl = none
  mems : c.mems = ⟨[], some 0, some true⟩
  inn : ∀ x ∈ c.nodes.l, SlOk x.inn
  outs : SlOk c.outs

theorem copy_spec (c : Cir) (hc : CpOk c) : PureCalls Tryd.prog Γ 66 [.agg (tC c)] (.agg (tC (copyC c))) := by
  refine run_pureQ netlists_Copy_chk rfl ?_
  have e1 := copied_nodes_h (Γ := Γ) c.nodes.l c.nodes.cap hc.n0 hc.n1
  have e2 := copied_names_spec (Γ := Γ) c.names.l c.names.cap hc.m0 hc.m1
  have e3 := copied_mems_nil (Γ := Γ)
  have e4 := copied_int_spec (Γ := Γ) c.outs hc.outs
  have hcp : cpL c.nodes.l.length 0 c.nodes.l = c.nodes.l.map cpNd := by rw [cpL_eq _ _ _ (by omega)]; simp
  have hn1 := hc.n1
  have g1 := fun Q nm mm oo h0 => copy_loop (Γ := Γ) (Q := Q) c.nodes.l.length hc.n1 nm mm oo _ h0 c.nodes.l.length 0 c.nodes.l (by omega) rfl (fun j _ hj => hc.inn _ (by rw [List.getD_eq_getElem?_getD, List.getElem?_eq_getElem hj]; exact List.getElem_mem hj)) hcp
  have hml : (encN tNd (c.nodes.l.map cpNd)).take c.nodes.l.length = encN tNd (c.nodes.l.map cpNd) := List.take_of_length_le (by simp [encN])
  simp [netlists_Copy_ic, tC, tNodes, tNames, tMems, tSl, hc.mems, hc.nn, hc.mn]
  refine ⟨_, _, e1, ?_⟩
  simp
  refine calltK_pure e2 rfl ?_
  simp
  refine calltK_pure e3 rfl ?_
  simp
  simp [tSl] at e4
  refine calltK_pure e4 rfl ?_
  simp
  simp [cpH] at g1
  refine g1 _ _ _ _ ?_
  simp [St.freeze, Reg.closed, frzRef, frz1, frz0, frzReg, del, reify, hml]
  refine netlists_Copy_l3_run fun K hK => ?_
  simp [netlists_Copy_rv, copyC, encN_len, enc1_nil, show encN tMm [] = [] from rfl]
end Go.Lg

/- The builder's add, for each state that it is called in. Conditions: none. -/
set_option linter.unusedSimpArgs false
set_option linter.unusedVariables false
set_option maxRecDepth 100000
namespace Go.Lg
open Go Go.Proofs
variable {Γ : Tables}

theorem add_tt (seen : List (List UInt8)) (nodes : List Nd) (names : List (List UInt8)) (ol : List Int) (oc : Option Nat) (on : Option Bool) (x : Nd) (nm : List UInt8) (hn : nodes.length ≤ 1000000) (hm : names.length ≤ 1000000) (hs : nm ∉ seen) (hl : nm.length ≤ 32) :
    HCalls Tryd.prog Γ 67 [(1000000, .mp (seenM seen)), (1000001, .bx [.t (.sl (encN tNd nodes) (some nodes.length) none), .t (.sl (enc1 tS names) (some names.length) none), .t (.sl [] (some 0) (some true)), .t (.sl (ints ol) oc on), .lm 1000000, .t (tB false)])] [.lp 1000001 0 0, .ag ((tNd x).map .t), .t (tS nm)] (.t (tI nodes.length))
      [(40, .sl 48 4 (encN tNd (nodes ++ [x]))), (52, .sl 9 1 (enc1 tS (names ++ [nm]))), (1000000, .mp (seenM (seen ++ [nm]))), (1000001, .bx [.ls 40 0 (nodes.length + 1) none, .ls 52 0 (names.length + 1) none, .t (.sl [] (some 0) (some true)), .t (.sl (ints ol) oc on), .lm 1000000, .t (tB false)])] := by
  refine run_handQ scans_builder_add_chk rfl ?_
  have q1 : encN tNd nodes ++ [[tK x.k, .sl (ints x.inn.l) x.inn.cap x.inn.nl, tI x.mem, tI x.bit]] = encN tNd (nodes ++ [x]) := encN_snoc (f := tNd) (x := x)
  have q2 : enc1 tS names ++ [[.v (sV nm)]] = enc1 tS (names ++ [nm]) := enc1_snoc
  have w1 : wid 4 [[tK x.k, .sl (ints x.inn.l) x.inn.cap x.inn.nl, tI x.mem, tI x.bit]] := by intro e he; simp at he; subst he; rfl
  have w2 : wid 1 [[T.v (sV nm)]] := by intro e he; simp at he; subst he; rfl
  have t1 : (encN tNd nodes).take nodes.length = encN tNd nodes := encN_take_len
  have t2 : (enc1 tS names).take names.length = enc1 tS names := enc1_take_len
  have f1 := seenM_find nm seen
  rw [if_neg hs] at f1
  have f2 := seenM_set nm seen hs
  have f3 := seenM_fit seen
  have h32 : ¬ 32 < nm.length := by omega
  have h32' : ¬ (32 : Int) < nm.length := by omega
  have hfit : KT.str.fits (sV nm) = true := rfl
  simp only [sV] at q2 w2 f1 f2 hfit
  simp [scans_builder_add_ic, tNd, tSl, tS, sV]
  refine scans_builder_add_l1_run fun K hK => ?_
  simp (maxSteps := 1000000) (disch := omega) [f1, f2, f3, hfit, h32, h32', q1, q2, w1, w2, t1, t2, encN_len, enc1_len, tNd_wid, enc1_wid, wrap_i64]
  simp (disch := omega) [scans_builder_add_rv, wrap_i64, hn, hm]
  omega

theorem add_rt (seen : List (List UInt8)) (nodes : List Nd) (names : List (List UInt8)) (ol : List Int) (oc : Option Nat) (on : Option Bool) (x : Nd) (nm : List UInt8) (hn : nodes.length ≤ 1000000) (hm : names.length ≤ 1000000) (hs : nm ∉ seen) (hl : nm.length ≤ 32) :
    HCalls Tryd.prog Γ 67 [(1000000, .mp (seenM seen)), (1000001, .bx [.ls 1000003 0 nodes.length none, .ls 1000004 0 names.length none, .t (.sl [] (some 0) (some true)), .t (.sl (ints ol) oc on), .lm 1000000, .t (tB false)]), (1000003, .sl 48 4 (encN tNd nodes)), (1000004, .sl 9 1 (enc1 tS names))] [.lp 1000001 0 0, .ag ((tNd x).map .t), .t (tS nm)] (.t (tI nodes.length))
      [(40, .sl 48 4 (encN tNd (nodes ++ [x]))), (52, .sl 9 1 (enc1 tS (names ++ [nm]))), (1000000, .mp (seenM (seen ++ [nm]))), (1000001, .bx [.ls 40 0 (nodes.length + 1) none, .ls 52 0 (names.length + 1) none, .t (.sl [] (some 0) (some true)), .t (.sl (ints ol) oc on), .lm 1000000, .t (tB false)])] := by
  refine run_handQ scans_builder_add_chk rfl ?_
  have q1 : encN tNd nodes ++ [[tK x.k, .sl (ints x.inn.l) x.inn.cap x.inn.nl, tI x.mem, tI x.bit]] = encN tNd (nodes ++ [x]) := encN_snoc (f := tNd) (x := x)
  have q2 : enc1 tS names ++ [[.v (sV nm)]] = enc1 tS (names ++ [nm]) := enc1_snoc
  have w1 : wid 4 [[tK x.k, .sl (ints x.inn.l) x.inn.cap x.inn.nl, tI x.mem, tI x.bit]] := by intro e he; simp at he; subst he; rfl
  have w2 : wid 1 [[T.v (sV nm)]] := by intro e he; simp at he; subst he; rfl
  have t1 : (encN tNd nodes).take nodes.length = encN tNd nodes := encN_take_len
  have t2 : (enc1 tS names).take names.length = enc1 tS names := enc1_take_len
  have f1 := seenM_find nm seen
  rw [if_neg hs] at f1
  have f2 := seenM_set nm seen hs
  have f3 := seenM_fit seen
  have h32 : ¬ 32 < nm.length := by omega
  have h32' : ¬ (32 : Int) < nm.length := by omega
  have hfit : KT.str.fits (sV nm) = true := rfl
  simp only [sV] at q2 w2 f1 f2 hfit
  simp [scans_builder_add_ic, tNd, tSl, tS, sV]
  refine scans_builder_add_l1_run fun K hK => ?_
  simp (maxSteps := 1000000) (disch := omega) [f1, f2, f3, hfit, h32, h32', q1, q2, w1, w2, t1, t2, encN_len, enc1_len, tNd_wid, enc1_wid, wrap_i64]
  simp (disch := omega) [scans_builder_add_rv, wrap_i64, hn, hm]
  omega

theorem add_rr (seen : List (List UInt8)) (nodes : List Nd) (names : List (List UInt8)) (ol : List Int) (x : Nd) (nm : List UInt8) (hn : nodes.length ≤ 1000000) (hm : names.length ≤ 1000000) (hs : nm ∉ seen) (hl : nm.length ≤ 32) :
    HCalls Tryd.prog Γ 67 [(1000000, .mp (seenM seen)), (1000001, .bx [.ls 1000003 0 nodes.length none, .ls 1000004 0 names.length none, .t (.sl [] (some 0) (some true)), .ls 1000002 0 ol.length none, .lm 1000000, .t (tB false)]), (1000002, .sl 3 1 (ints ol)), (1000003, .sl 48 4 (encN tNd nodes)), (1000004, .sl 9 1 (enc1 tS names))] [.lp 1000001 0 0, .ag ((tNd x).map .t), .t (tS nm)] (.t (tI nodes.length))
      [(40, .sl 48 4 (encN tNd (nodes ++ [x]))), (52, .sl 9 1 (enc1 tS (names ++ [nm]))), (1000000, .mp (seenM (seen ++ [nm]))), (1000001, .bx [.ls 40 0 (nodes.length + 1) none, .ls 52 0 (names.length + 1) none, .t (.sl [] (some 0) (some true)), .ls 1000002 0 ol.length none, .lm 1000000, .t (tB false)]), (1000002, .sl 3 1 (ints ol))] := by
  refine run_handQ scans_builder_add_chk rfl ?_
  have q1 : encN tNd nodes ++ [[tK x.k, .sl (ints x.inn.l) x.inn.cap x.inn.nl, tI x.mem, tI x.bit]] = encN tNd (nodes ++ [x]) := encN_snoc (f := tNd) (x := x)
  have q2 : enc1 tS names ++ [[.v (sV nm)]] = enc1 tS (names ++ [nm]) := enc1_snoc
  have w1 : wid 4 [[tK x.k, .sl (ints x.inn.l) x.inn.cap x.inn.nl, tI x.mem, tI x.bit]] := by intro e he; simp at he; subst he; rfl
  have w2 : wid 1 [[T.v (sV nm)]] := by intro e he; simp at he; subst he; rfl
  have t1 : (encN tNd nodes).take nodes.length = encN tNd nodes := encN_take_len
  have t2 : (enc1 tS names).take names.length = enc1 tS names := enc1_take_len
  have f1 := seenM_find nm seen
  rw [if_neg hs] at f1
  have f2 := seenM_set nm seen hs
  have f3 := seenM_fit seen
  have h32 : ¬ 32 < nm.length := by omega
  have h32' : ¬ (32 : Int) < nm.length := by omega
  have hfit : KT.str.fits (sV nm) = true := rfl
  simp only [sV] at q2 w2 f1 f2 hfit
  simp [scans_builder_add_ic, tNd, tSl, tS, sV]
  refine scans_builder_add_l1_run fun K hK => ?_
  simp (maxSteps := 1000000) (disch := omega) [f1, f2, f3, hfit, h32, h32', q1, q2, w1, w2, t1, t2, encN_len, enc1_len, tNd_wid, enc1_wid, wrap_i64]
  simp (disch := omega) [scans_builder_add_rv, wrap_i64, hn, hm]
  omega
end Go.Lg

/- scans.Insert: the loops over the names and along a chain. Conditions: none. -/
set_option linter.unusedSimpArgs false
set_option linter.unusedVariables false
set_option maxRecDepth 100000
namespace Go.Lg
open Go Go.Proofs
variable {Γ : Tables}

/-- A map from int to int. -/
def befM (l : List (Int × Int)) : List (Value × T) := l.map fun p => (.int .i64 p.1, tI p.2)
def befOf (l : List (Int × Int)) (n : Int) : Int := match l.find? (fun p => p.1 == n) with | some p => p.2 | none => 0
theorem befM_fit (l : List (Int × Int)) : keysFit (.int .i64) (befM l) := by
  intro e he; obtain ⟨s, _, rfl⟩ := List.mem_map.1 he; rfl
theorem befM_find (n : Int) : ∀ l : List (Int × Int), (findM (.int .i64 n) (befM l)).getD (tI 0) = tI (befOf l n)
  | [] => rfl
  | (a, p) :: l => by
    have ih := befM_find n l
    simp only [befM, befOf, List.map_cons, findM, keyEq, List.find?_cons] at ih ⊢
    by_cases h : n = a
    · simp [h]
    · have h' : ¬ a = n := fun e => h e.symm
      simp [h, h', ih]
theorem befM_set (n a : Int) : ∀ l : List (Int × Int), n ∉ l.map (·.1) → setM (.int .i64 n) (tI a) (befM l) = befM (l ++ [(n, a)])
  | [], _ => rfl
  | (b, p) :: l, h => by
    have ih := befM_set n a l (fun hm => h (by simp only [List.map_cons, List.mem_cons]; exact .inr hm))
    have hne : n ≠ b := fun e => h (by simp [e])
    simp only [befM, List.map_cons, setM, keyEq, List.cons_append] at ih ⊢
    simp [hne, ih]

def prevs : Int → List Int → List (Int × Int)
  | _, [] => []
  | a, n :: l => (n, a) :: prevs n l
def lastC : Int → List Int → Int
  | a, [] => a
  | _, n :: l => lastC n l
theorem prevs_keys : ∀ (l : List Int) (a : Int), (prevs a l).map (·.1) = l
  | [], _ => rfl
  | n :: l, a => by simp only [prevs, List.map_cons, prevs_keys l n]

def nilT : T := .sl [] (some 0) (some true)
def Z8 : List AV := [.t nilT, .t nilT, .t nilT, .t nilT, .t nilT, .t (tI 0), .t nilT, .t nilT]

theorem gi1 {f : Int → T} {l : List Int} {i : Nat} (hi : i < l.length) : (enc1 f l)[i]?.getD [] = [f (l.getD i 0)] := by
  rw [enc1_get 0 hi]; rfl
theorem ins_l1 {Q : AX → St → Prop} (t1 t7 : T) (c : Cir) (names : Sl (List UInt8)) (hl : names.l.length ≤ 1000000) (hnd : names.l.Nodup) (N M O : T)
    (h0 : Q (.exit 0) ⟨[(1, .t t1), (2, .t (.ip (tC c) 0)), (4, .lp 4 0 0), (7, .t t7), (8, .lp 46 0 0), (48, .t (tNames names)), (49, .t (tI names.l.length)), (50, .t (tI names.l.length)), (51, .t (tB false))], [(4, .bx Z8), (44, .mp (seenM names.l)), (46, .bx [.t N, .t M, .t nilT, .t O, .lm 44, .t (tB false)])]⟩) :
    ∀ (k i : Nat), k + i = names.l.length →
    run Tryd.prog Γ scans_Insert_l1 Q ⟨[(1, .t t1), (2, .t (.ip (tC c) 0)), (4, .lp 4 0 0), (7, .t t7), (8, .lp 46 0 0), (48, .t (tNames names)), (49, .t (tI names.l.length)), (50, .t (tI i))], [(4, .bx Z8), (44, .mp (seenM (names.l.take i))), (46, .bx [.t N, .t M, .t nilT, .t O, .lm 44, .t (tB false)])]⟩
  | 0, i, h => by
    refine scans_Insert_l1_run fun K hK => ?_
    have h3 : i = names.l.length := by omega
    subst h3
    rw [List.take_of_length_le (Nat.le_refl _)]
    simp [Z8]
    simpa [Z8] using h0
  | k + 1, i, h => by
    refine scans_Insert_l1_run fun K hK => ?_
    have h2 : i < names.l.length := by omega
    have ih := ins_l1 t1 t7 c names hl hnd N M O h0 k (i + 1) (by omega)
    have ht : names.l.take (i + 1) = names.l.take i ++ [names.l[i]] := by rw [List.take_add_one]; simp [h2]
    have hm : names.l[i] ∉ names.l.take i := fun hm => by
      obtain ⟨j, hj, e⟩ := List.getElem_of_mem hm
      simp at hj e
      have hji : j < i := by omega
      exact List.pairwise_iff_getElem.1 (List.nodup_iff_pairwise_ne.1 hnd) j i (by omega) h2 hji e
    have e := enc1_get (f := tS) [] h2
    have e2 : names.l[i]?.getD [] = names.l[i] := by simp [h2]
    rw [e2] at e
    rw [ht] at ih
    generalize names.l[i] = x at *
    have e' : ∀ h : i < (enc1 tS names.l).length, (enc1 tS names.l)[i] = [tS x] := fun h => by rw [← e]; simp [h]
    have f2 := seenM_set x _ hm
    have f3 := seenM_fit (names.l.take i)
    have hfit : KT.str.fits (sV x) = true := rfl
    simp only [tS, sV] at e e' f2 hfit
    simp [h2, tNames, enc1_len, enc1_wid, e, e', f2, f3, hfit, Z8]
    rw [wrap_i64 (by omega) (by omega), hK]
    simpa [tNames, Z8] using ih

def i3E (t2 t7 t65 t66 t67 t93 : T) (L : List Int) (lc : Option Nat) (ln : Option Bool) (last : Int) (i : Nat) : List (Nat × AV) :=
  [(2, .t t2), (4, .lp 4 0 0), (7, .t t7), (8, .lp 46 0 0), (11, .lp 11 0 0), (12, .lm 64), (15, .t (tI last)), (65, .t t65), (66, .t t66), (67, .t t67), (92, .t (.sl (ints L) lc ln)), (93, .t t93), (94, .t (tI i))]
def i3H (r11 r44 r46 r78 r90 r157 rN rM : Reg) (bef : List (Int × Int)) : List (Nat × Reg) :=
  [(4, .bx Z8), (11, r11), (44, r44), (46, r46), (64, .mp (befM bef)), (78, r78), (90, r90), (157, r157), (62040, rN), (62052, rM)]

theorem ins_l3 {Q : AX → St → Prop} (t2 t7 t65 t66 t67 : T) (r11 r44 r46 r78 r90 r157 rN rM : Reg) (L : List Int) (hL : L.length ≤ 1000000) (lc : Option Nat) (ln : Option Bool) (hnd : L.Nodup) (R : List (Int × Int)) (z : Int)
    (h0 : Q (.exit 4) ⟨i3E t2 t7 t65 t66 t67 (tI L.length) L lc ln z L.length ++ [(95, .t (tB false))], i3H r11 r44 r46 r78 r90 r157 rN rM R⟩) :
    ∀ (k i : Nat) (last : Int) (bef : List (Int × Int)), k + i = L.length → (∀ n ∈ L.drop i, n ∉ bef.map (·.1)) → bef ++ prevs last (L.drop i) = R → lastC last (L.drop i) = z →
    run Tryd.prog Γ scans_Insert_l3 Q ⟨i3E t2 t7 t65 t66 t67 (tI L.length) L lc ln last i, i3H r11 r44 r46 r78 r90 r157 rN rM bef⟩
  | 0, i, last, bef, h, hk, hR, hz => by
    refine scans_Insert_l3_run fun K hK => ?_
    have h3 : i = L.length := by omega
    subst h3
    rw [List.drop_of_length_le (Nat.le_refl _)] at hR hz
    simp only [prevs, lastC, List.append_nil] at hR hz
    subst hR; subst hz
    simp [i3E, i3H, Z8]
    simpa [i3E, i3H, Z8] using h0
  | k + 1, i, last, bef, h, hk, hR, hz => by
    refine scans_Insert_l3_run fun K hK => ?_
    have h2 : i < L.length := by omega
    have e := gi1 (f := tI) h2
    rw [getD_eq h2] at e
    have hd : L.drop (i + 1) = (L.drop i).tail := by simp
    rw [List.drop_eq_getElem_cons h2] at hR hz hk
    have hxm := List.pairwise_iff_getElem.1 (List.nodup_iff_pairwise_ne.1 hnd)
    have hnx : ∀ n ∈ L.drop (i + 1), n ≠ L[i] := fun n hn e => by
      obtain ⟨j, hj, rfl⟩ := List.getElem_of_mem hn
      simp at hj e
      exact hxm i (i + 1 + j) h2 (by omega) (by omega) e.symm
    generalize L[i] = x at *
    simp only [prevs, lastC] at hR hz
    have hx : x ∉ bef.map (·.1) := hk x List.mem_cons_self
    have ih := ins_l3 t2 t7 t65 t66 t67 r11 r44 r46 r78 r90 r157 rN rM L hL lc ln hnd R z h0 k (i + 1) x (bef ++ [(x, last)]) (by omega) (fun n hn => by
      rw [List.map_append, List.mem_append]
      rintro (h | h)
      · exact hk n (List.mem_cons_of_mem _ hn) h
      · simp at h; exact hnx n hn h) (by rw [List.append_assoc]; exact hR) hz
    have f2 := befM_set x last bef hx
    have f3 := befM_fit bef
    have hfit : (KT.int .i64).fits (.int .i64 x) = true := rfl
    have e' : ∀ h : i < (ints L).length, (ints L)[i] = [tI x] := fun h => by rw [← e]; simp [h]
    simp only [i3E, i3H] at ih ⊢
    simp [h2, enc1_len, enc1_wid, e, e', f2, f3, hfit]
    rw [wrap_i64 (by omega) (by omega), hK]
    simpa using ih
end Go.Lg

/- scans.Insert: the loop along a chain, with outputs of its own. Conditions: none. -/
set_option linter.unusedSimpArgs false
set_option linter.unusedVariables false
set_option maxRecDepth 100000
namespace Go.Lg
open Go Go.Proofs
variable {Γ : Tables}

def i3G (r11 r44 r46 r78 r90 r111 r157 rN rM : Reg) (bef : List (Int × Int)) : List (Nat × Reg) :=
  [(4, .bx Z8), (11, r11), (44, r44), (46, r46), (64, .mp (befM bef)), (78, r78), (90, r90), (111, r111), (157, r157), (62040, rN), (62052, rM)]

theorem ins_m3 {Q : AX → St → Prop} (t2 t7 t65 t66 t67 : T) (r11 r44 r46 r78 r90 r111 r157 rN rM : Reg) (L : List Int) (hL : L.length ≤ 1000000) (lc : Option Nat) (ln : Option Bool) (hnd : L.Nodup) (R : List (Int × Int)) (z : Int)
    (h0 : Q (.exit 4) ⟨i3E t2 t7 t65 t66 t67 (tI L.length) L lc ln z L.length ++ [(95, .t (tB false))], i3G r11 r44 r46 r78 r90 r111 r157 rN rM R⟩) :
    ∀ (k i : Nat) (last : Int) (bef : List (Int × Int)), k + i = L.length → (∀ n ∈ L.drop i, n ∉ bef.map (·.1)) → bef ++ prevs last (L.drop i) = R → lastC last (L.drop i) = z →
    run Tryd.prog Γ scans_Insert_l3 Q ⟨i3E t2 t7 t65 t66 t67 (tI L.length) L lc ln last i, i3G r11 r44 r46 r78 r90 r111 r157 rN rM bef⟩
  | 0, i, last, bef, h, hk, hR, hz => by
    refine scans_Insert_l3_run fun K hK => ?_
    have h3 : i = L.length := by omega
    subst h3
    rw [List.drop_of_length_le (Nat.le_refl _)] at hR hz
    simp only [prevs, lastC, List.append_nil] at hR hz
    subst hR; subst hz
    simp [i3E, i3G, Z8]
    simpa [i3E, i3G, Z8] using h0
  | k + 1, i, last, bef, h, hk, hR, hz => by
    refine scans_Insert_l3_run fun K hK => ?_
    have h2 : i < L.length := by omega
    have e := gi1 (f := tI) h2
    rw [getD_eq h2] at e
    have hd : L.drop (i + 1) = (L.drop i).tail := by simp
    rw [List.drop_eq_getElem_cons h2] at hR hz hk
    have hxm := List.pairwise_iff_getElem.1 (List.nodup_iff_pairwise_ne.1 hnd)
    have hnx : ∀ n ∈ L.drop (i + 1), n ≠ L[i] := fun n hn e => by
      obtain ⟨j, hj, rfl⟩ := List.getElem_of_mem hn
      simp at hj e
      exact hxm i (i + 1 + j) h2 (by omega) (by omega) e.symm
    generalize L[i] = x at *
    simp only [prevs, lastC] at hR hz
    have hx : x ∉ bef.map (·.1) := hk x List.mem_cons_self
    have ih := ins_m3 t2 t7 t65 t66 t67 r11 r44 r46 r78 r90 r111 r157 rN rM L hL lc ln hnd R z h0 k (i + 1) x (bef ++ [(x, last)]) (by omega) (fun n hn => by
      rw [List.map_append, List.mem_append]
      rintro (h | h)
      · exact hk n (List.mem_cons_of_mem _ hn) h
      · simp at h; exact hnx n hn h) (by rw [List.append_assoc]; exact hR) hz
    have f2 := befM_set x last bef hx
    have f3 := befM_fit bef
    have hfit : (KT.int .i64).fits (.int .i64 x) = true := rfl
    have e' : ∀ h : i < (ints L).length, (ints L)[i] = [tI x] := fun h => by rw [← e]; simp [h]
    simp only [i3E, i3G] at ih ⊢
    simp [h2, enc1_len, enc1_wid, e, e', f2, f3, hfit]
    rw [wrap_i64 (by omega) (by omega), hK]
    simpa using ih
end Go.Lg

/- scans.Insert: the loop over the chains. Conditions: none. -/
set_option linter.unusedSimpArgs false
set_option linter.unusedVariables false
set_option maxRecDepth 100000
namespace Go.Lg
open Go Go.Proofs
variable {Γ : Tables}

structure IS where
  nodes : List Nd
  names : List (List UInt8)
  cl : List (Sl Int)
  ins : List Int
  bef : List (Int × Int)
  outs : List Int
def siN (i : Nat) : List UInt8 := [115, 105] ++ itoaL i
def smN (i : Nat) : List UInt8 := [115, 109] ++ itoaL i
def stepCh (i : Nat) (s : Sl Int) (S : IS) : IS :=
  ⟨S.nodes ++ [inpN], S.names ++ [siN i], S.cl ++ [⟨s.l, some s.l.length, none⟩], S.ins ++ [(S.nodes.length : Int)], S.bef ++ prevs S.nodes.length s.l, S.outs ++ [lastC S.nodes.length s.l]⟩
def goCh : Nat → List (Sl Int) → IS → IS
  | _, [], S => S
  | i, s :: l, S => goCh (i + 1) l (stepCh i s S)
structure ISz (S : IS) : Prop where
  nodes : S.nodes.length ≤ 100000
  names : S.names.length ≤ 100000
  cl : S.cl.length ≤ 100000
  ins : S.ins.length ≤ 100000
  outs : S.outs.length ≤ 100000
structure ChOne (i : Nat) (s : Sl Int) (S : IS) : Prop where
  z : ISz S
  nm : siN i ∉ S.names
  i100 : i < 100
  ne : s.l ≠ []
  nl : s.nl ≠ some true
  len : s.l.length ≤ 1000000
  nd : s.l.Nodup
  key : ∀ n ∈ s.l, n ∉ S.bef.map (·.1)
def okCh : Nat → List (Sl Int) → IS → Prop
  | _, [], S => True
  | i, s :: l, S => ChOne i s S ∧ okCh (i + 1) l (stepCh i s S)

theorem wid1s {t : T} : wid 1 [[t]] = True := eq_true (by intro e he; simp at he; subst he; rfl)
theorem ba_cat (a b : List UInt8) : ByteArray.mk a.toArray ++ ByteArray.mk b.toArray = ByteArray.mk (a ++ b).toArray := by
  ext1; simp [ByteArray.data_append]
theorem siN_len {i : Nat} : (siN i).length ≤ 32 := by unfold siN itoaL; split <;> simp
theorem smN_len {i : Nat} : (smN i).length ≤ 32 := by unfold smN itoaL; split <;> simp

def i6E (c : Cir) (t7 : T) (chs : Sl (Sl Int)) (i : Nat) : List (Nat × AV) :=
  [(2, .t (.ip (tC c) 0)), (4, .lp 4 0 0), (7, .t t7), (8, .lp 46 0 0), (11, .lp 11 0 0), (12, .lm 64), (65, .t (.sl (enc1 tSl chs.l) chs.cap chs.nl)), (66, .t (tI chs.l.length)), (67, .t (tI i))]
def r11 (en : Int) (i : Nat) (k : Nat) : Reg := .bx [.t nilT, .t nilT, .t nilT, .t nilT, .ls 78 0 i none, .t (tI en), .ls 90 0 i none, .ls 157 0 k none]
def r46 (n m : Nat) (O : AV) : Reg := .bx [.ls 62040 0 n none, .ls 62052 0 m none, .t nilT, O, .lm 44, .t (tB false)]
def i6R (en : Int) (S : IS) : List (Nat × Reg) :=
  i3G (r11 en S.cl.length 0) (.mp (seenM S.names)) (r46 S.nodes.length S.names.length (.ls 111 0 S.outs.length none)) (.sl 31 1 (enc1 tSl S.cl)) (.sl 3 1 (ints S.ins)) (.sl 3 1 (ints S.outs)) (.sl 3 1 []) (.sl 48 4 (encN tNd S.nodes)) (.sl 9 1 (enc1 tS S.names)) S.bef
def i6T (en : Int) (ol : List Int) (oc : Option Nat) (on : Option Bool) (S : IS) : List (Nat × Reg) :=
  i3H (r11 en S.cl.length 0) (.mp (seenM S.names)) (r46 S.nodes.length S.names.length (.t (.sl (ints ol) oc on))) (.sl 31 1 (enc1 tSl S.cl)) (.sl 3 1 (ints S.ins)) (.sl 3 1 []) (.sl 48 4 (encN tNd S.nodes)) (.sl 9 1 (enc1 tS S.names)) S.bef

set_option maxHeartbeats 2000000 in
theorem ins_l5 {Q : AX → St → Prop} (c : Cir) (t7 : T) (chs : Sl (Sl Int)) (hcl : chs.l.length ≤ 100) (en : Int) (R : IS)
    (h0 : Q (.exit 2) ⟨i6E c t7 chs chs.l.length ++ [(68, .t (tB false))], i6R en R⟩) :
    ∀ (k i : Nat) (S : IS), k + i = chs.l.length → S.ins.length = S.cl.length → okCh i (chs.l.drop i) S → goCh i (chs.l.drop i) S = R →
    run Tryd.prog Γ scans_Insert_l5 Q ⟨i6E c t7 chs i, i6R en S⟩
  | 0, i, S, h, hic, hk, hR => by
    refine scans_Insert_l5_run fun K hK => ?_
    have h3 : i = chs.l.length := by omega
    subst h3
    rw [List.drop_of_length_le (Nat.le_refl _)] at hR
    simp only [goCh] at hR
    subst hR
    simp [i6E, i6R, i3G, Z8]
    simpa [i6E, i6R, i3G, Z8] using h0
  | k + 1, i, S, h, hic, hk, hR => by
    refine scans_Insert_l5_run fun K hK => ?_
    have h2 : i < chs.l.length := by omega
    rw [List.drop_eq_getElem_cons h2] at hR hk
    have e := enc1_get (f := tSl) ⟨[], none, none⟩ h2
    have e2 : chs.l[i]?.getD ⟨[], none, none⟩ = chs.l[i] := by simp [h2]
    rw [e2] at e
    generalize chs.l[i] = s at *
    obtain ⟨h1, h5⟩ := hk
    simp only [goCh] at hR
    have ih := ins_l5 c t7 chs hcl en R h0 k (i + 1) (stepCh i s S) (by omega) (by simp [stepCh, hic]) h5 hR
    have e' : ∀ h : i < (enc1 tSl chs.l).length, (enc1 tSl chs.l)[i] = [tSl s] := fun h => by rw [← e]; simp [h]
    have hz := h1.z
    have hso : SlOk s := ⟨fun h => absurd h h1.nl, fun _ => h1.ne, h1.len⟩
    have c1 := clone_int_a (Γ := Γ) s hso
    rw [if_neg h1.nl] at c1
    have c2 := clip_int (Γ := Γ) (ints s.l) none none enc1_wid
    have c3 := itoa_spec (Γ := Γ) i h1.i100
    have z1 := hz.nodes
    have z2 := hz.names
    have c4 := add_rr (Γ := Γ) S.names S.nodes S.names S.outs inpN (siN i) (by omega) (by omega) h1.nm siN_len
    have tk1 : (enc1 tSl S.cl).take S.cl.length = enc1 tSl S.cl := enc1_take_len
    have q1 : enc1 tSl S.cl ++ [[.sl (ints s.l) (some s.l.length) none]] = enc1 tSl (S.cl ++ [⟨s.l, some s.l.length, none⟩]) := enc1_snoc (f := tSl) (x := ⟨s.l, some s.l.length, none⟩)
    simp only [tSl] at c1 e e' q1
    simp [i6E, i6R, i3G, r11, r46, h2, enc1_len, enc1_wid, e, e']
    refine callK_fresh c1 rfl ?_
    simp
    refine callK_pure c2 rfl ?_
    simp [enc1_len, enc1_wid, tk1, q1, wid1s, Z8]
    have hcl2 : S.cl.length ≤ 2147483647 := by have := hz.cl; omega
    refine ⟨hcl2, ?_⟩
    refine callK_fresh c3 rfl ?_
    simp [tS, sV, ba_cat, List.idxOf_cons]
    have hil : 2 + (itoaL i).length ≤ 9223372036854775807 := by unfold itoaL; split <;> simp
    refine ⟨hil, ?_⟩
    simp [tNd, inpN, tSl, enc1_nil, tS, sV, siN] at c4
    have g3 := fun Q r11 r44 r46 r78 r90 r111 r157 rN rM h0 => ins_m3 (Γ := Γ) (Q := Q) (.ip (tC c) 0) t7 (.sl (enc1 tSl chs.l) chs.cap chs.nl) (tI chs.l.length) (tI i) r11 r44 r46 r78 r90 r111 r157 rN rM s.l h1.len s.cap s.nl h1.nd _ _ h0 s.l.length 0 S.nodes.length S.bef (by omega) h1.key rfl rfl
    simp [i3E, i3G, Z8] at g3
    have q2 : ints S.ins ++ [[tI S.nodes.length]] = ints (S.ins ++ [(S.nodes.length : Int)]) := enc1_snoc
    have tk2 : (ints S.ins).take S.cl.length = ints S.ins := by rw [← hic]; exact enc1_take_len
    have q3 : ints S.outs ++ [[tI (lastC S.nodes.length s.l)]] = ints (S.outs ++ [lastC S.nodes.length s.l]) := enc1_snoc
    have tk3 : (ints S.outs).take S.outs.length = ints S.outs := enc1_take_len
    refine ⟨_, _, c4, ?_⟩
    simp [List.idxOf_cons, renSt, wid1s, hcl2, tk2, q2, enc1_len]
    refine g3 _ _ _ _ _ _ _ _ _ _ ?_
    simp [wid1s, tk3, q3, enc1_len]
    refine ⟨by have := hz.outs; omega, ?_⟩
    rw [wrap_i64 (by omega) (by omega), hK]
    simpa [i6E, i6R, i3G, r11, r46, Z8, stepCh, nilT, inpN, siN, hic, tSl] using ih
end Go.Lg

/- scans.Insert: the loop over the chains, from its start. Conditions: none. -/
set_option linter.unusedSimpArgs false
set_option linter.unusedVariables false
set_option maxRecDepth 100000
namespace Go.Lg
open Go Go.Proofs
variable {Γ : Tables}

set_option maxHeartbeats 2000000 in
theorem ins_l5t {Q : AX → St → Prop} (c : Cir) (t7 : T) (chs : Sl (Sl Int)) (hcl : chs.l.length ≤ 100) (en : Int) (R : IS) (on : Option Bool) (S : IS)
    (h0 : chs.l ≠ [] → Q (.exit 2) ⟨i6E c t7 chs chs.l.length ++ [(68, .t (tB false))], i6R en R⟩)
    (h0t : chs.l = [] → Q (.exit 2) ⟨i6E c t7 chs 0 ++ [(68, .t (tB false))], i6T en S.outs (some S.outs.length) on S⟩)
    (hic : S.ins.length = S.cl.length) (hk : okCh 0 chs.l S) (hR : goCh 0 chs.l S = R) :
    run Tryd.prog Γ scans_Insert_l5 Q ⟨i6E c t7 chs 0, i6T en S.outs (some S.outs.length) on S⟩ := by
  by_cases hne : chs.l = []
  · have hh := h0t hne
    refine scans_Insert_l5_run fun K hK => ?_
    have hl0 : chs.l.length = 0 := by rw [hne]; rfl
    simp [i6E, i6T, i3H, Z8, hl0] at hh ⊢
    simpa [i6E, i6T, i3H, Z8] using hh
  · have h0 := h0 hne
    have hlen : 0 < chs.l.length := List.length_pos_iff.2 hne
    have step := fun S hs h1 h2 => ins_l5 (Γ := Γ) (Q := Q) c t7 chs hcl en R h0 (chs.l.length - 1) 1 S (by omega) hs h1 h2
    refine scans_Insert_l5_run fun K hK => ?_
    have hdr : chs.l = chs.l[0] :: chs.l.drop 1 := by
      have := List.drop_eq_getElem_cons hlen
      simpa using this
    rw [hdr] at hk hR
    have e := enc1_get (f := tSl) ⟨[], none, none⟩ hlen
    have e2 : chs.l[0]?.getD ⟨[], none, none⟩ = chs.l[0] := by simp [hlen]
    rw [e2] at e
    generalize chs.l[0] = s at *
    obtain ⟨h1, h5⟩ := hk
    simp only [goCh] at hR
    have ih := step (stepCh 0 s S) (by simp [stepCh, hic]) h5 hR
    have e' : ∀ h : 0 < (enc1 tSl chs.l).length, (enc1 tSl chs.l)[0] = [tSl s] := fun h => by rw [← e]; simp [h]
    have hz := h1.z
    have hso : SlOk s := ⟨fun h => absurd h h1.nl, fun _ => h1.ne, h1.len⟩
    have c1 := clone_int_a (Γ := Γ) s hso
    rw [if_neg h1.nl] at c1
    have c2 := clip_int (Γ := Γ) (ints s.l) none none enc1_wid
    have c3 := itoa_spec (Γ := Γ) 0 h1.i100
    have z1 := hz.nodes
    have z2 := hz.names
    have c4 := add_rt (Γ := Γ) S.names S.nodes S.names S.outs (some S.outs.length) on inpN (siN 0) (by omega) (by omega) h1.nm siN_len
    have tk1 : (enc1 tSl S.cl).take S.cl.length = enc1 tSl S.cl := enc1_take_len
    have q1 : enc1 tSl S.cl ++ [[.sl (ints s.l) (some s.l.length) none]] = enc1 tSl (S.cl ++ [⟨s.l, some s.l.length, none⟩]) := enc1_snoc (f := tSl) (x := ⟨s.l, some s.l.length, none⟩)
    have hlen' : chs.l.length ≠ 0 := by omega
    simp only [tSl] at c1 e e' q1
    simp [i6E, i6T, i3H, r11, r46, hlen, enc1_len, enc1_wid, e, e']
    refine callK_fresh c1 rfl ?_
    simp
    refine callK_pure c2 rfl ?_
    simp [enc1_len, enc1_wid, tk1, q1, wid1s, Z8]
    have hcl2 : S.cl.length ≤ 2147483647 := by have := hz.cl; omega
    refine ⟨hcl2, ?_⟩
    refine callK_fresh c3 rfl ?_
    simp [tS, sV, ba_cat, List.idxOf_cons]
    have hil : 2 + (itoaL 0).length ≤ 9223372036854775807 := by unfold itoaL; split <;> simp
    refine ⟨hil, ?_⟩
    simp [tNd, inpN, tSl, enc1_nil, tS, sV, siN] at c4
    have g3 := fun Q r11 r44 r46 r78 r90 r157 rN rM h0 => ins_l3 (Γ := Γ) (Q := Q) (.ip (tC c) 0) t7 (.sl (enc1 tSl chs.l) chs.cap chs.nl) (tI chs.l.length) (tI 0) r11 r44 r46 r78 r90 r157 rN rM s.l h1.len s.cap s.nl h1.nd _ _ h0 s.l.length 0 S.nodes.length S.bef (by omega) h1.key rfl rfl
    simp [i3E, i3H, Z8] at g3
    have q2 : ints S.ins ++ [[tI S.nodes.length]] = ints (S.ins ++ [(S.nodes.length : Int)]) := enc1_snoc
    have tk2 : (ints S.ins).take S.cl.length = ints S.ins := by rw [← hic]; exact enc1_take_len
    have q3 : ints S.outs ++ [[tI (lastC S.nodes.length s.l)]] = ints (S.outs ++ [lastC S.nodes.length s.l]) := enc1_snoc
    have tk3 : (ints S.outs).take S.outs.length = ints S.outs := enc1_take_len
    refine ⟨_, _, c4, ?_⟩
    simp [List.idxOf_cons, renSt, wid1s, hcl2, tk2, q2, enc1_len]
    refine g3 _ _ _ _ _ _ _ _ _ ?_
    simp [wid1s, tk3, q3, enc1_len, enc1_wid]
    refine ⟨by have := hz.outs; omega, ?_⟩
    rw [wrap_i64 (by omega) (by omega), hK]
    simpa [i6E, i6R, i3G, r11, r46, Z8, stepCh, nilT, inpN, siN, hic, tSl] using ih
end Go.Lg

/- Circuits from plain data are valid. Conditions: none. -/
set_option linter.unusedSimpArgs false
set_option linter.unusedVariables false
set_option maxRecDepth 100000
namespace Go.Lg
open Go Go.Proofs

structure NG (B : Bool) (ns : List Nd) (i : Nat) (x : Nd) : Prop where
  k : 0 ≤ x.k ∧ x.k ≤ 15
  f : (fan x.k).1 ≤ x.inn.l.length ∧ (x.inn.l.length : Int) ≤ (fan x.k).2
  inn : ∀ p ∈ x.inn.l, 0 ≤ p ∧ p < ns.length
  top : 1 ≤ x.k ∧ x.k ≤ 13 → ∀ p ∈ x.inn.l, p < i
  bus : x.k = 13 → ∀ p ∈ x.inn.l, (ns.getD p.toNat Nd.d).k = 12
  mm : (x.k ≠ 15 → x.mem = 0 ∧ x.bit = 0) ∧ (x.k = 15 → B = true ∧ x.mem = 0 ∧ 0 ≤ x.bit ∧ x.bit ≤ 1)

theorem NG.mono {B : Bool} {ns ys : List Nd} {i : Nat} {x : Nd} (h : NG B ns i x) : NG B (ns ++ ys) i x :=
  ⟨h.k, h.f, fun p hp => by have := h.inn p hp; simp; omega, h.top, fun hk p hp => by
    have h1 := h.inn p hp
    rw [List.getD_eq_getElem?_getD, List.getElem?_append_left (by omega), ← List.getD_eq_getElem?_getD]
    exact h.bus hk p hp, h.mm⟩

def GNs (B : Bool) (ns : List Nd) : Prop := ∀ i (h : i < ns.length), NG B ns i ns[i]

theorem GNs.add {B : Bool} {ns : List Nd} {y : Nd} (h : GNs B ns) (hy : NG B (ns ++ [y]) ns.length y) : GNs B (ns ++ [y]) := by
  intro i hi
  by_cases h1 : i < ns.length
  · rw [List.getElem_append_left h1]; exact (h i h1).mono
  · have : i = ns.length := by simp at hi; omega
    subst this
    simpa using hy

theorem fan_at : fan 0 = (0, 0) ∧ fan 1 = (0, 0) ∧ fan 2 = (0, 0) ∧ fan 3 = (1, 1) ∧ fan 4 = (1, 1) ∧ fan 5 = (2, 16) ∧ fan 6 = (2, 16) ∧ fan 7 = (2, 16) ∧ fan 8 = (2, 16) ∧ fan 9 = (2, 16) ∧ fan 10 = (2, 16) ∧ fan 11 = (3, 3) ∧ fan 12 = (2, 2) ∧ fan 13 = (1, 16) ∧ fan 14 = (1, 1) ∧ fan 15 = (0, 0) := by decide

theorem ng_inp {B : Bool} {ns : List Nd} {i : Nat} : NG B ns i inpN := ⟨by decide, by decide, by simp [inpN], by simp [inpN], by simp [inpN], by simp [inpN]⟩
theorem ng_dff {B : Bool} {ns : List Nd} {i : Nat} {v : Int} (h : 0 ≤ v ∧ v < ns.length) : NG B ns i (dffN v) := ⟨by simp [dffN], by simp [dffN, fan_at], by simp [dffN]; exact h, by simp [dffN], by simp [dffN], by simp [dffN]⟩
theorem ng_mem {ns : List Nd} {i : Nat} {b : Int} (h : b = 0 ∨ b = 1) : NG true ns i (memN b) := ⟨by simp [memN], by simp [memN, fan_at], by simp [memN], by simp [memN], by simp [memN], by simp [memN]; omega⟩

theorem tri_at {ns : List Nd} : ∀ p ∈ triL ns, 0 ≤ p ∧ p < ns.length ∧ (ns.getD p.toNat Nd.d).k = 12 := by
  intro p hp
  obtain ⟨h1, h2, h3⟩ := ofL_kind [12] ns 0 p hp
  refine ⟨by omega, by omega, ?_⟩
  simpa using h3

theorem getD_in {l : List Int} {q : Nat} (h : q < l.length) : l.getD q 0 ∈ l := by
  rw [List.getD_eq_getElem?_getD, List.getElem?_eq_getElem h]; exact List.getElem_mem h

theorem ng_gate {B bus : Bool} {g : Gd} {ns : List Nd} (hg : GdOk g) (h0 : 1 ≤ ns.length) : NG B (ns ++ [gateN bus g ns]) ns.length (gateN bus g ns) := by
  have a := tmod_lt (n := ns.length) hg.2.1.1 (by omega)
  have b := tmod_lt (n := ns.length) hg.2.2.1.1 (by omega)
  have d := tmod_lt (n := ns.length) hg.2.2.2.1 (by omega)
  have m13 : 0 ≤ g.k.tmod 13 ∧ g.k.tmod 13 < 13 := tmod_lt (n := 13) hg.1.1 (by omega)
  have m9 : 0 ≤ g.k.tmod 9 ∧ g.k.tmod 9 < 9 := tmod_lt (n := 9) hg.1.1 (by omega)
  have ma : 0 ≤ g.a.tmod 2 ∧ g.a.tmod 2 < 2 := tmod_lt (n := 2) hg.2.1.1 (by omega)
  have hkk : 0 ≤ (if bus then g.k.tmod 13 else g.k.tmod 9) ∧ (if bus then g.k.tmod 13 else g.k.tmod 9) < 13 := by cases bus <;> simp <;> omega
  have ht := tri_at (ns := ns)
  obtain ⟨y, hy⟩ : ∃ y, y = gateN bus g ns := ⟨_, rfl⟩
  rw [← hy]
  have hlen : (ns ++ [y]).length = ns.length + 1 := by simp
  have old : ∀ p : Int, 0 ≤ p → p < ns.length → ((ns ++ [y]).getD p.toNat Nd.d).k = (ns.getD p.toNat Nd.d).k := fun p h1 h2 => by
    rw [List.getD_eq_getElem?_getD, List.getElem?_append_left (by omega), ← List.getD_eq_getElem?_getD]
  -- what suffices of a plain gate
  have mk : ∀ (k : Int) (l : List Int) (cap : Option Nat) (nl : Option Bool), 0 ≤ k → k ≤ 15 → k ≠ 13 → k ≠ 15 → (fan k).1 ≤ l.length → (l.length : Int) ≤ (fan k).2 → (∀ p ∈ l, 0 ≤ p ∧ p < ns.length) → NG B (ns ++ [y]) ns.length ⟨k, ⟨l, cap, nl⟩, 0, 0⟩ := fun k l cap nl h1 h2 h3 h4 h5 h6 h7 =>
    ⟨⟨h1, h2⟩, ⟨h5, h6⟩, fun p hp => by have := h7 p hp; omega, fun _ p hp => (h7 p hp).2, fun e => absurd e h3, fun _ => ⟨rfl, rfl⟩, fun e => absurd e h4⟩
  unfold gateN gateT at hy
  simp only at hy
  generalize g.a.tmod ns.length = a' at *
  generalize g.b.tmod ns.length = b' at *
  generalize g.d.tmod ns.length = d' at *
  generalize (if bus = true then g.k.tmod 13 else g.k.tmod 9) = kk at *
  have two : ∀ p ∈ [a', b'], 0 ≤ p ∧ p < ns.length := by intro p hp; simp at hp; rcases hp with rfl | rfl; exact a; exact b
  have three : ∀ p ∈ [a', b', d'], 0 ≤ p ∧ p < ns.length := by intro p hp; simp at hp; rcases hp with rfl | rfl | rfl; exact a; exact b; exact d
  have one : ∀ p ∈ [a'], 0 ≤ p ∧ p < ns.length := by intro p hp; simp at hp; rcases hp with rfl; exact a
  split at hy
  · rename_i h6
    have hc : kk = 0 ∨ kk = 1 ∨ kk = 2 ∨ kk = 3 ∨ kk = 4 ∨ kk = 5 := by omega
    split at hy
    · rw [hy]
      have hf : (fan (5 + kk)).1 = 2 ∧ (fan (5 + kk)).2 = 16 := by rcases hc with rfl | rfl | rfl | rfl | rfl | rfl <;> decide
      rw [← hy]
      have := mk (5 + kk) [a', b', d'] none none (by omega) (by omega) (by omega) (by omega) (by rw [hf.1]; simp) (by rw [hf.2]; simp) three
      rw [← hy] at this; exact this
    · have hf : (fan (5 + kk)).1 = 2 ∧ (fan (5 + kk)).2 = 16 := by rcases hc with rfl | rfl | rfl | rfl | rfl | rfl <;> decide
      have := mk (5 + kk) [a', b'] none none (by omega) (by omega) (by omega) (by omega) (by rw [hf.1]; simp) (by rw [hf.2]; simp) two
      rw [← hy] at this; exact this
  split at hy
  · have := mk 4 [a'] none none (by omega) (by omega) (by omega) (by omega) (by simp [fan_at]) (by simp [fan_at]) one
    rw [← hy] at this; exact this
  split at hy
  · have := mk 11 [a', b', d'] none none (by omega) (by omega) (by omega) (by omega) (by simp [fan_at]) (by simp [fan_at]) three
    rw [← hy] at this; exact this
  split at hy
  · have := mk 12 [a', b'] none none (by omega) (by omega) (by omega) (by omega) (by simp [fan_at]) (by simp [fan_at]) two
    rw [← hy] at this; exact this
  split at hy
  · rename_i ht2
    generalize triL ns = t at *
    have mt := tmod_lt (n := t.length) hg.2.1.1 ht2.2
    have mt2 := tmod_lt (a := g.a.tmod t.length + 1) (n := t.length) (by omega) ht2.2
    have q1 := ht _ (getD_in (l := t) (q := (g.a.tmod t.length).toNat) (by omega))
    have q2 := ht _ (getD_in (l := t) (q := ((g.a.tmod t.length + 1).tmod t.length).toNat) (by omega))
    generalize t.getD (g.a.tmod t.length).toNat 0 = u1 at *
    generalize t.getD ((g.a.tmod t.length + 1).tmod t.length).toNat 0 = u2 at *
    have mkb : ∀ (l : List Int) (cap : Option Nat) (nl : Option Bool), 1 ≤ l.length → l.length ≤ 16 → (∀ p ∈ l, 0 ≤ p ∧ p < ns.length ∧ (ns.getD p.toNat Nd.d).k = 12) → NG B (ns ++ [y]) ns.length ⟨13, ⟨l, cap, nl⟩, 0, 0⟩ := fun l cap nl h5 h6 h7 =>
      ⟨by simp, ⟨by simp [fan_at]; omega, by simp [fan_at]; omega⟩, fun p hp => by have := h7 p hp; omega, fun _ p hp => (h7 p hp).2.1, fun _ p hp => by rw [old p (h7 p hp).1 (h7 p hp).2.1]; exact (h7 p hp).2.2, fun _ => ⟨rfl, rfl⟩, fun e => by simp at e⟩
    split at hy
    · have := mkb [u1, u2] none none (by simp) (by simp) (by intro p hp; simp at hp; rcases hp with rfl | rfl; exact q1; exact q2)
      rw [← hy] at this; exact this
    · have := mkb [u1] none none (by simp) (by simp) (by intro p hp; simp at hp; rcases hp with rfl; exact q1)
      rw [← hy] at this; exact this
  split at hy
  · have hc : g.a.tmod 2 = 0 ∨ g.a.tmod 2 = 1 := by omega
    have hf : (fan (1 + g.a.tmod 2)).1 = 0 ∧ (fan (1 + g.a.tmod 2)).2 = 0 := by rcases hc with e | e <;> rw [e] <;> decide
    have := mk (1 + g.a.tmod 2) [] (some 0) (some true) (by omega) (by omega) (by omega) (by omega) (by rw [hf.1]; simp) (by rw [hf.2]; simp) (by simp)
    rw [← hy] at this; exact this
  · have := mk 3 [a'] none none (by omega) (by omega) (by omega) (by omega) (by simp [fan_at]) (by simp [fan_at]) one
    rw [← hy] at this; exact this

theorem gns_gates {B bus : Bool} : ∀ {l : List Gd} {ns : List Nd}, (∀ g ∈ l, GdOk g) → 1 ≤ ns.length → GNs B ns → GNs B (gatesN bus l ns)
  | [], ns, _, _, h => h
  | g :: l, ns, hg, h0, h => by
    simp only [gatesN]
    exact gns_gates (fun y hy => hg y (List.mem_cons_of_mem _ hy)) (by simp) (h.add (ng_gate (hg g List.mem_cons_self) h0))

theorem gns_set {B : Bool} {ns : List Nd} {j : Nat} {v : Int} (h : GNs B ns) (hj : j < ns.length) (hk : ns[j].k = 14) (hv : 0 ≤ v ∧ v < ns.length) : GNs B (setIn ns j v) := by
  have hm := (h j hj).mm.1 (by rw [hk]; decide)
  have hgd : ns.getD j Nd.d = ns[j] := by simp [List.getD_eq_getElem?_getD, hj]
  have kinds : ∀ q : Nat, ((setIn ns j v).getD q Nd.d).k = (ns.getD q Nd.d).k := fun q => by
    unfold setIn
    simp only [List.getD_eq_getElem?_getD, List.getElem?_set]
    split
    · rename_i e; subst e; simp [hj]
    · rfl
  intro i hi
  have hi' : i < ns.length := by rw [setIn_len] at hi; exact hi
  by_cases hij : i = j
  · subst hij
    have : (setIn ns i v)[i] = ⟨14, ⟨[v], some 1, some false⟩, 0, 0⟩ := by
      simp only [setIn, hgd, hk, hm.1, hm.2, List.getElem_set_self]
    rw [this]
    exact ⟨by simp, by simp [fan_at], by simp [setIn_len]; exact hv, by simp, by simp, by simp⟩
  · have : (setIn ns j v)[i] = ns[i] := by
      simp only [setIn]
      rw [List.getElem_set_ne (fun e => hij e.symm)]
    rw [this]
    have hn := h i hi'
    exact ⟨hn.k, hn.f, fun p hp => by rw [setIn_len]; exact hn.inn p hp, hn.top, fun hk p hp => by rw [kinds]; exact hn.bus hk p hp, hn.mm⟩

theorem setIn_kind {ns : List Nd} {j q : Nat} {v : Int} : ((setIn ns j v).getD q Nd.d).k = (ns.getD q Nd.d).k := by
  unfold setIn
  simp only [List.getD_eq_getElem?_getD, List.getElem?_set]
  split
  · rename_i e; subst e
    split
    · simp
    · rename_i h; simp [List.getElem?_eq_none (Nat.le_of_not_lt h)]
  · rfl

theorem gns_data {B : Bool} {x : CD} {first : Nat} (h0 : Byt x.d0) (h1 : Byt x.d1) : ∀ {k i : Nat} {ns : List Nd}, GNs B ns → (∀ q, q < i + k → first + q < ns.length ∧ (ns.getD (first + q) Nd.d).k = 14) → GNs B (dataN x first k i ns)
  | 0, _, _, h, _ => h
  | k + 1, i, ns, h, hq => by
    simp only [dataN]
    obtain ⟨hl, hk⟩ := hq i (by omega)
    have hd : 0 ≤ ddN x i := by unfold ddN; split; exact h0.1; exact h1.1
    have hv := tmod_lt (n := ns.length) hd (by omega)
    refine gns_data h0 h1 (gns_set h hl (by simpa [List.getD_eq_getElem?_getD, hl] using hk) hv) fun q hq' => ?_
    rw [setIn_len, setIn_kind]
    exact hq q (by omega)

theorem gatesN_kind {bus : Bool} : ∀ {l : List Gd} {ns : List Nd} {q : Nat}, q < ns.length → ((gatesN bus l ns).getD q Nd.d) = (ns.getD q Nd.d)
  | [], _, _, _ => rfl
  | g :: l, ns, q, h => by
    simp only [gatesN]
    rw [gatesN_kind (by simp; omega)]
    rw [List.getD_eq_getElem?_getD, List.getElem?_append_left h, ← List.getD_eq_getElem?_getD]

theorem gns_rep {B : Bool} {x : Nd} (h : ∀ ns : List Nd, 1 ≤ ns.length → ∀ i, NG B ns i x) : ∀ (k : Nat) {ns : List Nd}, GNs B ns → GNs B (ns ++ List.replicate k x)
  | 0, ns, hn => by simpa using hn
  | k + 1, ns, hn => by
    rw [List.replicate_succ, List.append_cons]
    exact gns_rep h k (hn.add (h _ (by simp) _))

theorem nodes5_good {x : CD} (hx : CDOk x) : GNs x.mem (nodes5 x) := by
  have m4 : 0 ≤ x.i.tmod 4 ∧ x.i.tmod 4 < 4 := tmod_lt (n := 4) hx.i.1 (by omega)
  have m3 : 0 ≤ x.f.tmod 3 ∧ x.f.tmod 3 < 3 := tmod_lt (n := 3) hx.f.1 (by omega)
  have g0 : GNs x.mem [] := fun i h => by simp at h
  have g1 : GNs x.mem (nodes1 x) := by
    have := gns_rep (B := x.mem) (x := inpN) (fun ns _ i => ng_inp) (x.i.tmod 4 + 1).toNat g0
    simpa [nodes1] using this
  have l1 : 1 ≤ (nodes1 x).length := by simp [nodes1]; omega
  have g2 : GNs x.mem (nodes2 x) := gns_rep (fun ns h i => ng_dff ⟨by omega, by omega⟩) _ g1
  have l2 : (nodes2 x).length = (nodes1 x).length + (x.f.tmod 3).toNat := by simp [nodes2]
  have g3 : GNs x.mem (nodes3 x) := by
    unfold nodes3
    split
    · rename_i hm
      rw [hm] at g2 ⊢
      have a1 := g2.add (y := memN 0) (ng_mem (.inl rfl))
      have a2 := a1.add (y := memN 1) (ng_mem (.inr rfl))
      rw [List.append_assoc] at a2
      exact a2
    · exact g2
  have l3 : (nodes2 x).length ≤ (nodes3 x).length := by unfold nodes3; split <;> simp
  have g4 : GNs x.mem (nodes4 x) := gns_gates (fun g hg => hx.gates g (List.mem_of_mem_take hg)) (by omega) g3
  have l4 : (nodes3 x).length ≤ (nodes4 x).length := by unfold nodes4; rw [gatesN_len]; omega
  refine gns_data hx.d0 hx.d1 g4 fun q hq => ⟨by omega, ?_⟩
  unfold nodes4
  rw [gatesN_kind (by omega)]
  have e : (nodes3 x).getD ((nodes1 x).length + q) Nd.d = (nodes2 x).getD ((nodes1 x).length + q) Nd.d := by
    unfold nodes3
    split
    · rw [List.getD_eq_getElem?_getD, List.getElem?_append_left (by omega), ← List.getD_eq_getElem?_getD]
    · rfl
  rw [e]
  unfold nodes2
  rw [List.getD_eq_getElem?_getD, List.getElem?_append_right (by omega)]
  simp only [Nat.add_sub_cancel_left]
  rw [List.getElem?_replicate, if_pos (by omega)]
  rfl

theorem firstErr_all {α : Type} {f : α → Int} : ∀ {l : List α}, (∀ x ∈ l, f x = 0) → firstErr (l.map f) = 0
  | [], _ => rfl
  | x :: l, h => by
    simp only [List.map_cons, firstErr, h x List.mem_cons_self, ne_eq, not_true_eq_false, if_false]
    exact firstErr_all fun y hy => h y (List.mem_cons_of_mem _ hy)

theorem names_fine : ∀ n, n ≤ 16 → namesErr [] ((List.range' 0 n).map nameL) = 0 := by
  intro n hn
  have : n = 0 ∨ n = 1 ∨ n = 2 ∨ n = 3 ∨ n = 4 ∨ n = 5 ∨ n = 6 ∨ n = 7 ∨ n = 8 ∨ n = 9 ∨ n = 10 ∨ n = 11 ∨ n = 12 ∨ n = 13 ∨ n = 14 ∨ n = 15 ∨ n = 16 := by omega
  rcases this with rfl | rfl | rfl | rfl | rfl | rfl | rfl | rfl | rfl | rfl | rfl | rfl | rfl | rfl | rfl | rfl | rfl <;> decide +kernel

theorem ofC_shape {x : CD} (hx : CDOk x) : shapeErr (ofC x) = 0 := by
  have hl := nodes4_len hx
  have h5 := nodes5_len hx
  have hg := nodes5_good hx
  have hN : (ofC x).nodes.l = nodes5 x := rfl
  have hmods : ∀ b, Byt b → 0 ≤ b.tmod (nodes4 x).length ∧ b.tmod (nodes4 x).length < (nodes5 x).length := fun b hb => by
    have := tmod_lt (n := (nodes4 x).length) hb.1 (by omega); omega
  have hout : ∀ n, 0 ≤ n ∧ n < ((nodes5 x).length : Int) → outP (ofC x) n = false := fun n h => by simp [outP, hN]; omega
  have hnode : ∀ y ∈ nodes5 x, nodeErr (ofC x) y = 0 := by
    intro y hy
    obtain ⟨i, hi, rfl⟩ := List.getElem_of_mem hy
    have hn := hg i hi
    unfold nodeErr
    rw [if_neg (by have := hn.k; omega), if_neg (by have := hn.f; omega)]
    have h1 : (nodes5 x)[i].inn.l.any (outP (ofC x)) = false := List.any_eq_false.2 fun p hp => by rw [hout p (hn.inn p hp)]; simp
    rw [h1]
    have h2 : ¬ ((nodes5 x)[i].k = 13 ∧ (nodes5 x)[i].inn.l.any (notTri (ofC x)) = true) := by
      rintro ⟨hk, ha⟩
      obtain ⟨p, hp, hq⟩ := List.any_eq_true.1 ha
      have := hn.bus hk p hp
      simp [notTri, hN] at hq
      rw [List.getD_eq_getElem?_getD] at this
      exact hq this
    rw [if_neg (by simp), if_neg h2]
    have h3 : bitOk (ofC x) (nodes5 x)[i] = true := by
      unfold bitOk
      by_cases hk : (nodes5 x)[i].k = 15
      · obtain ⟨hm, e1, e2, e3⟩ := hn.mm.2 hk
        simp only [hk, ne_eq, not_true_eq_false, if_false, decide_eq_true_eq]
        simp [ofC, memM, hm, e1]
        omega
      · have := hn.mm.1 hk
        simp [hk, this]
    rw [h3]; simp
  unfold shapeErr
  have e1 : ¬ (16384 < (ofC x).nodes.l.length ∨ 16 < (ofC x).mems.l.length ∨ 16384 < (ofC x).outs.l.length) := by
    have : (ofC x).mems.l.length ≤ 1 := by simp only [ofC, memM]; split <;> simp
    have : (ofC x).outs.l.length ≤ 4 := by simp [ofC]; omega
    rw [hN]; omega
  have e2 : (ofC x).names.l.length = (ofC x).nodes.l.length := by rw [hN]; simp [ofC]; omega
  rw [if_neg e1, if_neg (by simp [e2]), if_neg (by rw [hN, firstErr_all hnode]; simp), if_neg (by
    rw [show (ofC x).names.l = (List.range' 0 (nodes4 x).length).map nameL from rfl, names_fine _ hl.2]; simp), if_neg (by
    rw [firstErr_all]
    · simp
    · intro m hm
      simp only [ofC, memM] at hm
      split at hm
      · simp at hm; subst hm
        unfold memErr
        have a0 := hout _ (hmods _ hx.p0)
        have a1 := hout _ (hmods _ hx.p1)
        have a2 := hout _ (hmods _ hx.p2)
        have a3 := hout _ (hmods _ hx.p3)
        simp [memOut, a0, a1, a2, a3]
      · cases hm)]
  have ho : (ofC x).outs.l.any (outP (ofC x)) = false := by
    refine List.any_eq_false.2 fun p hp => ?_
    have : 0 ≤ p ∧ p < ((nodes5 x).length : Int) := by
      simp only [ofC, List.mem_append, List.mem_map, List.mem_singleton] at hp
      rcases hp with ⟨b, hb, rfl⟩ | rfl
      · exact hmods b (hx.outs b (List.mem_of_mem_take hb))
      · omega
    rw [hout p this]; simp
  rw [ho]; rfl

/-- Every circuit of plain data is valid. -/
theorem ofC_valid {x : CD} (hx : CDOk x) : levErr (ofC x) = 0 := by
  have hs := ofC_shape hx
  have hg := nodes5_good hx
  have hN : (ofC x).nodes.l = nodes5 x := rfl
  have hin : ∀ y ∈ (ofC x).nodes.l, ∀ p ∈ y.inn.l, 0 ≤ p ∧ p < (ofC x).nodes.l.length := by
    intro y hy p hp
    rw [hN] at hy ⊢
    obtain ⟨i, hi, rfl⟩ := List.getElem_of_mem hy
    exact (hg i hi).inn p hp
  have hd := levels_done (ofC x) (shape_facts hs).2.1 hin (by
    intro i hi hc p hp
    rw [hN] at hi
    have e : (ofC x).nodes.l.getD i Nd.d = (nodes5 x)[i] := by rw [hN]; simp [List.getD_eq_getElem?_getD, hi]
    simp only [kindAt, innAt, e] at hc hp
    exact (hg i hi).top (by simpa [combB] using hc) p hp)
  unfold levErr
  rw [if_neg (by simp [hs]), if_neg hd]

end Go.Lg

/- scans.Insert: the loop over the states. Conditions: none. -/
set_option linter.unusedSimpArgs false
set_option linter.unusedVariables false
set_option maxRecDepth 100000
namespace Go.Lg
open Go Go.Proofs
variable {Γ : Tables}

structure JS where
  nodes : List Nd
  names : List (List UInt8)
  muxes : List Int
def muxN (e d b : Int) : Nd := ⟨11, ⟨[e, d, b], some 3, some false⟩, 0, 0⟩
def in0 (c : Cir) (n : Int) : Int := (innAt c n.toNat).getD 0 0
def stepSt (c : Cir) (en : Int) (bef : List (Int × Int)) (i : Nat) (n : Int) (J : JS) : JS :=
  ⟨setIn (J.nodes ++ [muxN en (in0 c n) (befOf bef n)]) n.toNat J.nodes.length, J.names ++ [smN i], J.muxes ++ [(J.nodes.length : Int)]⟩
def goSt (c : Cir) (en : Int) (bef : List (Int × Int)) : Nat → List Int → JS → JS
  | _, [], J => J
  | i, n :: l, J => goSt c en bef (i + 1) l (stepSt c en bef i n J)
structure StOne (c : Cir) (i : Nat) (n : Int) (J : JS) : Prop where
  nodes : J.nodes.length ≤ 100000
  names : J.names.length ≤ 100000
  muxes : J.muxes.length ≤ 100000
  nm : smN i ∉ J.names
  i100 : i < 100
  n0 : 0 ≤ n
  n1 : n < c.nodes.l.length
  n2 : n < J.nodes.length
  inn : innAt c n.toNat ≠ []
def okSt (c : Cir) (en : Int) (bef : List (Int × Int)) : Nat → List Int → JS → Prop
  | _, [], _ => True
  | i, n :: l, J => StOne c i n J ∧ okSt c en bef (i + 1) l (stepSt c en bef i n J)

def i8E (c : Cir) (st : List Int) (sc : Option Nat) (sn : Option Bool) (i : Nat) : List (Nat × AV) :=
  [(2, .t (.ip (tC c) 0)), (4, .lp 4 0 0), (8, .lp 46 0 0), (11, .lp 11 0 0), (12, .lm 64), (116, .t (.sl (ints st) sc sn)), (117, .t (tI st.length)), (118, .t (tI i))]
def i8R (en : Int) (S : IS) (J : JS) : List (Nat × Reg) :=
  i3G (r11 en S.cl.length J.muxes.length) (.mp (seenM J.names)) (r46 J.nodes.length J.names.length (.ls 111 0 S.outs.length none)) (.sl 31 1 (enc1 tSl S.cl)) (.sl 3 1 (ints S.ins)) (.sl 3 1 (ints S.outs)) (.sl 3 1 (ints J.muxes)) (.sl 48 4 (encN tNd J.nodes)) (.sl 9 1 (enc1 tS J.names)) S.bef

theorem nd_at {c : Cir} {n : Int} (h0 : 0 ≤ n) (h : n < c.nodes.l.length) : (encN tNd c.nodes.l)[n.toNat]?.getD [] = tNd (c.nodes.l.getD n.toNat Nd.d) := gN (by omega)

set_option maxHeartbeats 2000000 in
theorem ins_l7 {Q : AX → St → Prop} (c : Cir) (hcn : c.nodes.l.length ≤ 100000) (st : List Int) (hst : st.length ≤ 100) (sc : Option Nat) (sn : Option Bool) (en : Int) (S : IS) (R : JS)
    (h0 : Q (.exit 6) ⟨i8E c st sc sn st.length ++ [(119, .t (tB false))], i8R en S R⟩) :
    ∀ (k i : Nat) (J : JS), k + i = st.length → okSt c en S.bef i (st.drop i) J → goSt c en S.bef i (st.drop i) J = R →
    run Tryd.prog Γ scans_Insert_l7 Q ⟨i8E c st sc sn i, i8R en S J⟩
  | 0, i, J, h, hk, hR => by
    refine scans_Insert_l7_run fun K hK => ?_
    have h3 : i = st.length := by omega
    subst h3
    rw [List.drop_of_length_le (Nat.le_refl _)] at hR
    simp only [goSt] at hR
    subst hR
    simp [i8E, i8R, i3G, Z8]
    simpa [i8E, i8R, i3G, Z8] using h0
  | k + 1, i, J, h, hk, hR => by
    refine scans_Insert_l7_run fun K hK => ?_
    have h2 : i < st.length := by omega
    rw [List.drop_eq_getElem_cons h2] at hR hk
    have e := gi1 (f := tI) h2
    rw [getD_eq h2] at e
    generalize st[i] = n at *
    obtain ⟨h1, h5⟩ := hk
    simp only [goSt] at hR
    have ih := ins_l7 c hcn st hst sc sn en S R h0 k (i + 1) (stepSt c en S.bef i n J) (by omega) h5 hR
    have e' : ∀ h : i < (ints st).length, (ints st)[i] = [tI n] := fun h => by rw [← e]; simp [h]
    have n0 := h1.n0
    have n1 := h1.n1
    have n2 := h1.n2
    have n3 : n.toNat < c.nodes.l.length := by omega
    have n4 : n.toNat < J.nodes.length := by omega
    have en1 := nd_at (c := c) n0 n1
    have en1' : ∀ h : n.toNat < (encN tNd c.nodes.l).length, (encN tNd c.nodes.l)[n.toNat] = tNd (c.nodes.l.getD n.toNat Nd.d) := fun h => by rw [← en1]; simp [h]
    have hin : innAt c n.toNat = (c.nodes.l.getD n.toNat Nd.d).inn.l := rfl
    have hne := h1.inn
    have hd : (ints (c.nodes.l.getD n.toNat Nd.d).inn.l)[0]?.getD [] = [tI (in0 c n)] := by
      rw [← hin]
      cases hl : innAt c n.toNat with
      | nil => exact absurd hl hne
      | cons a l => simp [in0, hl, enc1]
    rw [hin] at hne
    have hlp : 0 < (c.nodes.l.getD n.toNat Nd.d).inn.l.length := List.length_pos_iff.2 hne
    generalize c.nodes.l.getD n.toNat Nd.d = x at *
    have hd' : ∀ h : 0 < (ints x.inn.l).length, (ints x.inn.l)[0] = [tI (in0 c n)] := fun h => by rw [← hd]; simp [h]
    have hb := befM_find n S.bef
    have hbf := befM_fit S.bef
    have c3 := itoa_spec (Γ := Γ) i h1.i100
    have z1 := h1.nodes
    have z2 := h1.names
    have c4 := add_rr (Γ := Γ) J.names J.nodes J.names S.outs (muxN en (in0 c n) (befOf S.bef n)) (smN i) (by omega) (by omega) h1.nm smN_len
    have hil : 2 + (itoaL i).length ≤ 9223372036854775807 := by unfold itoaL; split <;> simp
    have q1 : ints J.muxes ++ [[tI J.nodes.length]] = ints (J.muxes ++ [(J.nodes.length : Int)]) := enc1_snoc
    have tk1 : (ints J.muxes).take J.muxes.length = ints J.muxes := enc1_take_len
    simp [i8E, i8R, i3G, r11, r46, h2, enc1_len, enc1_wid, e, e', tC, tNodes, encN_len, tNd_wid, n0, n1, en1, en1', tNd, tSl, hd, hd', hlp, hb, hbf, KT.fits]
    refine callK_fresh c3 rfl ?_
    simp [tS, sV, ba_cat, List.idxOf_cons, Z8]
    refine ⟨hil, ?_⟩
    simp [tNd, muxN, tSl, enc1_nil, tS, sV, smN] at c4
    have hm : (⟨11, ⟨[en, in0 c n, befOf S.bef n], some 3, some false⟩, 0, 0⟩ : Nd) = muxN en (in0 c n) (befOf S.bef n) := rfl
    rw [hm] at c4
    have hLl : (J.nodes ++ [muxN en (in0 c n) (befOf S.bef n)]).length = J.nodes.length + 1 := by simp
    have y1 := gN (l := J.nodes ++ [muxN en (in0 c n) (befOf S.bef n)]) (i := n.toNat) (by omega)
    have y2 : ∀ y : Nd, (J.nodes ++ [muxN en (in0 c n) (befOf S.bef n)]).getD n.toNat Nd.d = y → (encN tNd (J.nodes ++ [muxN en (in0 c n) (befOf S.bef n)])).set n.toNat [tK y.k, .sl [[tI J.nodes.length]] (some 1) (some false), tI y.mem, tI y.bit] = encN tNd (setIn (J.nodes ++ [muxN en (in0 c n) (befOf S.bef n)]) n.toNat J.nodes.length) := fun y hy => by
      unfold setIn
      rw [hy]
      exact encN_set (f := tNd) (x := ⟨y.k, ⟨[(J.nodes.length : Int)], some 1, some false⟩, y.mem, y.bit⟩)
    have ihn : (stepSt c en S.bef i n J).nodes = setIn (J.nodes ++ [muxN en (in0 c n) (befOf S.bef n)]) n.toNat J.nodes.length := rfl
    have ihl : (setIn (J.nodes ++ [muxN en (in0 c n) (befOf S.bef n)]) n.toNat J.nodes.length).length = J.nodes.length + 1 := by unfold setIn; simp
    simp [i8E, i8R, i3G, r11, r46, Z8, ihn, ihl, tC, tNodes] at ih
    generalize J.nodes ++ [muxN en (in0 c n) (befOf S.bef n)] = L at *
    generalize setIn L n.toNat J.nodes.length = L2 at *
    have y3 := y2 _ rfl
    generalize L.getD n.toNat Nd.d = y at *
    have y1' : ∀ h : n.toNat < (encN tNd L).length, (encN tNd L)[n.toNat] = tNd y := fun h => by rw [← y1]; simp [h]
    have n5 : n < (J.nodes.length : Int) + 1 := by omega
    have n6 : n.toNat < J.nodes.length + 1 := by omega
    refine ⟨_, _, c4, ?_⟩
    simp [List.idxOf_cons, renSt, wid1s, tk1, q1, enc1_len, encN_len, hLl, n0, n5, n6, y1, y1', y3, tNd_wid, tNd, tSl]
    refine ⟨by have := h1.muxes; omega, ?_⟩
    rw [wrap_i64 (by omega) (by omega), hK]
    simpa [stepSt, nilT, smN, tSl] using ih
end Go.Lg

/- scans.Insert. Conditions: none. -/
set_option linter.unusedSimpArgs false
set_option linter.unusedVariables false
set_option maxRecDepth 100000
namespace Go.Lg
open Go Go.Proofs
variable {Γ : Tables}

def seN : List UInt8 := [115, 101]
def scS0 (c : Cir) : IS := ⟨c.nodes.l.map cpNd ++ [inpN], c.names.l ++ [seN], [], [], [], c.outs.l⟩
def scS (c : Cir) (chs : List (Sl Int)) : IS := goCh 0 chs (scS0 c)
def scJ (c : Cir) (chs : List (Sl Int)) : JS := goSt c c.nodes.l.length (scS c chs).bef 0 (states c) ⟨(scS c chs).nodes, (scS c chs).names, []⟩
def scC (c : Cir) (chs : List (Sl Int)) : Cir :=
  ⟨⟨(scJ c chs).nodes, some (scJ c chs).nodes.length, none⟩, ⟨(scJ c chs).names, some (scJ c chs).names.length, none⟩, ⟨[], some 0, some true⟩, ⟨(scS c chs).outs, some (scS c chs).outs.length, if chs = [] then (if c.outs.nl = some true then some true else none) else none⟩⟩

/-- A circuit and complete chains that Insert takes. -/
structure InsOk (c : Cir) (chs : Sl (Sl Int)) : Prop where
  ok : COk c
  cp : CpOk c
  names : c.names.l.Nodup
  se : seN ∉ c.names.l
  len : chs.l.length ≤ 100
  lens : ∀ s ∈ chs.l, s.l.length ≤ 1000000000
  n16 : c.nodes.l.length ≤ 1000
  n1 : c.names.l.length ≤ 1000
  s100 : (states c).length ≤ 100
  ch : okCh 0 chs.l (scS0 c)
  st : okSt c c.nodes.l.length (scS c chs.l).bef 0 (states c) ⟨(scS c chs.l).nodes, (scS c chs.l).names, []⟩
  both : chs.l = [] → states c = []
  err : checkErr c chs.l = 0

def tScan (c : Cir) (chs : List (Sl Int)) : T :=
  .agg (tC (scC c chs) ++ [.sl (enc1 tSl (scS c chs).cl) (some (scS c chs).cl.length) none, tI c.nodes.l.length, .sl (ints (scS c chs).ins) (some (scS c chs).ins.length) none, .sl (ints (scJ c chs).muxes) (some (scJ c chs).muxes.length) none])

theorem clip_node (es : List (List T)) (cap : Option Nat) (nl : Option Bool) (hw : wid 4 es) : PureCalls Tryd.prog Γ 69 [.sl es cap nl] (.sl es (some es.length) nl) := by
  refine run_pureQ slices_Clip_api_Node_chk rfl ?_
  simp [slices_Clip_api_Node_ic, slices_Clip_api_Node_rv, hw]
theorem clip_string (es : List (List T)) (cap : Option Nat) (nl : Option Bool) (hw : wid 1 es) : PureCalls Tryd.prog Γ 70 [.sl es cap nl] (.sl es (some es.length) nl) := by
  refine run_pureQ slices_Clip_string_chk rfl ?_
  simp [slices_Clip_string_ic, slices_Clip_string_rv, hw]
theorem goCh_len : ∀ {l : List (Sl Int)} {i : Nat} {S : IS}, S.ins.length = S.cl.length → (goCh i l S).ins.length = (goCh i l S).cl.length
  | [], _, _, h => h
  | s :: l, i, S, h => goCh_len (l := l) (by simp [stepCh, h])

set_option maxHeartbeats 4000000 in
theorem Insert_spec (hΓ : GOk Γ) (c : Cir) (chs : Sl (Sl Int)) (h : InsOk c chs) : PureCalls Tryd.prog Γ 37 [.agg (tC c), tChs chs] (.tup [tScan c chs.l, tI 0]) := by
  refine run_pureQ scans_Insert_chk rfl ?_
  have e1 := scheck_spec hΓ c h.ok chs (by have := h.len; omega) h.lens
  rw [h.err] at e1
  have e2 := states_spec (Γ := Γ) c h.ok
  have e3 := copy_spec (Γ := Γ) c h.cp
  have hn := h.n16
  have hn1 := h.n1
  have hm := h.len
  have hs := h.s100
  simp [scans_Insert_ic]
  simp [tC, tNodes, tNames, tMems, tSl, tChs] at e1 e2 e3
  simp [tC, tNodes, tNames, tMems, tSl, tChs]
  refine callK_fresh e1 rfl ?_
  simp
  refine callK_pure e2 rfl ?_
  have hlim : ¬ (16384 : Int) < (c.nodes.l.length : Int) + 1 + (chs.l.length : Int) + ((states c).length : Int) := by omega
  simp (disch := omega) [encN_len, enc1_len, wrap_i64, hlim]
  refine callK_pure e3 rfl ?_
  have g1 := fun Q N M O h0 => ins_l1 (Γ := Γ) (Q := Q) (.sl (enc1 tSl chs.l) chs.cap chs.nl) (.sl (ints (states c)) (some (states c).length) none) c c.names (by omega) h.names N M O h0 c.names.l.length 0 (by omega)
  simp [tC, tNodes, tNames, tMems, tSl, Z8, nilT, show seenM [] = [] from rfl] at g1
  simp [copyC, enc1_len, cpS, show encN tMm [] = [] from rfl, enc1_nil]
  refine g1 _ _ _ _ ?_
  simp [List.idxOf_cons, sV]
  have c4 := add_tt (Γ := Γ) c.names.l (c.nodes.l.map cpNd) c.names.l c.outs.l (some c.outs.l.length) (if c.outs.nl = some true then some true else none) inpN seN (by simp; omega) (by omega) h.se (by simp [seN])
  simp [tNd, inpN, tSl, enc1_nil, tS, sV, seN] at c4
  refine ⟨_, _, c4, ?_⟩
  simp [List.idxOf_cons, renSt]
  have g5 := fun Q h0 h0t => ins_l5t (Γ := Γ) (Q := Q) c (.sl (ints (states c)) (some (states c).length) none) chs h.len c.nodes.l.length (scS c chs.l) (if c.outs.nl = some true then some true else none) (scS0 c) h0 h0t rfl h.ch rfl
  have hst := h.st
  have hJ : scJ c chs.l = goSt c c.nodes.l.length (scS c chs.l).bef 0 (states c) ⟨(scS c chs.l).nodes, (scS c chs.l).names, []⟩ := rfl
  have hC : scC c chs.l = ⟨⟨(scJ c chs.l).nodes, some (scJ c chs.l).nodes.length, none⟩, ⟨(scJ c chs.l).names, some (scJ c chs.l).names.length, none⟩, ⟨[], some 0, some true⟩, ⟨(scS c chs.l).outs, some (scS c chs.l).outs.length, if chs.l = [] then (if c.outs.nl = some true then some true else none) else none⟩⟩ := rfl
  unfold tScan
  rw [hC]
  have hS0 : scS0 c = scS c [] := rfl
  have hSe : chs.l = [] → scS c chs.l = scS0 c := fun e => by rw [e]; rfl
  have hil : (scS c chs.l).ins.length = (scS c chs.l).cl.length := goCh_len rfl
  generalize scS c chs.l = S at *
  generalize scJ c chs.l = J at *
  have g7 := fun Q h0 => ins_l7 (Γ := Γ) (Q := Q) c (by omega) (states c) hs (some (states c).length) none c.nodes.l.length S J h0 (states c).length 0 ⟨S.nodes, S.names, []⟩ (by omega) hst hJ.symm
  simp [i6E, i6T, i6R, i3H, i3G, r11, r46, scS0, Z8, nilT, tC, tNodes, tNames, tMems, tSl, enc1_nil, inpN, seN, show befM [] = [] from rfl] at g5
  simp [i8E, i8R, i3G, r11, r46, Z8, nilT, tC, tNodes, tNames, tMems, tSl, enc1_nil] at g7
  simp [enc1_len]
  refine g5 _ (fun hne => ?_) (fun he => ?_)
  · simp [enc1_len]
    refine g7 _ ?_
    have k1 : (enc1 tSl S.cl).take S.cl.length = enc1 tSl S.cl := enc1_take_len
    have k2 : (ints S.ins).take S.cl.length = ints S.ins := by rw [← hil]; exact enc1_take_len
    have k3 : (ints S.outs).take S.outs.length = ints S.outs := enc1_take_len
    have k4 : (ints J.muxes).take J.muxes.length = ints J.muxes := enc1_take_len
    have k5 : (encN tNd J.nodes).take J.nodes.length = encN tNd J.nodes := encN_take_len
    have k6 : (enc1 tS J.names).take J.names.length = enc1 tS J.names := enc1_take_len
    simp [St.freeze, Reg.closed, frzRef, frz1, frz0, frzReg, del, reify, k1, k2, k3, k4, k5, k6]
    refine callK_pure (clip_node (encN tNd J.nodes) none none tNd_wid) rfl ?_
    simp
    refine callK_pure (clip_string (enc1 tS J.names) none none enc1_wid) rfl ?_
    simp
    refine callK_pure (clip_int (ints S.outs) none none enc1_wid) rfl ?_
    simp
    refine callK_pure (clip_ints (enc1 tSl S.cl) none none enc1_wid) rfl ?_
    simp
    refine callK_pure (clip_int (ints S.ins) none none enc1_wid) rfl ?_
    simp
    refine callK_pure (clip_int (ints J.muxes) none none enc1_wid) rfl ?_
    simp [scans_Insert_rv, tC, tNodes, tNames, tMems, tSl, encN_len, enc1_len, hne, show encN tMm [] = [] from rfl]
  · have hse : states c = [] := h.both he
    have hS := hSe he
    have hJe : J = ⟨S.nodes, S.names, []⟩ := by rw [hJ, hse]; rfl
    have hl0 : chs.l.length = 0 := by rw [he]; rfl
    subst hJe
    subst hS
    have k5 : (encN tNd (scS0 c).nodes).take (c.nodes.l.length + 1) = encN tNd (scS0 c).nodes := List.take_of_length_le (by simp [scS0, encN])
    have k6 : (enc1 tS (scS0 c).names).take (c.names.l.length + 1) = enc1 tS (scS0 c).names := List.take_of_length_le (by simp [scS0, enc1])
    simp [scS0, inpN, seN] at k5 k6
    simp [enc1_len, hse]
    refine scans_Insert_l7_run fun K hK => ?_
    simp [enc1_len, hse, St.freeze, Reg.closed, frzRef, frz1, frz0, frzReg, del, reify, k5, k6]
    refine callK_pure (clip_node _ none none tNd_wid) rfl ?_
    simp
    refine callK_pure (clip_string _ none none enc1_wid) rfl ?_
    simp
    refine callK_pure (clip_int (ints c.outs.l) (some c.outs.l.length) (if c.outs.nl = some true then some true else none) enc1_wid) rfl ?_
    simp
    refine callK_pure (clip_ints [] none none wid_nil) rfl ?_
    simp
    refine callK_pure (clip_int [] none none wid_nil) rfl ?_
    simp
    refine callK_pure (clip_int [] none none wid_nil) rfl ?_
    simp [scans_Insert_rv, tC, tNodes, tNames, tMems, tSl, encN_len, enc1_len, he, enc1_nil, show encN tMm [] = [] from rfl]
    simp [scS0, inpN, seN, enc1_nil]

theorem Insert_err (hΓ : GOk Γ) (c : Cir) (hc : COk c) (chs : Sl (Sl Int)) (hl : chs.l.length ≤ 1000000000) (hs : ∀ s ∈ chs.l, s.l.length ≤ 1000000000) (he : checkErr c chs.l ≠ 0) : PureCalls Tryd.prog Γ 37 [.agg (tC c), tChs chs] (.tup [.agg [nilT, nilT, nilT, nilT, nilT, tI 0, nilT, nilT], tI (checkErr c chs.l)]) := by
  refine run_pureQ scans_Insert_chk rfl ?_
  have e1 := scheck_spec hΓ c hc chs hl hs
  generalize checkErr c chs.l = e at *
  simp [scans_Insert_ic]
  simp [tC, tNodes, tNames, tMems, tSl, tChs] at e1
  simp [tC, tNodes, tNames, tMems, tSl, tChs]
  refine callK_fresh e1 rfl ?_
  simp [he, scans_Insert_rv, nilT]
end Go.Lg

/- The examples of the chapter. Conditions: none. -/
set_option linter.unusedSimpArgs false
set_option linter.unusedVariables false
set_option maxRecDepth 100000
namespace Go.Lg
open Go Go.Proofs
variable {Γ : Tables}

def rowNd : Nat → Nd
  | 0 => ⟨0, ⟨[], some 0, some true⟩, 0, 0⟩
  | _ + 1 => ⟨14, ⟨[0], some 1, some false⟩, 0, 0⟩
def rowNm : Nat → List UInt8
  | 0 => [97]
  | i + 1 => [102, UInt8.ofNat (48 + i)]
def rowC' (n : Nat) : Cir := ⟨⟨(List.range (n + 1)).map rowNd, none, none⟩, ⟨(List.range (n + 1)).map rowNm, none, none⟩, ⟨[], some 0, some true⟩, ⟨[0], some 1, some false⟩⟩

theorem row_loop {Q : AX → St → Prop} (n : Nat) (hn : n ≤ 9) (e2 : List AV)
    (h0 : Q (.exit 0) ⟨[(0, .t (tI n)), (2, .lp 2 0 0), (3, .lp 3 0 0), (4, .t (tI n)), (12, .t (tB false))], [(2, .bx [.t (.sl [] (some 0) (some true)), .t (.sl [] (some 0) (some true)), .t (.sl [] (some 0) (some true)), .t (.sl [] (some 0) (some true))]), (3, .bx [.ls 20 0 (n + 1) none, .ls 32 0 (n + 1) none, .t (.sl [] (some 0) (some true)), .t (.sl [[tI 0]] (some 1) (some false))]), (20, .sl 48 4 (encN tNd ((List.range (n + 1)).map rowNd))), (32, .sl 9 1 (enc1 tS ((List.range (n + 1)).map rowNm)))]⟩) :
    ∀ (k i : Nat), k + i = n →
    run Tryd.prog Γ law34_row_l1 Q ⟨[(0, .t (tI n)), (2, .lp 2 0 0), (3, .lp 3 0 0), (4, .t (tI i))], [(2, .bx [.t (.sl [] (some 0) (some true)), .t (.sl [] (some 0) (some true)), .t (.sl [] (some 0) (some true)), .t (.sl [] (some 0) (some true))]), (3, .bx [.ls 20 0 (i + 1) none, .ls 32 0 (i + 1) none, .t (.sl [] (some 0) (some true)), .t (.sl [[tI 0]] (some 1) (some false))]), (20, .sl 48 4 (encN tNd ((List.range (i + 1)).map rowNd))), (32, .sl 9 1 (enc1 tS ((List.range (i + 1)).map rowNm)))]⟩
  | 0, i, h => by
    refine law34_row_l1_run fun K hK => ?_
    have h2 : ¬ i < n := by omega
    have h3 : i = n := by omega
    simp [h2]
    subst h3
    exact h0
  | k + 1, i, h => by
    refine law34_row_l1_run fun K hK => ?_
    have h2 : i < n := by omega
    have hmod : (i : Int).tmod 10 = i := by
      rw [Int.tmod_eq_emod_of_nonneg (by omega)]; omega
    have ih := row_loop n hn e2 h0 k (i + 1) (by omega)
    have hr : List.range (i + 1 + 1) = List.range (i + 1) ++ [i + 1] := List.range_succ
    have hw4 : wid 4 [[tK 14, T.sl [[tI 0]] (some 1) (some false), tI 0, tI 0]] := by intro e he; simp at he; subst he; rfl
    have ht1 : (encN tNd ((List.range (i + 1)).map rowNd)).take (i + 1) = encN tNd ((List.range (i + 1)).map rowNd) := List.take_of_length_le (by simp [encN])
    have ht2 : (enc1 tS ((List.range (i + 1)).map rowNm)).take (i + 1) = enc1 tS ((List.range (i + 1)).map rowNm) := List.take_of_length_le (by simp [enc1])
    have hi9 : i = 0 ∨ i = 1 ∨ i = 2 ∨ i = 3 ∨ i = 4 ∨ i = 5 ∨ i = 6 ∨ i = 7 ∨ i = 8 := by omega
    have hx : (ByteArray.mk #[48, 49, 50, 51, 52, 53, 54, 55, 56, 57]).extract i (i + 1) = ByteArray.mk #[UInt8.ofNat (48 + i)] := by
      rcases hi9 with rfl | rfl | rfl | rfl | rfl | rfl | rfl | rfl | rfl <;> rfl
    have hy : ∀ x : UInt8, ByteArray.mk #[102] ++ ByteArray.mk #[x] = ByteArray.mk #[102, x] := fun x => rfl
    have hs1 : (ByteArray.mk #[48, 49, 50, 51, 52, 53, 54, 55, 56, 57]).size = 10 := rfl
    have hs2 : (ByteArray.mk #[102]).size = 1 := rfl
    have hs3 : ∀ x : UInt8, (ByteArray.mk #[x]).size = 1 := fun x => rfl
    simp (disch := omega) [h2, hmod, wrap_i64, hw4, encN_len, enc1_len, tNd_wid, enc1_wid, ht1, ht2, sV, hx, hy, hs1, hs2, hs3]
    have q1 : encN tNd ((List.range (i + 1 + 1)).map rowNd) = encN tNd ((List.range (i + 1)).map rowNd) ++ [[tK 14, T.sl [[tI 0]] (some 1) (some false), tI 0, tI 0]] := by
      rw [hr, List.map_append]; simp [encN, rowNd, tNd, tSl, enc1]
    have q2 : enc1 tS ((List.range (i + 1 + 1)).map rowNm) = enc1 tS ((List.range (i + 1)).map rowNm) ++ [[T.v (Value.string { data := #[102, 48 + UInt8.ofNat i] })]] := by
      rw [hr, List.map_append]; simp [enc1, rowNm, tS, sV]
    rw [q1, q2] at ih
    first
    | refine ⟨by omega, ⟨by omega, by omega⟩, ⟨by intro e he; simp at he; subst he; rfl, by omega⟩, ?_⟩
    | refine ⟨by omega, ⟨by omega, by omega⟩, by omega, ?_⟩
    rw [hK]
    exact_mod_cast ih

theorem row_spec (n : Nat) (hn : n ≤ 9) : PureCalls Tryd.prog Γ 47 [tI n] (.agg (tC (rowC' n))) := by
  refine run_pureQ law34_row_chk rfl ?_
  have hl := fun Q h0 => row_loop (Γ := Γ) (Q := Q) n hn [] h0 n 0 (by omega)
  have q1 : encN tNd ((List.range (0 + 1)).map rowNd) = [[tK 0, T.sl [] (some 0) (some true), tI 0, tI 0]] := rfl
  have q2 : enc1 tS ((List.range (0 + 1)).map rowNm) = [[tS [97]]] := rfl
  rw [q1, q2] at hl
  have ht1 : (encN tNd ((List.range (n + 1)).map rowNd)).take (n + 1) = encN tNd ((List.range (n + 1)).map rowNd) := List.take_of_length_le (by simp [encN])
  have ht2 : (enc1 tS ((List.range (n + 1)).map rowNm)).take (n + 1) = enc1 tS ((List.range (n + 1)).map rowNm) := List.take_of_length_le (by simp [enc1])
  simp only [tS, sV] at hl
  simp [law34_row_ic, sV]
  refine hl _ ?_
  simp [law34_row_rv, ht1, ht2, tC, rowC', tNodes, tNames, tMems, tSl, enc1, encN]
  exact ⟨List.take_of_length_le (by simp), List.take_of_length_le (by simp)⟩

theorem rowBal : balErr (rowC' 5) 2 = 0 ∧ bal (rowC' 5) 2 = [⟨[1, 2, 3], some 3, none⟩, ⟨[4, 5], some 2, none⟩] := by
  constructor
  · decide +kernel
  · rfl
def rowCh : List (Sl Int) := [⟨[1, 2, 3], some 3, some false⟩]
def rowAt : List Pnt := [(0, 0), (5, 0), (1, 0)]
theorem rowPl : placedErr (rowC' 3) rowCh rowAt = 0 := by decide +kernel
theorem rowLen : lenTot (placedM (rowC' 3) rowCh rowAt) rowCh = 9 := by decide +kernel
theorem rowShort : shorterL (placedM (rowC' 3) rowCh rowAt) [1, 2, 3] = [2, 3, 1] := by decide +kernel
theorem rowOk (n : Nat) (hn : n ≤ 9) : COk (rowC' n) := by
  have h1 : ∀ x ∈ (rowC' n).nodes.l, 0 ≤ x.k ∧ x.k ≤ 255 ∧ x.inn.l.length ≤ 1000000000 := by
    intro x hx
    obtain ⟨i, _, rfl⟩ := List.mem_map.1 hx
    cases i <;> simp [rowNd]
  refine ⟨⟨by simp [rowC']; omega, by simp [rowC']; omega, by simp [rowC'], by simp [rowC'], fun x hx => ⟨(h1 x hx).1, (h1 x hx).2.1⟩, fun x hx => (h1 x hx).2.2, by simp [rowC']⟩, ?_⟩
  intro s hs b hb
  obtain ⟨i, hi, rfl⟩ := List.mem_map.1 hs
  have hi' := List.mem_range.1 hi
  have : i = 0 ∨ i = 1 ∨ i = 2 ∨ i = 3 ∨ i = 4 ∨ i = 5 ∨ i = 6 ∨ i = 7 ∨ i = 8 ∨ i = 9 := by omega
  rcases this with rfl | rfl | rfl | rfl | rfl | rfl | rfl | rfl | rfl | rfl <;> simp [rowNm] at hb <;> (try rcases hb with rfl | rfl) <;> (try subst hb) <;> decide

theorem lives_spec (hΓ : GOk Γ) : FreshCalls Tryd.prog Γ 16 [] (tB true) := by
  refine run_freshQ law34_lives_chk rfl ?_
  have b5 := Balance_spec hΓ (rowC' 5) (rowOk 5 (by omega)) 2
  have l3 := Length_spec hΓ (rowC' 3) (rowOk 3 (by omega)) ⟨rowCh, some 1, some false⟩ (by decide) (by decide) ⟨rowAt, some 3, some false⟩ (by decide)
  have s3 := Shorten_spec hΓ (rowC' 3) (rowOk 3 (by omega)) ⟨rowCh, some 1, some false⟩ (by decide) (by decide) ⟨rowAt, some 3, some false⟩ (by decide)
  have e1 : shortAll (placedM (rowC' 3) rowCh rowAt) rowCh = [⟨[2, 3, 1], some 3, none⟩] := by
    show [(⟨shorterL (placedM (rowC' 3) rowCh rowAt) [1, 2, 3], some 3, none⟩ : Sl Int)] = _
    rw [rowShort]
  simp only [rowPl, rowLen, rowBal, e1, if_true] at b5 l3 s3
  simp [law34_lives_ic]
  refine callK_pure (row_spec 5 (by omega)) rfl ?_
  simp
  refine callK_pure b5 rfl ?_
  simp
  refine callK_pure (row_spec 3 (by omega)) rfl ?_
  simp
  refine callK_fresh l3 rfl ?_
  simp
  refine callK_pure (row_spec 3 (by omega)) rfl ?_
  simp
  refine callK_pure s3 rfl ?_
  simp [tChs, enc1, tSl]
  simp [law34_lives_rv, wid]
end Go.Lg

/- ScansBalance: the plain law. Conditions: none. -/
set_option linter.unusedSimpArgs false
set_option linter.unusedVariables false
set_option maxRecDepth 100000
namespace Go.Lg
open Go Go.Proofs
variable {Γ : Tables}

def elems (l : List (Sl Int)) : List Int := (l.map fun s => s.l).flatten
theorem elems_nil : elems [] = [] := rfl
theorem elems_cons {s : Sl Int} {l : List (Sl Int)} : elems (s :: l) = s.l ++ elems l := rfl

/-- Chains of different good nodes are accepted. -/
theorem goElems_ok {c : Cir} : ∀ {l done : List Int}, (∀ n ∈ l, 0 ≤ n ∧ n < c.nodes.l.length ∧ kindAt c n.toNat = 14) → l.Nodup → (∀ n ∈ l, n ∉ done) → goElems c done l = some (done ++ l)
  | [], done, _, _, _ => by simp [goElems]
  | n :: l, done, h, hn, hd => by
    have h0 := h n List.mem_cons_self
    have hb : ¬ elemBad c done n = true := by
      simp [elemBad, h0.2.2, hd n List.mem_cons_self]; omega
    simp only [goElems, if_neg hb]
    rw [goElems_ok (fun m hm => h m (List.mem_cons_of_mem _ hm)) (List.nodup_cons.1 hn).2 (fun m hm he => by
      rcases List.mem_append.1 he with he | he
      · exact hd m (List.mem_cons_of_mem _ hm) he
      · simp at he; subst he; exact (List.nodup_cons.1 hn).1 hm)]
    simp
theorem goChains_ok {c : Cir} : ∀ {l : List (Sl Int)} {done : List Int}, (∀ s ∈ l, s.l ≠ []) → (∀ n ∈ elems l, 0 ≤ n ∧ n < c.nodes.l.length ∧ kindAt c n.toNat = 14) → (elems l).Nodup → (∀ n ∈ elems l, n ∉ done) → goChains c done l = some (done ++ elems l)
  | [], done, _, _, _, _ => by simp [goChains, elems_nil]
  | s :: l, done, hne, h, hn, hd => by
    simp only [elems_cons] at h hn hd ⊢
    have hn' := List.nodup_append.1 hn
    simp only [goChains, if_neg (hne s List.mem_cons_self)]
    rw [goElems_ok (fun n hm => h n (List.mem_append_left _ hm)) hn'.1 (fun n hm => hd n (List.mem_append_left _ hm)), Option.bind_some]
    rw [goChains_ok (fun t ht => hne t (List.mem_cons_of_mem _ ht)) (fun n hm => h n (List.mem_append_right _ hm)) hn'.2.1 (fun n hm he => by
      rcases List.mem_append.1 he with he | he
      · exact hd n (List.mem_append_right _ hm) he
      · exact hn'.2.2 n he n hm rfl)]
    simp

theorem states_good {c : Cir} : ∀ n ∈ states c, 0 ≤ n ∧ n < c.nodes.l.length ∧ kindAt c n.toNat = 14 := by
  intro n hn
  obtain ⟨h1, h2, h3⟩ := ofL_kind [14] c.nodes.l 0 n hn
  refine ⟨by omega, by omega, ?_⟩
  simpa [kindAt] using h3

end Go.Lg

/- Shortening: the plain law. Conditions: none. -/
set_option linter.unusedSimpArgs false
set_option linter.unusedVariables false
set_option maxRecDepth 100000
namespace Go.Lg
open Go Go.Proofs

/-- Complete chains in any order are accepted. -/
theorem check_perm {c : Cir} {chs : List (Sl Int)} (hp : plainErr c = 0) (h64 : chs.length ≤ 64) (hne : ∀ s ∈ chs, s.l ≠ []) (hperm : (elems chs).Perm (states c)) : checkErr c chs = 0 := by
  have hg := goChains_ok (c := c) (l := chs) (done := []) hne (fun n hn => states_good n (hperm.mem_iff.1 hn)) (hperm.nodup_iff.2 (states_nodup c)) (by simp)
  unfold checkErr
  rw [if_neg (by simp [hp]), if_neg (by omega), hg]
  simp [hperm.length_eq]

end Go.Lg

/- turned, Places, Chains. Conditions: none. -/
set_option linter.unusedSimpArgs false
set_option linter.unusedVariables false
set_option maxRecDepth 100000
namespace Go.Lg
open Go Go.Proofs
variable {Γ : Tables}

def permS : Nat → Nat → List Int → List Int → List Int
  | 0, _, _, l => l
  | f + 1, i, keys, l => permS f (i + 1) keys (swapL l i (i + (keys.getD i 0).toNat % (l.length - i)))
def cutS : List Int → List Int → List (Sl Int)
  | [], l => if l = [] then [] else [⟨l, none, none⟩]
  | b :: cuts, l => if l = [] then [] else ⟨l.take (1 + b.toNat % l.length), none, none⟩ :: cutS cuts (l.drop (1 + b.toNat % l.length))

theorem permS_perm : ∀ (f i : Nat) (keys l : List Int), i + f ≤ l.length → (permS f i keys l).Perm l
  | 0, _, _, l, _ => List.Perm.refl l
  | f + 1, i, keys, l, h => by
    simp only [permS]
    have hm := Nat.mod_lt (keys.getD i 0).toNat (show 0 < l.length - i by omega)
    exact (permS_perm f (i + 1) keys _ (by rw [swapL_len]; omega)).trans (swapL_perm (by omega) (by omega))
theorem cutS_elems : ∀ (cuts l : List Int), elems (cutS cuts l) = l
  | [], l => by
    simp only [cutS]
    split
    · rename_i h; rw [h]; rfl
    · simp [elems]
  | b :: cuts, l => by
    simp only [cutS]
    split
    · rename_i h; rw [h]; rfl
    · rw [elems_cons, cutS_elems cuts]; exact List.take_append_drop _ _
theorem cutS_ne : ∀ (cuts l : List Int), ∀ s ∈ cutS cuts l, s.l ≠ [] ∧ s.nl ≠ some true
  | [], l, s, hs => by
    simp only [cutS] at hs
    split at hs
    · cases hs
    · rename_i h; simp at hs; subst hs; exact ⟨h, by simp⟩
  | b :: cuts, l, s, hs => by
    simp only [cutS] at hs
    split at hs
    · cases hs
    · rename_i h
      rcases List.mem_cons.1 hs with rfl | hs
      · refine ⟨fun e => ?_, by simp⟩
        have := congrArg List.length e
        have hp : 0 < l.length := List.length_pos_iff.2 h
        rw [List.length_take, List.length_nil] at this; omega
      · exact cutS_ne cuts _ s hs
theorem elems_le : ∀ (l : List (Sl Int)), (∀ s ∈ l, s.l ≠ []) → l.length ≤ (elems l).length ∧ ∀ s ∈ l, s.l.length ≤ (elems l).length
  | [], _ => by simp [elems_nil]
  | x :: l, h => by
    obtain ⟨h1, h2⟩ := elems_le l fun s hs => h s (List.mem_cons_of_mem _ hs)
    have h3 : 0 < x.l.length := List.length_pos_iff.2 (h x List.mem_cons_self)
    rw [elems_cons, List.length_append]
    refine ⟨by simp only [List.length_cons]; omega, fun s hs => ?_⟩
    rcases List.mem_cons.1 hs with rfl | hs
    · omega
    · have := h2 s hs; omega

end Go.Lg

/- What Insert lays, plainly: it may be called. Conditions: none. -/
set_option linter.unusedSimpArgs false
set_option linter.unusedVariables false
set_option maxRecDepth 100000
namespace Go.Lg
open Go Go.Proofs

theorem itoaL_inj : ∀ i, i < 100 → ∀ j, j < 100 → itoaL i = itoaL j → i = j := by decide +kernel
theorem siN_inj {i j : Nat} (hi : i < 100) (hj : j < 100) (h : siN i = siN j) : i = j := itoaL_inj i hi j hj (by simpa [siN] using h)
theorem smN_inj {i j : Nat} (hi : i < 100) (hj : j < 100) (h : smN i = smN j) : i = j := itoaL_inj i hi j hj (by simpa [smN] using h)


def befL : Int → List (Sl Int) → List (Int × Int)
  | _, [] => []
  | n, s :: l => prevs n s.l ++ befL (n + 1) l
def lastL : Int → List (Sl Int) → List Int
  | _, [] => []
  | n, s :: l => lastC n s.l :: lastL (n + 1) l
def insOf (n : Nat) (k : Nat) : List Int := (List.range' n k).map fun q : Nat => (q : Int)
theorem insOf_succ (n k : Nat) : insOf n (k + 1) = (n : Int) :: insOf (n + 1) k := by simp [insOf, List.range'_succ]

theorem goCh_eq : ∀ (l : List (Sl Int)) (i : Nat) (S : IS), goCh i l S = ⟨S.nodes ++ List.replicate l.length inpN, S.names ++ (List.range' i l.length).map siN, S.cl ++ l.map (fun s => ⟨s.l, some s.l.length, none⟩), S.ins ++ insOf S.nodes.length l.length, S.bef ++ befL S.nodes.length l, S.outs ++ lastL S.nodes.length l⟩
  | [], i, S => by simp [goCh, insOf, befL, lastL]
  | s :: l, i, S => by
    simp only [goCh]
    rw [goCh_eq l (i + 1)]
    simp [stepCh, List.replicate_succ, List.range'_succ, insOf_succ, befL, lastL]

theorem okCh_ind : ∀ (l : List (Sl Int)) (i : Nat) (S : IS) (base : List (List UInt8)), S.names = base ++ (List.range' 0 i).map siN → (∀ j, j < 100 → siN j ∉ base) → i + l.length ≤ 100 → S.nodes.length ≤ 2000 + i → S.names.length ≤ 2000 + i → S.cl.length = i → S.ins.length = i → S.outs.length ≤ 2000 + i →
    (S.bef.map (·.1) ++ elems l).Nodup → (∀ s ∈ l, s.l ≠ [] ∧ s.nl ≠ some true ∧ s.l.length ≤ 1000000) → okCh i l S
  | [], _, _, _, _, _, _, _, _, _, _, _, _, _ => trivial
  | s :: l, i, S, base, hn, hb, hi, h1, h2, h3, h4, h5, hnd, hs => by
    simp only [List.length_cons] at hi
    rw [elems_cons, ← List.append_assoc] at hnd
    have hnd2 := hnd
    rw [List.append_assoc] at hnd2
    obtain ⟨d1, d2, d3⟩ := List.nodup_append.1 hnd2
    obtain ⟨e1, e2, e3⟩ := List.nodup_append.1 d2
    obtain ⟨s1, s2, s3⟩ := hs s List.mem_cons_self
    refine ⟨⟨⟨by omega, by omega, by omega, by omega, by omega⟩, ?_, by omega, s1, s2, s3, e1, fun n hnl hm => d3 n hm n (List.mem_append_left _ hnl) rfl⟩, ?_⟩
    · rw [hn, List.mem_append]
      rintro (h | h)
      · exact hb i (by omega) h
      · obtain ⟨j, hj, e⟩ := List.mem_map.1 h
        simp at hj
        have := siN_inj (by omega) (by omega) e
        omega
    · refine okCh_ind l (i + 1) (stepCh i s S) base ?_ hb (by omega) (by simp [stepCh]; omega) (by simp [stepCh]; omega) (by simp [stepCh]; omega) (by simp [stepCh]; omega) (by simp [stepCh]; omega) ?_ fun x hx => hs x (List.mem_cons_of_mem _ hx)
      · simp only [stepCh, hn, List.append_assoc]
        rw [List.range'_concat]
        simp
      · simp only [stepCh, List.map_append, prevs_keys]
        exact hnd

theorem okSt_ind (c : Cir) (en : Int) (bef : List (Int × Int)) : ∀ (l : List Int) (i : Nat) (J : JS) (base : List (List UInt8)), J.names = base ++ (List.range' 0 i).map smN → (∀ j, j < 100 → smN j ∉ base) → i + l.length ≤ 100 → J.nodes.length ≤ 3000 + i → J.names.length ≤ 3000 + i → J.muxes.length = i →
    (∀ n ∈ l, 0 ≤ n ∧ n < c.nodes.l.length ∧ n < J.nodes.length ∧ innAt c n.toNat ≠ []) → okSt c en bef i l J
  | [], _, _, _, _, _, _, _, _, _, _ => trivial
  | n :: l, i, J, base, hn, hb, hi, h1, h2, h3, hs => by
    simp only [List.length_cons] at hi
    obtain ⟨s1, s2, s3, s4⟩ := hs n List.mem_cons_self
    have hlen : (stepSt c en bef i n J).nodes.length = J.nodes.length + 1 := by simp [stepSt, setIn]
    refine ⟨⟨by omega, by omega, by omega, ?_, by omega, s1, s2, s3, s4⟩, ?_⟩
    · rw [hn, List.mem_append]
      rintro (h | h)
      · exact hb i (by omega) h
      · obtain ⟨j, hj, e⟩ := List.mem_map.1 h
        simp at hj
        have := smN_inj (by omega) (by omega) e
        omega
    · refine okSt_ind c en bef l (i + 1) (stepSt c en bef i n J) base ?_ hb (by omega) (by omega) (by simp [stepSt]; omega) (by simp [stepSt]; omega) fun x hx => ?_
      · simp only [stepSt, hn, List.append_assoc]
        rw [List.range'_concat]
        simp
      · obtain ⟨a1, a2, a3, a4⟩ := hs x (List.mem_cons_of_mem _ hx)
        exact ⟨a1, a2, by omega, a4⟩
end Go.Lg

/- What a case lays. Conditions: none. -/
set_option linter.unusedSimpArgs false
set_option linter.unusedVariables false
set_option maxRecDepth 100000
namespace Go.Lg
open Go Go.Proofs
variable {Γ : Tables}

structure CaseD where
  x : CD
  keys : Sl Int
  cuts : Sl Int
structure CaseOk (y : CaseD) : Prop where
  x : CDOk y.x
  keys : ∀ b ∈ y.keys.l, Byt b
  cuts : ∀ b ∈ y.cuts.l, Byt b
def noMemX (x : CD) : CD := { x with mem := false }
def caseC (y : CaseD) : Cir := ofC (noMemX y.x)
def caseCh (y : CaseD) : List (Sl Int) := cutS y.cuts.l (permS (min (states (caseC y)).length y.keys.l.length) 0 y.keys.l (states (caseC y)))
theorem noMemX_ok {x : CD} (h : CDOk x) : CDOk (noMemX x) := ⟨h.i, h.f, h.d0, h.d1, h.p0, h.p1, h.p2, h.p3, h.gates, h.outs⟩

end Go.Lg

/- The plain law of ScansShorten. Conditions: none. -/
set_option linter.unusedSimpArgs false
set_option linter.unusedVariables false
set_option maxRecDepth 100000
namespace Go.Lg
open Go Go.Proofs
variable {Γ : Tables}

theorem nodes5_16 {x : CD} (hx : CDOk x) : (nodes5 x).length ≤ 16 := by
  have m4 : 0 ≤ x.i.tmod 4 ∧ x.i.tmod 4 < 4 := tmod_lt (n := 4) hx.i.1 (by omega)
  have m3 : 0 ≤ x.f.tmod 3 ∧ x.f.tmod 3 < 3 := tmod_lt (n := 3) hx.f.1 (by omega)
  have l2 : (nodes2 x).length = (x.i.tmod 4 + 1).toNat + (x.f.tmod 3).toNat := by simp [nodes2, nodes1]
  have l3 : (nodes2 x).length ≤ (nodes3 x).length ∧ (nodes3 x).length ≤ 8 := by unfold nodes3; split <;> simp <;> omega
  have l4 : (nodes4 x).length = (nodes3 x).length + min 8 x.gates.l.length := by unfold nodes4; rw [gatesN_len]; simp
  have l5 : (nodes5 x).length = (nodes4 x).length := dataN_len
  omega

end Go.Lg

/- What Insert lays, plainly: the circuit. Conditions: none. -/
set_option linter.unusedSimpArgs false
set_option linter.unusedVariables false
set_option maxRecDepth 100000
namespace Go.Lg
open Go Go.Proofs

theorem getN_app {a b : List Nd} {q : Nat} (h : q < a.length) : (a ++ b).getD q Nd.d = a.getD q Nd.d := by
  rw [List.getD_eq_getElem?_getD, List.getElem?_append_left h, ← List.getD_eq_getElem?_getD]
theorem getN_app2 {a b : List Nd} {q : Nat} (h : a.length ≤ q) : (a ++ b).getD q Nd.d = b.getD (q - a.length) Nd.d := by
  rw [List.getD_eq_getElem?_getD, List.getElem?_append_right h, ← List.getD_eq_getElem?_getD]
theorem getN_set {a : List Nd} {j q : Nat} {v : Int} (h : j < a.length) : (setIn a j v).getD q Nd.d = if q = j then ⟨(a.getD j Nd.d).k, ⟨[v], some 1, some false⟩, (a.getD j Nd.d).mem, (a.getD j Nd.d).bit⟩ else a.getD q Nd.d := by
  unfold setIn
  rw [List.getD_eq_getElem?_getD, List.getElem?_set]
  by_cases e : j = q
  · subst e; simp [h]
  · rw [if_neg e, if_neg (fun h => e h.symm), ← List.getD_eq_getElem?_getD]

/-- Nodes, names and the list of the Mux nodes. -/
theorem goSt_eq (c : Cir) (en : Int) (bef : List (Int × Int)) : ∀ (l : List Int) (i : Nat) (J : JS), l.Nodup → (∀ n ∈ l, 0 ≤ n ∧ n < J.nodes.length) →
    (goSt c en bef i l J).nodes.length = J.nodes.length + l.length ∧ (goSt c en bef i l J).names = J.names ++ (List.range' i l.length).map smN ∧ (goSt c en bef i l J).muxes = J.muxes ++ insOf J.nodes.length l.length ∧
    (∀ q, q < J.nodes.length → (q : Int) ∉ l → (goSt c en bef i l J).nodes.getD q Nd.d = J.nodes.getD q Nd.d) ∧
    (∀ k, k < l.length → (goSt c en bef i l J).nodes.getD (l.getD k 0).toNat Nd.d = ⟨(J.nodes.getD (l.getD k 0).toNat Nd.d).k, ⟨[((J.nodes.length + k : Nat) : Int)], some 1, some false⟩, (J.nodes.getD (l.getD k 0).toNat Nd.d).mem, (J.nodes.getD (l.getD k 0).toNat Nd.d).bit⟩) ∧
    (∀ k, k < l.length → (goSt c en bef i l J).nodes.getD (J.nodes.length + k) Nd.d = muxN en (in0 c (l.getD k 0)) (befOf bef (l.getD k 0)))
  | [], i, J, _, _ => ⟨rfl, by simp [goSt], by simp [goSt, insOf], fun q _ _ => rfl, fun k h => by simp at h, fun k h => by simp at h⟩
  | n :: l, i, J, hnd, hs => by
    obtain ⟨hn1, hn2⟩ := List.nodup_cons.1 hnd
    obtain ⟨n0, n1⟩ := hs n List.mem_cons_self
    have hlen : (stepSt c en bef i n J).nodes.length = J.nodes.length + 1 := by simp [stepSt, setIn]
    obtain ⟨a1, a2, a3, a4, a5, a6⟩ := goSt_eq c en bef l (i + 1) (stepSt c en bef i n J) hn2 fun x hx => by
      have := hs x (List.mem_cons_of_mem _ hx)
      exact ⟨this.1, by omega⟩
    have hlt : n.toNat < (J.nodes ++ [muxN en (in0 c n) (befOf bef n)]).length := by simp; omega
    have hst : ∀ q, (stepSt c en bef i n J).nodes.getD q Nd.d = if q = n.toNat then ⟨(J.nodes.getD n.toNat Nd.d).k, ⟨[(J.nodes.length : Int)], some 1, some false⟩, (J.nodes.getD n.toNat Nd.d).mem, (J.nodes.getD n.toNat Nd.d).bit⟩ else (J.nodes ++ [muxN en (in0 c n) (befOf bef n)]).getD q Nd.d := fun q => by
      simp only [stepSt]
      rw [getN_set hlt, getN_app (by omega)]
    simp only [goSt]
    refine ⟨by rw [a1, hlen]; simp; omega, ?_, ?_, ?_, ?_, ?_⟩
    · rw [a2]; simp [stepSt, List.range'_succ]
    · rw [a3, hlen]; simp only [stepSt, List.append_assoc, List.length_cons, insOf_succ]; rfl
    · intro q hq hm
      rw [a4 q (by omega) fun h => hm (List.mem_cons_of_mem _ h), hst, if_neg (fun e => hm (by have : (q : Int) = n := by omega
                                                                                               rw [this]; exact List.mem_cons_self)), getN_app hq]
    · intro k hk
      cases k with
      | zero =>
        simp only [List.getD_cons_zero]
        rw [a4 n.toNat (by omega) fun h => hn1 (by have : ((n.toNat : Nat) : Int) = n := by omega
                                                   rw [this] at h; exact h), hst, if_pos rfl]
        rfl
      | succ k =>
        simp only [List.getD_cons_succ]
        have hk' : k < l.length := by simpa using hk
        have hin : l.getD k 0 ∈ l := by rw [getD_eq hk']; exact List.getElem_mem _
        have hb := hs _ (List.mem_cons_of_mem _ hin)
        have hne : ¬ (l.getD k 0).toNat = n.toNat := fun e => hn1 (by have : l.getD k 0 = n := by omega
                                                                      rw [← this]; exact hin)
        rw [a5 k hk', hst, if_neg hne, getN_app (by omega), hlen]
        congr 4
        omega
    · intro k hk
      cases k with
      | zero =>
        simp only [List.getD_cons_zero, Nat.add_zero]
        rw [a4 J.nodes.length (by omega) fun h => by have := (hs _ (List.mem_cons_of_mem _ h)).2; omega, hst, if_neg (by omega), getN_app2 (Nat.le_refl _)]
        simp
      | succ k =>
        simp only [List.getD_cons_succ]
        have hk' : k < l.length := by simpa using hk
        rw [← a6 k hk', hlen]
        congr 1
        omega
end Go.Lg

/- What Insert lays, plainly: a valid circuit. Conditions: none. -/
set_option linter.unusedSimpArgs false
set_option linter.unusedVariables false
set_option maxRecDepth 100000
namespace Go.Lg
open Go Go.Proofs

/-- A circuit without memory, and complete chains. -/
structure ScOk (c : Cir) (ch : List (Sl Int)) : Prop where
  ok : COk c
  cp : CpOk c
  good : GNs false c.nodes.l
  n1 : 1 ≤ c.nodes.l.length
  n2 : c.nodes.l.length ≤ 16
  nms : c.names.l = (List.range' 0 c.nodes.l.length).map nameL
  outs : c.outs.l.length ≤ 4 ∧ ∀ p ∈ c.outs.l, 0 ≤ p ∧ p < c.nodes.l.length
  perm : (elems ch).Perm (states c)
  ne : ∀ s ∈ ch, s.l ≠ [] ∧ s.nl ≠ some true

theorem nd_cases {B : Bool} {ns : List Nd} (h : GNs B ns) {i : Nat} (hi : i < ns.length) : NG B ns i (ns.getD i Nd.d) := by
  have := h i hi
  rwa [show ns.getD i Nd.d = ns[i] by simp [List.getD_eq_getElem?_getD, hi]]

/-! The nodes are lists that tell whether they are nil. -/
def SNs (ns : List Nd) : Prop := ∀ x ∈ ns, SlOk x.inn
theorem slok_none {l : List Int} (h : l ≠ []) (h2 : l.length ≤ 1000000) : SlOk (⟨l, none, none⟩ : Sl Int) := ⟨(fun h => nomatch h), (fun _ => h), h2⟩
theorem slok_some {l : List Int} {c : Option Nat} (h2 : l.length ≤ 1000000) : SlOk (⟨l, c, some false⟩ : Sl Int) := ⟨(fun h => nomatch h), (fun h => nomatch h), h2⟩
theorem slok_nil {c : Option Nat} : SlOk (⟨[], c, some true⟩ : Sl Int) := ⟨(fun _ => rfl), (fun h => nomatch h), by simp⟩
theorem sns_gate {bus : Bool} {g : Gd} {ns : List Nd} : SlOk (gateN bus g ns).inn := by
  unfold gateN gateT
  generalize (if bus = true then g.k.tmod 13 else g.k.tmod 9) = kk
  by_cases h1 : kk < 6
  · simp only [h1, if_true]
    split
    · exact slok_none (by simp) (by simp)
    · exact slok_none (by simp) (by simp)
  · simp only [h1, if_false]
    split
    · exact slok_none (by simp) (by simp)
    split
    · exact slok_none (by simp) (by simp)
    split
    · exact slok_none (by simp) (by simp)
    split
    · by_cases h2 : 1 < (triL ns).length
      · simp only [h2, if_true]
        exact slok_none (by simp) (by simp)
      · simp only [h2, if_false]
        exact slok_none (by simp) (by simp)
    split
    · exact slok_nil
    · exact slok_none (by simp) (by simp)
theorem sns_gates {bus : Bool} : ∀ {l : List Gd} {ns : List Nd}, SNs ns → SNs (gatesN bus l ns)
  | [], ns, h => h
  | g :: l, ns, h => by
    simp only [gatesN]
    refine sns_gates fun x hx => ?_
    rcases List.mem_append.1 hx with hx | hx
    · exact h x hx
    · simp at hx; subst hx; exact sns_gate
theorem sns_data {x : CD} {first : Nat} : ∀ {k i : Nat} {ns : List Nd}, SNs ns → SNs (dataN x first k i ns)
  | 0, _, _, h => h
  | k + 1, i, ns, h => by
    simp only [dataN]
    refine sns_data fun y hy => ?_
    rcases List.mem_or_eq_of_mem_set hy with hy | rfl
    · exact h y hy
    · exact slok_some (by simp)
theorem sns_nodes {x : CD} (hm : x.mem = false) : SNs (nodes5 x) := by
  unfold nodes5 nodes4 nodes3
  rw [hm]
  refine sns_data (sns_gates fun y hy => ?_)
  simp only [Bool.false_eq_true, if_false, nodes2, nodes1, List.mem_append, List.mem_replicate] at hy
  rcases hy with ⟨_, rfl⟩ | ⟨_, rfl⟩
  · exact slok_nil
  · exact slok_some (by simp)

theorem case_scok {y : CaseD} (hy : CaseOk y) : ScOk (caseC y) (caseCh y) := by
  have hx := noMemX_ok hy.x
  have hN : (caseC y).nodes.l = nodes5 (noMemX y.x) := rfl
  have hl4 := nodes4_len hx
  have h54 : (nodes5 (noMemX y.x)).length = (nodes4 (noMemX y.x)).length := dataN_len
  have h16 : (nodes5 (noMemX y.x)).length ≤ 16 := nodes5_16 hx
  have hpe := permS_perm (min (states (caseC y)).length y.keys.l.length) 0 y.keys.l (states (caseC y)) (by omega)
  have hmods : ∀ b, Byt b → 0 ≤ b.tmod (nodes4 (noMemX y.x)).length ∧ b.tmod (nodes4 (noMemX y.x)).length < ((nodes5 (noMemX y.x)).length : Int) := fun b hb => by
    have := tmod_lt (n := (nodes4 (noMemX y.x)).length) hb.1 (by omega); omega
  have hout : ∀ p ∈ (caseC y).outs.l, 0 ≤ p ∧ p < ((caseC y).nodes.l.length : Int) := fun p hp => by
    rw [hN]
    simp only [caseC, ofC, List.mem_append, List.mem_map, List.mem_singleton] at hp
    rcases hp with ⟨b, hb, rfl⟩ | rfl
    · exact hmods b (hx.outs b (List.mem_of_mem_take hb))
    · omega
  have hol : (caseC y).outs.l.length ≤ 4 := by simp [caseC, ofC]; omega
  have hne : (nodes5 (noMemX y.x)) ≠ [] := List.length_pos_iff.1 (by omega)
  have hnl : (caseC y).names.l.length = (nodes4 (noMemX y.x)).length := by simp [caseC, ofC]
  refine ⟨ofC_ok hx, ⟨hne, by rw [hN]; omega, rfl, List.length_pos_iff.1 (by omega), by omega, rfl, rfl, ?_, slok_none (by simp) (by simp; omega)⟩, nodes5_good hx, by rw [hN]; omega, by rw [hN]; omega, ?_, ⟨hol, hout⟩, ?_, cutS_ne _ _⟩
  · exact sns_nodes (x := noMemX y.x) rfl
  · show (List.range' 0 (nodes4 (noMemX y.x)).length).map nameL = (List.range' 0 (nodes5 (noMemX y.x)).length).map nameL
    rw [h54]
  · unfold caseCh; rw [cutS_elems]; exact hpe
end Go.Lg

/- What Insert lays, plainly: the parts of the circuit, and that it is valid. Conditions: none. -/
set_option linter.unusedSimpArgs false
set_option linter.unusedVariables false
set_option maxRecDepth 100000
namespace Go.Lg
open Go Go.Proofs

def m0 (c : Cir) (ch : List (Sl Int)) : Nat := c.nodes.l.length + 1 + ch.length

theorem getN_map {l : List Nd} {q : Nat} (h : q < l.length) : (l.map cpNd).getD q Nd.d = cpNd (l.getD q Nd.d) := by
  simp [List.getD_eq_getElem?_getD, h]

/-- What is known of the circuit with scan chains. -/
structure ScF (c : Cir) (ch : List (Sl Int)) : Prop where
  chl : ch.length ≤ 16
  stl : (states c).length ≤ 16
  sn : (scS c ch).nodes = c.nodes.l.map cpNd ++ [inpN] ++ List.replicate ch.length inpN
  snl : (scS c ch).nodes.length = m0 c ch
  snm : (scS c ch).names = c.names.l ++ [seN] ++ (List.range' 0 ch.length).map siN
  cl : (scS c ch).cl = ch.map (fun s => ⟨s.l, some s.l.length, none⟩)
  ins : (scS c ch).ins = insOf (c.nodes.l.length + 1) ch.length
  bef : (scS c ch).bef = befL (c.nodes.l.length + 1 : Nat) ch
  outs : (scS c ch).outs = c.outs.l ++ lastL (c.nodes.l.length + 1 : Nat) ch
  len : (scJ c ch).nodes.length = m0 c ch + (states c).length
  nm : (scJ c ch).names = c.names.l ++ [seN] ++ (List.range' 0 ch.length).map siN ++ (List.range' 0 (states c).length).map smN
  mux : (scJ c ch).muxes = insOf (m0 c ch) (states c).length
  old : ∀ q, q < c.nodes.l.length → kindAt c q ≠ 14 → (scJ c ch).nodes.getD q Nd.d = cpNd (c.nodes.l.getD q Nd.d)
  dff : ∀ q, q < c.nodes.l.length → kindAt c q = 14 → (scJ c ch).nodes.getD q Nd.d = ⟨14, ⟨[((m0 c ch + rankK 14 c q : Nat) : Int)], some 1, some false⟩, (c.nodes.l.getD q Nd.d).mem, (c.nodes.l.getD q Nd.d).bit⟩
  inp : ∀ q, c.nodes.l.length ≤ q → q < m0 c ch → (scJ c ch).nodes.getD q Nd.d = inpN
  mx : ∀ k, k < (states c).length → (scJ c ch).nodes.getD (m0 c ch + k) Nd.d = muxN c.nodes.l.length (in0 c ((states c).getD k 0)) (befOf (befL (c.nodes.l.length + 1 : Nat) ch) ((states c).getD k 0))

theorem scF {c : Cir} {ch : List (Sl Int)} (h : ScOk c ch) : ScF c ch := by
  have hsl : (states c).length ≤ c.nodes.l.length := ofL_len _ _ _
  have hn2 := h.n2
  have hle := elems_le ch fun s hs => (h.ne s hs).1
  have hpl := h.perm.length_eq
  have hS : scS c ch = _ := goCh_eq ch 0 (scS0 c)
  have s1 : (scS c ch).nodes = c.nodes.l.map cpNd ++ [inpN] ++ List.replicate ch.length inpN := by rw [hS]; rfl
  have s2 : (scS c ch).nodes.length = m0 c ch := by rw [s1]; simp [m0]; omega
  have s3 : (scS c ch).names = c.names.l ++ [seN] ++ (List.range' 0 ch.length).map siN := by rw [hS]; rfl
  have l0 : (scS0 c).nodes.length = c.nodes.l.length + 1 := by simp [scS0]
  have s4 : (scS c ch).bef = befL (c.nodes.l.length + 1 : Nat) ch := by
    rw [hS]; show ([] : List (Int × Int)) ++ befL ((scS0 c).nodes.length) ch = _
    rw [l0]; rfl
  have hnd : (states c).Nodup := (ofL_nodup [14] c.nodes.l 0).2
  have hin : ∀ n ∈ states c, 0 ≤ n ∧ n < (scS c ch).nodes.length := fun n hn => by
    have := ofL_in (k := 14) (c := c) n hn
    rw [s2]; unfold m0; omega
  obtain ⟨a1, a2, a3, a4, a5, a6⟩ := goSt_eq c c.nodes.l.length (scS c ch).bef (states c) 0 ⟨(scS c ch).nodes, (scS c ch).names, []⟩ hnd hin
  have hJ : scJ c ch = goSt c c.nodes.l.length (scS c ch).bef 0 (states c) ⟨(scS c ch).nodes, (scS c ch).names, []⟩ := rfl
  rw [← hJ] at a1 a2 a3 a4 a5 a6
  simp only [s2] at a1 a3 a4 a5 a6
  have hg : ∀ q, q < c.nodes.l.length → (scS c ch).nodes.getD q Nd.d = cpNd (c.nodes.l.getD q Nd.d) := fun q hq => by
    rw [s1, List.append_assoc, getN_app (by simpa using hq), getN_map hq]
  refine ⟨by omega, by omega, s1, s2, s3, by rw [hS]; rfl, ?_, s4, ?_, a1, by rw [a2, s3], by rw [a3]; rfl, ?_, ?_, ?_, ?_⟩
  · rw [hS]; show ([] : List Int) ++ insOf (scS0 c).nodes.length ch.length = _
    rw [l0]; rfl
  · rw [hS]; show c.outs.l ++ lastL ((scS0 c).nodes.length) ch = _
    rw [l0]
  · intro q hq hk
    rw [a4 q (by unfold m0; omega) fun hm => hk ((mem_ofL hq).1 hm), hg q hq]
  · intro q hq hk
    obtain ⟨r1, r2⟩ := rank_at hq hk
    have := a5 (rankK 14 c q) r1
    have e : (states c).getD (rankK 14 c q) 0 = (q : Int) := r2
    rw [e] at this
    simp only [Int.toNat_natCast] at this
    rw [this, hg q hq]
    have hk' : (c.nodes.l.getD q Nd.d).k = 14 := hk
    simp only [cpNd, hk']
  · intro q h1 h2
    rw [a4 q h2 fun hm => by have := (ofL_in (k := 14) (c := c) _ hm).2.1; omega]
    rw [s1, List.append_assoc, getN_app2 (by simpa using h1)]
    simp only [List.length_map]
    have h3 : q - c.nodes.l.length < ([inpN] ++ List.replicate ch.length inpN).length := by simp; unfold m0 at h2; omega
    have : ∀ x ∈ [inpN] ++ List.replicate ch.length inpN, x = inpN := fun x hx => by
      rcases List.mem_append.1 hx with hx | hx
      · simpa using hx
      · exact (List.mem_replicate.1 hx).2
    rw [List.getD_eq_getElem?_getD, List.getElem?_eq_getElem h3]
    exact this _ (List.getElem_mem h3)
  · intro k hk
    rw [← s4]
    exact a6 k hk
end Go.Lg

/- What Insert lays, plainly: the circuit is valid, Insert may be called. Conditions: none. -/
set_option linter.unusedSimpArgs false
set_option linter.unusedVariables false
set_option maxRecDepth 100000
namespace Go.Lg
open Go Go.Proofs

variable {c : Cir} {ch : List (Sl Int)}

theorem st_inn (h : ScOk c ch) {n : Int} (hn : n ∈ states c) : ∃ v, innAt c n.toNat = [v] ∧ 0 ≤ v ∧ v < c.nodes.l.length ∧ in0 c n = v := by
  obtain ⟨n0, n1, nk⟩ := ofL_in (k := 14) (c := c) n hn
  have hg := nd_cases h.good (i := n.toNat) (by omega)
  have hk : (c.nodes.l.getD n.toNat Nd.d).k = 14 := nk
  have hf := hg.f
  rw [hk, show fan 14 = (1, 1) by rfl] at hf
  have hi : innAt c n.toNat = (c.nodes.l.getD n.toNat Nd.d).inn.l := rfl
  rw [← hi] at hf
  have hr := hg.inn
  rw [← hi] at hr
  match hl : innAt c n.toNat with
  | [] => rw [hl] at hf; simp at hf
  | [v] =>
    rw [hl] at hr
    have := hr v (by simp)
    exact ⟨v, rfl, this.1, this.2, by simp [in0, hl]⟩
  | _ :: _ :: _ => rw [hl] at hf; simp at hf; omega

theorem nameL_inj : ∀ i, i < 100 → ∀ j, j < 100 → nameL i = nameL j → i = j := by decide +kernel

theorem map_nodup {α : Type} {f : Nat → α} {n : Nat} (hf : ∀ i, i < n → ∀ j, j < n → f i = f j → i = j) : ((List.range' 0 n).map f).Nodup := by
  rw [List.nodup_iff_pairwise_ne, List.pairwise_map]
  refine (List.Pairwise.imp_of_mem ?_ (List.nodup_iff_pairwise_ne.1 (List.nodup_range' (s := 0) (n := n) (step := 1))))
  intro a b ha hb hab e
  simp at ha hb
  exact hab (hf a (by omega) b (by omega) e)

end Go.Lg

/- Insert may be called for complete chains; what it lays is valid. Conditions: none. -/
set_option linter.unusedSimpArgs false
set_option linter.unusedVariables false
set_option maxRecDepth 100000
namespace Go.Lg
open Go Go.Proofs

variable {c : Cir} {ch : List (Sl Int)}

theorem scOk_ins (h : ScOk c ch) (hp : plainErr c = 0) (cap : Option Nat) (nl : Option Bool) : InsOk c ⟨ch, cap, nl⟩ := by
  have hf := scF h
  have hn2 := h.n2
  have hc := hf.chl
  have hs := hf.stl
  have ho := h.outs
  have hle := elems_le ch fun s hs => (h.ne s hs).1
  have hpl := h.perm.length_eq
  have hnd : (elems ch).Nodup := h.perm.nodup_iff.2 (ofL_nodup [14] c.nodes.l 0).2
  have n1 : ((List.range' 0 c.nodes.l.length).map nameL).Nodup := map_nodup fun i hi j hj e => nameL_inj i (by omega) j (by omega) e
  have hnn : c.names.l.length = c.nodes.l.length := by rw [h.nms]; simp
  refine ⟨h.ok, h.cp, by rw [h.nms]; exact n1, ?_, by show ch.length ≤ _; omega, fun s hs => by have := hle.2 s hs; omega, by omega, by omega, by omega, ?_, ?_, ?_, ?_⟩
  · rw [h.nms]
    intro hm
    obtain ⟨i, _, e⟩ := List.mem_map.1 hm
    simp [nameL, seN] at e
  · refine okCh_ind ch 0 (scS0 c) (c.names.l ++ [seN]) (by simp [scS0]) ?_ (by omega) (by simp [scS0]; omega) (by simp [scS0]; omega) rfl rfl (by simp [scS0]; omega) (by simpa [scS0] using hnd) fun s hs => ⟨(h.ne s hs).1, (h.ne s hs).2, by have := hle.2 s hs; omega⟩
    intro j hj hm
    rw [h.nms] at hm
    rcases List.mem_append.1 hm with hm | hm
    · obtain ⟨i, _, e⟩ := List.mem_map.1 hm
      simp [nameL, siN] at e
    · simp [siN, seN] at hm
  · refine okSt_ind c c.nodes.l.length (scS c ch).bef (states c) 0 ⟨(scS c ch).nodes, (scS c ch).names, []⟩ (scS c ch).names (by simp) ?_ (by omega) ?_ ?_ rfl ?_
    · intro j hj hm
      rw [hf.snm, h.nms] at hm
      rcases List.mem_append.1 hm with hm | hm
      · rcases List.mem_append.1 hm with hm | hm
        · obtain ⟨i, _, e⟩ := List.mem_map.1 hm
          simp [nameL, smN] at e
        · simp [smN, seN] at hm
      · obtain ⟨i, _, e⟩ := List.mem_map.1 hm
        simp [siN, smN] at e
    · show (scS c ch).nodes.length ≤ _
      rw [hf.snl]; unfold m0; omega
    · show (scS c ch).names.length ≤ _
      rw [hf.snm]; simp; omega
    · intro n hn
      have := ofL_in (k := 14) (c := c) n hn
      obtain ⟨v, hv, _⟩ := st_inn h hn
      refine ⟨this.1, this.2.1, ?_, by rw [hv]; simp⟩
      show n < (scS c ch).nodes.length
      rw [hf.snl]; unfold m0; omega
  · intro he
    have he : ch = [] := he
    have : (elems ch).length = 0 := by rw [he]; rfl
    exact List.eq_nil_of_length_eq_zero (by omega)
  · exact check_perm hp (by show ch.length ≤ 64; omega) (fun s hs => (h.ne s hs).1) h.perm
end Go.Lg

/- Chains that Check accepts are complete. Conditions: none. -/
set_option linter.unusedSimpArgs false
set_option linter.unusedVariables false
set_option maxRecDepth 100000
namespace Go.Lg
open Go Go.Proofs

theorem nodup_perm : ∀ {l m : List Int}, l.Nodup → (∀ a ∈ l, a ∈ m) → m.length ≤ l.length → l.Perm m
  | [], m, _, _, h => by
    have : m = [] := List.eq_nil_of_length_eq_zero (by simpa using h)
    rw [this]
  | a :: l, m, hn, hs, h => by
    obtain ⟨h1, h2⟩ := List.nodup_cons.1 hn
    have ha := hs a List.mem_cons_self
    have hp := List.perm_cons_erase ha
    have hl := List.length_erase_of_mem ha
    simp only [List.length_cons] at h
    have ih := nodup_perm (m := m.erase a) h2 (fun b hb => by
      have hne : b ≠ a := fun e => h1 (e ▸ hb)
      exact (List.mem_erase_of_ne hne).2 (hs b (List.mem_cons_of_mem _ hb))) (by omega)
    exact (ih.cons a).trans hp.symm

theorem goElems_some {c : Cir} : ∀ {l done d : List Int}, goElems c done l = some d → d = done ++ l ∧ (∀ n ∈ l, n ∈ states c) ∧ (done.Nodup → d.Nodup)
  | [], done, d, h => by
    simp only [goElems, Option.some.injEq] at h
    subst h
    exact ⟨by simp, by simp, id⟩
  | n :: l, done, d, h => by
    simp only [goElems] at h
    split at h
    · cases h
    rename_i hb
    obtain ⟨a1, a2, a3⟩ := goElems_some h
    have hb' : ¬ (n < 0 ∨ (c.nodes.l.length : Int) ≤ n ∨ kindAt c n.toNat ≠ 14 ∨ n ∈ done) := by simpa [elemBad] using hb
    have hb0 : ¬ n < 0 := fun h => hb' (.inl h)
    have hb1 : ¬ (c.nodes.l.length : Int) ≤ n := fun h => hb' (.inr (.inl h))
    have hb2 : kindAt c n.toNat = 14 := Decidable.byContradiction fun h => hb' (.inr (.inr (.inl h)))
    have hb3 : n ∉ done := fun h => hb' (.inr (.inr (.inr h)))
    refine ⟨by rw [a1]; simp, fun x hx => ?_, fun hd => a3 ?_⟩
    · rcases List.mem_cons.1 hx with rfl | hx
      · have := (mem_ofL (c := c) (k := 14) (i := x.toNat) (by omega)).2 hb2
        have e : ((x.toNat : Nat) : Int) = x := by omega
        rw [e] at this
        exact this
      · exact a2 x hx
    · rw [List.nodup_append]
      refine ⟨hd, by simp, fun a ha b hb e => ?_⟩
      simp at hb
      subst hb; subst e
      exact hb3 ha
theorem goChains_some {c : Cir} : ∀ {l : List (Sl Int)} {done d : List Int}, goChains c done l = some d → d = done ++ elems l ∧ (∀ n ∈ elems l, n ∈ states c) ∧ (done.Nodup → d.Nodup) ∧ ∀ s ∈ l, s.l ≠ []
  | [], done, d, h => by
    simp only [goChains, Option.some.injEq] at h
    subst h
    exact ⟨by simp [elems_nil], by simp [elems_nil], id, by simp⟩
  | s :: l, done, d, h => by
    simp only [goChains] at h
    split at h
    · cases h
    rename_i hs
    rw [Option.bind_eq_some_iff] at h
    obtain ⟨e, h1, h2⟩ := h
    obtain ⟨a1, a2, a3⟩ := goElems_some h1
    obtain ⟨b1, b2, b3, b4⟩ := goChains_some h2
    rw [elems_cons]
    refine ⟨by rw [b1, a1, List.append_assoc], fun n hn => ?_, fun hd => b3 (a3 hd), fun x hx => ?_⟩
    · rcases List.mem_append.1 hn with hn | hn
      · exact a2 n hn
      · exact b2 n hn
    · rcases List.mem_cons.1 hx with rfl | hx
      · exact hs
      · exact b4 x hx

theorem check_complete {c : Cir} {chs : List (Sl Int)} (h : checkErr c chs = 0) : plainErr c = 0 ∧ (elems chs).Perm (states c) ∧ ∀ s ∈ chs, s.l ≠ [] := by
  unfold checkErr at h
  split at h
  · rename_i h1; exact absurd h h1
  rename_i h1
  split at h
  · cases h
  split at h
  · cases h
  rename_i d hd
  obtain ⟨a1, a2, a3, a4⟩ := goChains_some hd
  split at h
  · cases h
  rename_i hl
  have a3 := a3 (by simp)
  rw [List.nil_append] at a1
  rw [a1] at a3 hl
  refine ⟨by simpa using h1, nodup_perm a3 a2 (by omega), a4⟩
end Go.Lg

/- The abstract code of some functions, as the program gen.py prints it. Conditions: none. -/
set_option linter.unusedVariables false
namespace Go.Lg
open Go
section
variable {P : Program} {Γ : Tables} {Q : AX → St → Prop} {s : St}
/- probecard/probecardlaw34.ScansErrors (function 11) -/
def law34_ScansErrors_r0 : List RO := [
    ⟨some 3, .box true (.tmp 0), none, none⟩,
    ⟨some 5, .box true (.tmp 2), none, none⟩,
    ⟨some 6, .mv (.const (.bool false)), none, none⟩]
def law34_ScansErrors_r1 : List RO := [
    ⟨some 22, .mv (.tmp 1), none, none⟩,
    ⟨some 23, .len 0 (.tmp 22), none, none⟩,
    ⟨some 24, .bin .gtr (.tmp 23) (.const (.int .i64 10)), none, none⟩,
    ⟨some 25, .mv (.tmp 24), none, none⟩,
    ⟨some 26, .fadr 0 (.tmp 5), some (25, false), none⟩,
    ⟨some 27, .load 1 false (.tmp 26), some (25, false), none⟩,
    ⟨some 28, .len 0 (.tmp 27), some (25, false), none⟩,
    ⟨some 29, .bin .gtr (.tmp 28) (.const (.int .i64 20)), some (25, false), none⟩,
    ⟨some 30, .pick (.tmp 25) (.const (.bool true)) (.tmp 29), none, none⟩,
    ⟨some 31, .mv (.tmp 30), none, none⟩,
    ⟨some 32, .fadr 1 (.tmp 5), some (31, false), none⟩,
    ⟨some 33, .load 1 false (.tmp 32), some (31, false), none⟩,
    ⟨some 34, .len 0 (.tmp 33), some (31, false), none⟩,
    ⟨some 35, .bin .gtr (.tmp 34) (.const (.int .i64 20)), some (31, false), none⟩,
    ⟨some 36, .pick (.tmp 31) (.const (.bool true)) (.tmp 35), none, none⟩]
def law34_ScansErrors_r2 : List RO := [
    ⟨some 37, .call 16 [], none, none⟩,
    ⟨some 6, .mv (.tmp 37), none, none⟩]
def law34_ScansErrors_r3 : List RO := [
    ⟨some 7, .mv (.const (.int .i64 0)), none, none⟩]
def law34_ScansErrors_r4 : List RO := [
    ⟨some 38, .mv (.tmp 7), none, none⟩,
    ⟨some 39, .mv (.tmp 1), none, none⟩,
    ⟨some 40, .len 0 (.tmp 39), none, none⟩,
    ⟨some 41, .bin .lss (.tmp 38) (.tmp 40), none, none⟩]
def law34_ScansErrors_r6 : List RO := [
    ⟨some 44, .mv (.tmp 1), none, none⟩,
    ⟨some 45, .mv (.tmp 7), none, none⟩,
    ⟨some 46, .iadr 1 (.tmp 44) (.tmp 45), none, none⟩,
    ⟨some 47, .load 1 false (.tmp 46), none, none⟩,
    ⟨some 48, .len 0 (.tmp 47), none, none⟩,
    ⟨some 49, .bin .gtr (.tmp 48) (.const (.int .i64 20)), none, none⟩]
def law34_ScansErrors_r7 : List RO := [
    ⟨some 50, .call 16 [], none, none⟩,
    ⟨some 6, .mv (.tmp 50), none, none⟩]
def law34_ScansErrors_r5 : List RO := [
    ⟨some 42, .mv (.tmp 7), none, none⟩,
    ⟨some 43, .bin .add (.tmp 42) (.const (.int .i64 1)), none, none⟩,
    ⟨some 7, .mv (.tmp 43), none, none⟩]
def law34_ScansErrors_g0 : IC := .gh (.seq (.seq (.reg law34_ScansErrors_r4 [.keep [1, 3, 5, 7, 41] []]) (.cond (.tmp 41) .skip (.exit 0))) (.seq (.block 1 (.seq (.reg law34_ScansErrors_r6 [.keep [1, 3, 5, 7, 49] []]) (.cond (.tmp 49) (.seq (.reg law34_ScansErrors_r7 [.keep [6] []]) .ret) .skip))) (.reg law34_ScansErrors_r5 [.keep [1, 3, 5, 7] []]))) [.keep [1, 3, 5, 7] []]
def law34_ScansErrors_l1 : IC := .loop law34_ScansErrors_g0
def law34_ScansErrors_r8 : List RO := [
    ⟨some 51, .load 12 true (.tmp 3), none, none⟩,
    ⟨some 52, .call 12 [(.tmp 51)], none, none⟩,
    ⟨some 8, .alloc false [(.slice none 0 0), (.slice none 0 0), (.slice none 0 0), (.slice none 0 0)], none, none⟩,
    ⟨none, .store 4 (.tmp 8) (.tmp 52), none, none⟩]
def law34_ScansErrors_r9 : List RO := [
    ⟨some 53, .load 4 true (.tmp 8), none, none⟩,
    ⟨some 54, .mv (.tmp 1), none, none⟩,
    ⟨some 55, .call 18 [(.tmp 53), (.tmp 54)], none, none⟩,
    ⟨some 9, .mv (.tmp 55), none, none⟩]
def law34_ScansErrors_r10 : List RO := [
    ⟨some 57, .load 4 true (.tmp 8), none, none⟩,
    ⟨some 58, .mv (.tmp 1), none, none⟩,
    ⟨some 59, .call 37 [(.tmp 57), (.tmp 58)], none, none⟩,
    ⟨some 56, .mv (.tmp 59), none, none⟩,
    ⟨some 60, .ext (.tmp 56) 0, none, none⟩,
    ⟨some 61, .ext (.tmp 56) 1, none, none⟩,
    ⟨some 10, .alloc false [(.slice none 0 0), (.slice none 0 0), (.slice none 0 0), (.slice none 0 0), (.slice none 0 0), (.int .i64 0), (.slice none 0 0), (.slice none 0 0)], none, none⟩,
    ⟨none, .store 8 (.tmp 10) (.tmp 60), none, none⟩,
    ⟨some 11, .mv (.tmp 61), none, none⟩]
def law34_ScansErrors_r11 : List RO := [
    ⟨some 62, .mv (.tmp 11), none, none⟩,
    ⟨some 63, .mv (.tmp 9), none, none⟩,
    ⟨some 64, .bin .neq (.tmp 62) (.tmp 63), none, none⟩]
def law34_ScansErrors_r12 : List RO := [
    ⟨some 6, .mv (.const (.bool false)), none, none⟩]
def law34_ScansErrors_r13 : List RO := [
    ⟨some 65, .mv (.tmp 9), none, none⟩,
    ⟨some 66, .bin .eql (.tmp 65) (.const (.int .i64 0)), none, none⟩,
    ⟨some 67, .mv (.tmp 66), none, none⟩,
    ⟨some 68, .fadr 0 (.tmp 5), some (67, true), none⟩,
    ⟨some 69, .load 1 false (.tmp 68), some (67, true), none⟩,
    ⟨some 70, .len 0 (.tmp 69), some (67, true), none⟩,
    ⟨some 71, .load 4 true (.tmp 8), some (67, true), none⟩,
    ⟨some 72, .call 17 [(.tmp 71)], some (67, true), none⟩,
    ⟨some 73, .len 0 (.tmp 72), some (67, true), none⟩,
    ⟨some 74, .bin .neq (.tmp 70) (.tmp 73), some (67, true), none⟩,
    ⟨some 75, .pick (.tmp 67) (.tmp 74) (.const (.bool false)), none, none⟩]
def law34_ScansErrors_r14 : List RO := [
    ⟨some 9, .mv (.const (.int .i64 8)), none, none⟩]
def law34_ScansErrors_r15 : List RO := [
    ⟨some 12, .mv (.const (.int .i64 0)), none, none⟩]
def law34_ScansErrors_r16 : List RO := [
    ⟨some 76, .mv (.tmp 12), none, none⟩,
    ⟨some 77, .fadr 0 (.tmp 5), none, none⟩,
    ⟨some 78, .load 1 false (.tmp 77), none, none⟩,
    ⟨some 79, .len 0 (.tmp 78), none, none⟩,
    ⟨some 80, .bin .lss (.tmp 76) (.tmp 79), none, none⟩]
def law34_ScansErrors_r18 : List RO := [
    ⟨some 83, .mv (.tmp 9), none, none⟩,
    ⟨some 84, .bin .eql (.tmp 83) (.const (.int .i64 0)), none, none⟩,
    ⟨some 85, .mv (.tmp 84), none, none⟩,
    ⟨some 86, .fadr 0 (.tmp 5), some (85, true), none⟩,
    ⟨some 87, .load 1 false (.tmp 86), some (85, true), none⟩,
    ⟨some 88, .mv (.tmp 12), some (85, true), none⟩,
    ⟨some 89, .iadr 2 (.tmp 87) (.tmp 88), some (85, true), none⟩,
    ⟨some 90, .fadr 0 (.tmp 89), some (85, true), none⟩,
    ⟨some 91, .load 1 false (.tmp 90), some (85, true), none⟩,
    ⟨some 92, .bin .lss (.tmp 91) (.const (.int .i64 (-1000000))), some (85, true), none⟩,
    ⟨some 93, .mv (.tmp 92), some (85, true), none⟩,
    ⟨some 94, .fadr 0 (.tmp 5), some (93, false), none⟩,
    ⟨some 95, .load 1 false (.tmp 94), some (93, false), none⟩,
    ⟨some 96, .mv (.tmp 12), some (93, false), none⟩,
    ⟨some 97, .iadr 2 (.tmp 95) (.tmp 96), some (93, false), none⟩,
    ⟨some 98, .fadr 0 (.tmp 97), some (93, false), none⟩,
    ⟨some 99, .load 1 false (.tmp 98), some (93, false), none⟩,
    ⟨some 100, .bin .gtr (.tmp 99) (.const (.int .i64 1000000)), some (93, false), none⟩,
    ⟨some 101, .pick (.tmp 93) (.const (.bool true)) (.tmp 100), some (85, true), none⟩,
    ⟨some 102, .mv (.tmp 101), some (85, true), none⟩,
    ⟨some 103, .fadr 0 (.tmp 5), some (102, false), none⟩,
    ⟨some 104, .load 1 false (.tmp 103), some (102, false), none⟩,
    ⟨some 105, .mv (.tmp 12), some (102, false), none⟩,
    ⟨some 106, .iadr 2 (.tmp 104) (.tmp 105), some (102, false), none⟩,
    ⟨some 107, .fadr 1 (.tmp 106), some (102, false), none⟩,
    ⟨some 108, .load 1 false (.tmp 107), some (102, false), none⟩,
    ⟨some 109, .bin .lss (.tmp 108) (.const (.int .i64 (-1000000))), some (102, false), none⟩,
    ⟨some 110, .pick (.tmp 102) (.const (.bool true)) (.tmp 109), some (85, true), none⟩,
    ⟨some 111, .mv (.tmp 110), some (85, true), none⟩,
    ⟨some 112, .fadr 0 (.tmp 5), some (111, false), none⟩,
    ⟨some 113, .load 1 false (.tmp 112), some (111, false), none⟩,
    ⟨some 114, .mv (.tmp 12), some (111, false), none⟩,
    ⟨some 115, .iadr 2 (.tmp 113) (.tmp 114), some (111, false), none⟩,
    ⟨some 116, .fadr 1 (.tmp 115), some (111, false), none⟩,
    ⟨some 117, .load 1 false (.tmp 116), some (111, false), none⟩,
    ⟨some 118, .bin .gtr (.tmp 117) (.const (.int .i64 1000000)), some (111, false), none⟩,
    ⟨some 119, .pick (.tmp 111) (.const (.bool true)) (.tmp 118), some (85, true), none⟩,
    ⟨some 120, .pick (.tmp 85) (.tmp 119) (.const (.bool false)), none, none⟩]
def law34_ScansErrors_r19 : List RO := [
    ⟨some 9, .mv (.const (.int .i64 1)), none, none⟩]
def law34_ScansErrors_r17 : List RO := [
    ⟨some 81, .mv (.tmp 12), none, none⟩,
    ⟨some 82, .bin .add (.tmp 81) (.const (.int .i64 1)), none, none⟩,
    ⟨some 12, .mv (.tmp 82), none, none⟩]
def law34_ScansErrors_g2 : IC := .gh (.seq (.seq (.reg law34_ScansErrors_r16 [.keep [1, 5, 8, 9, 12, 80] [8]]) (.cond (.tmp 80) .skip (.exit 2))) (.seq (.block 3 (.seq (.reg law34_ScansErrors_r18 [.keep [1, 5, 8, 9, 12, 120] [8]]) (.cond (.tmp 120) (.reg law34_ScansErrors_r19 [.keep [1, 5, 8, 9, 12] [8]]) .skip))) (.reg law34_ScansErrors_r17 [.keep [1, 5, 8, 9, 12] [8]]))) [.keep [1, 5, 8, 9, 12] [8]]
def law34_ScansErrors_l3 : IC := .loop law34_ScansErrors_g2
def law34_ScansErrors_r20 : List RO := [
    ⟨some 122, .load 4 true (.tmp 8), none, none⟩,
    ⟨some 123, .mv (.tmp 1), none, none⟩,
    ⟨some 124, .fadr 0 (.tmp 5), none, none⟩,
    ⟨some 125, .load 1 false (.tmp 124), none, none⟩,
    ⟨some 126, .call 21 [(.tmp 122), (.tmp 123), (.tmp 125)], none, none⟩,
    ⟨some 121, .mv (.tmp 126), none, none⟩,
    ⟨some 127, .ext (.tmp 121) 0, none, none⟩,
    ⟨some 128, .ext (.tmp 121) 1, none, none⟩,
    ⟨some 13, .mv (.tmp 127), none, none⟩,
    ⟨some 14, .mv (.tmp 128), none, none⟩]
def law34_ScansErrors_r21 : List RO := [
    ⟨some 130, .load 4 true (.tmp 8), none, none⟩,
    ⟨some 131, .mv (.tmp 1), none, none⟩,
    ⟨some 132, .fadr 0 (.tmp 5), none, none⟩,
    ⟨some 133, .load 1 false (.tmp 132), none, none⟩,
    ⟨some 134, .call 22 [(.tmp 130), (.tmp 131), (.tmp 133)], none, none⟩,
    ⟨some 129, .mv (.tmp 134), none, none⟩,
    ⟨some 135, .ext (.tmp 129) 0, none, none⟩,
    ⟨some 136, .ext (.tmp 129) 1, none, none⟩,
    ⟨some 15, .mv (.tmp 135), none, none⟩,
    ⟨some 16, .mv (.tmp 136), none, none⟩]
def law34_ScansErrors_r22 : List RO := [
    ⟨some 137, .mv (.tmp 14), none, none⟩,
    ⟨some 138, .mv (.tmp 9), none, none⟩,
    ⟨some 139, .bin .neq (.tmp 137) (.tmp 138), none, none⟩,
    ⟨some 140, .mv (.tmp 139), none, none⟩,
    ⟨some 141, .mv (.tmp 16), some (140, false), none⟩,
    ⟨some 142, .mv (.tmp 9), some (140, false), none⟩,
    ⟨some 143, .bin .neq (.tmp 141) (.tmp 142), some (140, false), none⟩,
    ⟨some 144, .pick (.tmp 140) (.const (.bool true)) (.tmp 143), none, none⟩,
    ⟨some 145, .mv (.tmp 144), none, none⟩,
    ⟨some 146, .mv (.tmp 9), some (145, false), none⟩,
    ⟨some 147, .bin .neq (.tmp 146) (.const (.int .i64 0)), some (145, false), none⟩,
    ⟨some 148, .mv (.tmp 147), some (145, false), none⟩,
    ⟨some 149, .mv (.tmp 13), some (148, true), none⟩,
    ⟨some 150, .bin .neq (.tmp 149) (.const (.int .i64 0)), some (148, true), none⟩,
    ⟨some 151, .mv (.tmp 150), some (148, true), none⟩,
    ⟨some 152, .mv (.tmp 15), some (151, false), none⟩,
    ⟨some 153, .len 0 (.tmp 152), some (151, false), none⟩,
    ⟨some 154, .bin .neq (.tmp 153) (.const (.int .i64 0)), some (151, false), none⟩,
    ⟨some 155, .pick (.tmp 151) (.const (.bool true)) (.tmp 154), some (148, true), none⟩,
    ⟨some 156, .pick (.tmp 148) (.tmp 155) (.const (.bool false)), some (145, false), none⟩,
    ⟨some 157, .pick (.tmp 145) (.const (.bool true)) (.tmp 156), none, none⟩]
def law34_ScansErrors_r23 : List RO := [
    ⟨some 6, .mv (.const (.bool false)), none, none⟩]
def law34_ScansErrors_r24 : List RO := [
    ⟨some 17, .mv (.const (.slice none 0 0)), none, none⟩]
def law34_ScansErrors_r25 : List RO := [
    ⟨some 18, .mv (.const (.bool false)), none, none⟩]
def law34_ScansErrors_r26 : List RO := [
    ⟨some 19, .mv (.const (.int .i64 0)), none, none⟩]
def law34_ScansErrors_r27 : List RO := [
    ⟨some 158, .mv (.tmp 19), none, none⟩,
    ⟨some 159, .fadr 1 (.tmp 5), none, none⟩,
    ⟨some 160, .load 1 false (.tmp 159), none, none⟩,
    ⟨some 161, .len 0 (.tmp 160), none, none⟩,
    ⟨some 162, .bin .lss (.tmp 158) (.tmp 161), none, none⟩]
def law34_ScansErrors_r29 : List RO := [
    ⟨some 165, .mv (.tmp 17), none, none⟩,
    ⟨some 166, .fadr 1 (.tmp 5), none, none⟩,
    ⟨some 167, .load 1 false (.tmp 166), none, none⟩,
    ⟨some 168, .mv (.tmp 19), none, none⟩,
    ⟨some 169, .iadr 1 (.tmp 167) (.tmp 168), none, none⟩,
    ⟨some 170, .load 1 false (.tmp 169), none, none⟩,
    ⟨some 171, .bsl true 73 1 [(.tmp 170)], none, none⟩,
    ⟨some 172, .app false 73 1 (.tmp 165) (.tmp 171), none, none⟩,
    ⟨some 17, .mv (.tmp 172), none, none⟩]
def law34_ScansErrors_r30 : List RO := [
    ⟨some 173, .mv (.tmp 18), none, none⟩,
    ⟨some 174, .mv (.tmp 173), none, none⟩,
    ⟨some 175, .fadr 1 (.tmp 5), some (174, false), none⟩,
    ⟨some 176, .load 1 false (.tmp 175), some (174, false), none⟩,
    ⟨some 177, .mv (.tmp 19), some (174, false), none⟩,
    ⟨some 178, .iadr 1 (.tmp 176) (.tmp 177), some (174, false), none⟩,
    ⟨some 179, .load 1 false (.tmp 178), some (174, false), none⟩,
    ⟨some 180, .bin .gtr (.tmp 179) (.const (.int .u8 3)), some (174, false), none⟩,
    ⟨some 181, .pick (.tmp 174) (.const (.bool true)) (.tmp 180), none, none⟩,
    ⟨some 18, .mv (.tmp 181), none, none⟩]
def law34_ScansErrors_r28 : List RO := [
    ⟨some 163, .mv (.tmp 19), none, none⟩,
    ⟨some 164, .bin .add (.tmp 163) (.const (.int .i64 1)), none, none⟩,
    ⟨some 19, .mv (.tmp 164), none, none⟩]
def law34_ScansErrors_g4 : IC := .gh (.seq (.seq (.reg law34_ScansErrors_r27 [.keep [5, 8, 17, 18, 19, 162] [8, 172]]) (.cond (.tmp 162) .skip (.exit 4))) (.seq (.block 5 (.seq (.reg law34_ScansErrors_r29 [.keep [5, 8, 17, 18, 19] [8, 172]]) (.reg law34_ScansErrors_r30 [.keep [5, 8, 17, 18, 19] [8, 172]]))) (.reg law34_ScansErrors_r28 [.keep [5, 8, 17, 18, 19] [8, 172]]))) [.keep [5, 8, 17, 18, 19] [8, 172]]
def law34_ScansErrors_l5 : IC := .loop law34_ScansErrors_g4
def law34_ScansErrors_r31 : List RO := [
    ⟨some 9, .mv (.const (.int .i64 0)), none, none⟩]
def law34_ScansErrors_r32 : List RO := [
    ⟨some 182, .mv (.tmp 17), none, none⟩,
    ⟨some 183, .len 0 (.tmp 182), none, none⟩,
    ⟨some 184, .bin .add (.tmp 183) (.const (.int .i64 1)), none, none⟩,
    ⟨some 185, .load 4 true (.tmp 8), none, none⟩,
    ⟨some 186, .call 33 [(.tmp 185)], none, none⟩,
    ⟨some 187, .len 0 (.tmp 186), none, none⟩,
    ⟨some 188, .bin .neq (.tmp 184) (.tmp 187), none, none⟩]
def law34_ScansErrors_r33 : List RO := [
    ⟨some 9, .mv (.const (.int .i64 8)), none, none⟩]
def law34_ScansErrors_r34 : List RO := [
    ⟨some 189, .mv (.tmp 18), none, none⟩]
def law34_ScansErrors_r35 : List RO := [
    ⟨some 9, .mv (.const (.int .i64 1)), none, none⟩]
def law34_ScansErrors_r36 : List RO := [
    ⟨some 191, .load 4 true (.tmp 8), none, none⟩,
    ⟨some 192, .build [(4, (.tmp 191)), (1, (.const (.slice none 0 0))), (1, (.const (.int .i64 0))), (1, (.const (.slice none 0 0))), (1, (.const (.slice none 0 0)))], none, none⟩,
    ⟨some 193, .mv (.tmp 17), none, none⟩,
    ⟨some 194, .build [(1, (.tmp 193)), (1, (.const (.slice none 0 0)))], none, none⟩,
    ⟨some 195, .call 38 [(.tmp 192), (.tmp 194), (.const (.int .u8 1)), (.const (.slice none 0 0))], none, none⟩,
    ⟨some 190, .mv (.tmp 195), none, none⟩,
    ⟨some 196, .ext (.tmp 190) 0, none, none⟩,
    ⟨some 197, .ext (.tmp 190) 1, none, none⟩,
    ⟨some 20, .alloc false [(.slice none 0 0), (.slice none 0 0)], none, none⟩,
    ⟨none, .store 2 (.tmp 20) (.tmp 196), none, none⟩,
    ⟨some 21, .mv (.tmp 197), none, none⟩]
def law34_ScansErrors_r37 : List RO := [
    ⟨some 198, .mv (.tmp 21), none, none⟩,
    ⟨some 199, .mv (.tmp 9), none, none⟩,
    ⟨some 200, .bin .eql (.tmp 198) (.tmp 199), none, none⟩,
    ⟨some 201, .mv (.tmp 200), none, none⟩,
    ⟨some 202, .mv (.tmp 21), some (201, true), none⟩,
    ⟨some 203, .bin .eql (.tmp 202) (.const (.int .i64 0)), some (201, true), none⟩,
    ⟨some 204, .fadr 0 (.tmp 20), some (201, true), none⟩,
    ⟨some 205, .load 1 false (.tmp 204), some (201, true), none⟩,
    ⟨some 206, .len 0 (.tmp 205), some (201, true), none⟩,
    ⟨some 207, .bin .gtr (.tmp 206) (.const (.int .i64 0)), some (201, true), none⟩,
    ⟨some 208, .eqb true (.tmp 203) (.tmp 207), some (201, true), none⟩,
    ⟨some 209, .pick (.tmp 201) (.tmp 208) (.const (.bool false)), none, none⟩,
    ⟨some 210, .mv (.tmp 209), none, none⟩,
    ⟨some 211, .call 16 [], some (210, true), none⟩,
    ⟨some 212, .pick (.tmp 210) (.tmp 211) (.const (.bool false)), none, none⟩,
    ⟨some 6, .mv (.tmp 212), none, none⟩]
def law34_ScansErrors_ic : IC := (.seq (.reg law34_ScansErrors_r0 [.keep [1, 3, 5] []]) (.seq (.seq (.reg law34_ScansErrors_r1 [.keep [1, 3, 5, 36] []]) (.cond (.tmp 36) (.seq (.reg law34_ScansErrors_r2 [.keep [6] []]) .ret) .skip)) (.seq (.seq (.reg law34_ScansErrors_r3 [.keep [1, 3, 5, 7] []]) (.block 0 law34_ScansErrors_l1)) (.seq (.reg law34_ScansErrors_r8 [.keep [1, 5, 8] [8]]) (.seq (.reg law34_ScansErrors_r9 [.keep [1, 5, 8, 9] [8]]) (.seq (.reg law34_ScansErrors_r10 [.keep [1, 5, 8, 9, 11] [8]]) (.seq (.seq (.reg law34_ScansErrors_r11 [.keep [1, 5, 8, 9, 64] [8]]) (.cond (.tmp 64) (.seq (.reg law34_ScansErrors_r12 [.keep [6] []]) .ret) .skip)) (.seq (.seq (.reg law34_ScansErrors_r13 [.keep [1, 5, 8, 9, 75] [8]]) (.cond (.tmp 75) (.reg law34_ScansErrors_r14 [.keep [1, 5, 8, 9] [8]]) .skip)) (.seq (.seq (.reg law34_ScansErrors_r15 [.keep [1, 5, 8, 9, 12] [8]]) (.block 2 law34_ScansErrors_l3)) (.seq (.reg law34_ScansErrors_r20 [.keep [1, 5, 8, 9, 13, 14] [8]]) (.seq (.reg law34_ScansErrors_r21 [.keep [5, 8, 9, 13, 14, 15, 16] [8]]) (.seq (.seq (.reg law34_ScansErrors_r22 [.keep [5, 8, 157] [8]]) (.cond (.tmp 157) (.seq (.reg law34_ScansErrors_r23 [.keep [6] []]) .ret) .skip)) (.seq (.reg law34_ScansErrors_r24 [.nl 17 172 73 1, .keep [5, 8, 17] [8, 172]]) (.seq (.reg law34_ScansErrors_r25 [.keep [5, 8, 17, 18] [8, 172]]) (.seq (.seq (.reg law34_ScansErrors_r26 [.keep [5, 8, 17, 18, 19] [8, 172]]) (.gh (.block 4 law34_ScansErrors_l5) [.frz 172])) (.seq (.reg law34_ScansErrors_r31 [.keep [8, 9, 17, 18] [8, 172]]) (.seq (.seq (.reg law34_ScansErrors_r32 [.keep [8, 9, 17, 18, 188] [8, 172]]) (.cond (.tmp 188) (.reg law34_ScansErrors_r33 [.keep [8, 9, 17] [8, 172]]) (.seq (.reg law34_ScansErrors_r34 [.keep [8, 9, 17, 189] [8, 172]]) (.cond (.tmp 189) (.reg law34_ScansErrors_r35 [.keep [8, 9, 17] [8, 172]]) .skip)))) (.seq (.reg law34_ScansErrors_r36 [.keep [9, 20, 21] [20]]) (.seq (.reg law34_ScansErrors_r37 [.keep [6] []]) .ret)))))))))))))))))))
@[simp ↓] theorem law34_ScansErrors_g0_run : run P Γ law34_ScansErrors_g0 Q s = run P Γ (.gh (.seq (.seq (.reg law34_ScansErrors_r4 [.keep [1, 3, 5, 7, 41] []]) (.cond (.tmp 41) .skip (.exit 0))) (.seq (.block 1 (.seq (.reg law34_ScansErrors_r6 [.keep [1, 3, 5, 7, 49] []]) (.cond (.tmp 49) (.seq (.reg law34_ScansErrors_r7 [.keep [6] []]) .ret) .skip))) (.reg law34_ScansErrors_r5 [.keep [1, 3, 5, 7] []]))) [.keep [1, 3, 5, 7] []]) Q s := Eq.trans rfl rfl
@[simp ↓] theorem law34_ScansErrors_g2_run : run P Γ law34_ScansErrors_g2 Q s = run P Γ (.gh (.seq (.seq (.reg law34_ScansErrors_r16 [.keep [1, 5, 8, 9, 12, 80] [8]]) (.cond (.tmp 80) .skip (.exit 2))) (.seq (.block 3 (.seq (.reg law34_ScansErrors_r18 [.keep [1, 5, 8, 9, 12, 120] [8]]) (.cond (.tmp 120) (.reg law34_ScansErrors_r19 [.keep [1, 5, 8, 9, 12] [8]]) .skip))) (.reg law34_ScansErrors_r17 [.keep [1, 5, 8, 9, 12] [8]]))) [.keep [1, 5, 8, 9, 12] [8]]) Q s := Eq.trans rfl rfl
@[simp ↓] theorem law34_ScansErrors_g4_run : run P Γ law34_ScansErrors_g4 Q s = run P Γ (.gh (.seq (.seq (.reg law34_ScansErrors_r27 [.keep [5, 8, 17, 18, 19, 162] [8, 172]]) (.cond (.tmp 162) .skip (.exit 4))) (.seq (.block 5 (.seq (.reg law34_ScansErrors_r29 [.keep [5, 8, 17, 18, 19] [8, 172]]) (.reg law34_ScansErrors_r30 [.keep [5, 8, 17, 18, 19] [8, 172]]))) (.reg law34_ScansErrors_r28 [.keep [5, 8, 17, 18, 19] [8, 172]]))) [.keep [5, 8, 17, 18, 19] [8, 172]]) Q s := Eq.trans rfl rfl
@[simp ↓] theorem law34_ScansErrors_ic_run : run P Γ law34_ScansErrors_ic Q s = run P Γ (.seq (.reg law34_ScansErrors_r0 [.keep [1, 3, 5] []]) (.seq (.seq (.reg law34_ScansErrors_r1 [.keep [1, 3, 5, 36] []]) (.cond (.tmp 36) (.seq (.reg law34_ScansErrors_r2 [.keep [6] []]) .ret) .skip)) (.seq (.seq (.reg law34_ScansErrors_r3 [.keep [1, 3, 5, 7] []]) (.block 0 law34_ScansErrors_l1)) (.seq (.reg law34_ScansErrors_r8 [.keep [1, 5, 8] [8]]) (.seq (.reg law34_ScansErrors_r9 [.keep [1, 5, 8, 9] [8]]) (.seq (.reg law34_ScansErrors_r10 [.keep [1, 5, 8, 9, 11] [8]]) (.seq (.seq (.reg law34_ScansErrors_r11 [.keep [1, 5, 8, 9, 64] [8]]) (.cond (.tmp 64) (.seq (.reg law34_ScansErrors_r12 [.keep [6] []]) .ret) .skip)) (.seq (.seq (.reg law34_ScansErrors_r13 [.keep [1, 5, 8, 9, 75] [8]]) (.cond (.tmp 75) (.reg law34_ScansErrors_r14 [.keep [1, 5, 8, 9] [8]]) .skip)) (.seq (.seq (.reg law34_ScansErrors_r15 [.keep [1, 5, 8, 9, 12] [8]]) (.block 2 law34_ScansErrors_l3)) (.seq (.reg law34_ScansErrors_r20 [.keep [1, 5, 8, 9, 13, 14] [8]]) (.seq (.reg law34_ScansErrors_r21 [.keep [5, 8, 9, 13, 14, 15, 16] [8]]) (.seq (.seq (.reg law34_ScansErrors_r22 [.keep [5, 8, 157] [8]]) (.cond (.tmp 157) (.seq (.reg law34_ScansErrors_r23 [.keep [6] []]) .ret) .skip)) (.seq (.reg law34_ScansErrors_r24 [.nl 17 172 73 1, .keep [5, 8, 17] [8, 172]]) (.seq (.reg law34_ScansErrors_r25 [.keep [5, 8, 17, 18] [8, 172]]) (.seq (.seq (.reg law34_ScansErrors_r26 [.keep [5, 8, 17, 18, 19] [8, 172]]) (.gh (.block 4 law34_ScansErrors_l5) [.frz 172])) (.seq (.reg law34_ScansErrors_r31 [.keep [8, 9, 17, 18] [8, 172]]) (.seq (.seq (.reg law34_ScansErrors_r32 [.keep [8, 9, 17, 18, 188] [8, 172]]) (.cond (.tmp 188) (.reg law34_ScansErrors_r33 [.keep [8, 9, 17] [8, 172]]) (.seq (.reg law34_ScansErrors_r34 [.keep [8, 9, 17, 189] [8, 172]]) (.cond (.tmp 189) (.reg law34_ScansErrors_r35 [.keep [8, 9, 17] [8, 172]]) .skip)))) (.seq (.reg law34_ScansErrors_r36 [.keep [9, 20, 21] [20]]) (.seq (.reg law34_ScansErrors_r37 [.keep [6] []]) .ret))))))))))))))))))) Q s := Eq.trans rfl rfl
theorem law34_ScansErrors_l1_run (h : ∀ K : St → Prop, K = run P Γ law34_ScansErrors_l1 Q → run P Γ law34_ScansErrors_g0 (thenX K Q) s) : run P Γ law34_ScansErrors_l1 Q s := run_loop h
theorem law34_ScansErrors_l3_run (h : ∀ K : St → Prop, K = run P Γ law34_ScansErrors_l3 Q → run P Γ law34_ScansErrors_g2 (thenX K Q) s) : run P Γ law34_ScansErrors_l3 Q s := run_loop h
theorem law34_ScansErrors_l5_run (h : ∀ K : St → Prop, K = run P Γ law34_ScansErrors_l5 Q → run P Γ law34_ScansErrors_g4 (thenX K Q) s) : run P Γ law34_ScansErrors_l5 Q s := run_loop h
attribute [simp] law34_ScansErrors_r0 law34_ScansErrors_r1 law34_ScansErrors_r2 law34_ScansErrors_r3 law34_ScansErrors_r4 law34_ScansErrors_r6 law34_ScansErrors_r7 law34_ScansErrors_r5 law34_ScansErrors_r8 law34_ScansErrors_r9 law34_ScansErrors_r10 law34_ScansErrors_r11 law34_ScansErrors_r12 law34_ScansErrors_r13 law34_ScansErrors_r14 law34_ScansErrors_r15 law34_ScansErrors_r16 law34_ScansErrors_r18 law34_ScansErrors_r19 law34_ScansErrors_r17 law34_ScansErrors_r20 law34_ScansErrors_r21 law34_ScansErrors_r22 law34_ScansErrors_r23 law34_ScansErrors_r24 law34_ScansErrors_r25 law34_ScansErrors_r26 law34_ScansErrors_r27 law34_ScansErrors_r29 law34_ScansErrors_r30 law34_ScansErrors_r28 law34_ScansErrors_r31 law34_ScansErrors_r32 law34_ScansErrors_r33 law34_ScansErrors_r34 law34_ScansErrors_r35 law34_ScansErrors_r36 law34_ScansErrors_r37
def law34_ScansErrors_rv : List RV := [.tmp 6]
end
end Go.Lg

/- The abstract code is that of the program (by the kernel). Conditions: none. -/
namespace Go.Lg
open Go Go.Proofs
theorem law34_ScansErrors_chk : chkF Tryd.prog 11 law34_ScansErrors_ic 213 3 law34_ScansErrors_rv = true := by kernel_rfl
end Go.Lg

/- ScansErrors: its loops. Conditions: none. -/
set_option linter.unusedSimpArgs false
set_option linter.unusedVariables false
set_option maxRecDepth 100000
namespace Go.Lg
open Go Go.Proofs
variable {Γ : Tables}

structure ED where
  at' : Sl Pnt
  inn : Sl Int
def tED (z : ED) : List T := [.sl (encN cPnt z.at'.l) z.at'.cap z.at'.nl, .sl (vals z.inn.l) z.inn.cap z.inn.nl]

theorem er_l1 {Q : AX → St → Prop} (hΓ : GOk Γ) (chs : Sl (Sl Int)) (hl : chs.l.length ≤ 10) (t3 t5 : T)
    (h0 : (∀ s ∈ chs.l, s.l.length ≤ 20) → Q (.exit 0) ⟨[(1, .t (.sl (enc1 tSl chs.l) chs.cap chs.nl)), (3, .t t3), (5, .t t5), (7, .t (tI chs.l.length)), (41, .t (tB false))], []⟩)
    (hr : Q .ret ⟨[(6, .t (tB true))], []⟩) :
    ∀ (k i : Nat), k + i = chs.l.length → (∀ j, j < i → ∀ h : j < chs.l.length, chs.l[j].l.length ≤ 20) →
    run Tryd.prog Γ law34_ScansErrors_l1 Q ⟨[(1, .t (.sl (enc1 tSl chs.l) chs.cap chs.nl)), (3, .t t3), (5, .t t5), (7, .t (tI i))], []⟩
  | 0, i, h, hd => by
    refine law34_ScansErrors_l1_run fun K hK => ?_
    have h3 : i = chs.l.length := by omega
    subst h3
    simp [enc1_len]
    exact h0 fun s hs => by
      obtain ⟨j, hj, rfl⟩ := List.getElem_of_mem hs
      exact hd j hj hj
  | k + 1, i, h, hd => by
    refine law34_ScansErrors_l1_run fun K hK => ?_
    have h2 : i < chs.l.length := by omega
    have e := enc1_get (f := tSl) ⟨[], none, none⟩ h2
    have e2 : chs.l[i]?.getD ⟨[], none, none⟩ = chs.l[i] := by simp [h2]
    rw [e2] at e
    have ih := er_l1 hΓ chs hl t3 t5 h0 hr k (i + 1) (by omega)
    have hdi : chs.l[i].l.length ≤ 20 → ∀ j, j < i + 1 → ∀ h : j < chs.l.length, chs.l[j].l.length ≤ 20 := fun hh j hj hjl => by
      by_cases e : j = i
      · subst e; exact hh
      · exact hd j (by omega) hjl
    generalize chs.l[i] = s at *
    have e' : ∀ h : i < (enc1 tSl chs.l).length, (enc1 tSl chs.l)[i] = [tSl s] := fun h => by rw [← e]; simp [h]
    simp only [tSl] at e e'
    by_cases h20 : s.l.length ≤ 20
    · have h20' : ¬ (20 : Int) < s.l.length := by omega
      have h20'' : ¬ 20 < s.l.length := by omega
      simp [h2, enc1_len, enc1_wid, e, e', h20', h20'']
      rw [wrap_i64 (by omega) (by omega), hK]
      simpa [tSl] using ih (hdi h20)
    · have h20' : (20 : Int) < s.l.length := by omega
      have h20'' : 20 < s.l.length := by omega
      simp [h2, enc1_len, enc1_wid, e, e', h20', h20'']
      refine callK_fresh (lives_spec hΓ) rfl ?_
      simpa using hr

def wantS (w : Int) : List Pnt → Int
  | [] => w
  | p :: l => wantS (if w = 0 ∧ ptBad p = true then 1 else w) l
theorem wantS_eq : ∀ (l : List Pnt) (w : Int), wantS w l = if w ≠ 0 then w else if l.any ptBad = true then 1 else 0
  | [], w => by simp [wantS]
  | p :: l, w => by
    simp only [wantS]
    rw [wantS_eq l]
    by_cases hw : w = 0
    · subst hw
      by_cases hp : ptBad p = true
      · simp [hp]
      · have hp' : ptBad p = false := by simpa using hp
        have e : (p :: l).any ptBad = l.any ptBad := by rw [List.any_cons, hp', Bool.false_or]
        rw [e]
        simp [hp]
    · simp [hw]

theorem er_l3 {Q : AX → St → Prop} (t1 : T) (r8 : Reg) (z : ED) (hz : z.at'.l.length ≤ 20) (R : Int)
    (h0 : Q (.exit 2) ⟨[(1, .t t1), (5, .t (.ip (tED z) 0)), (8, .lp 8 0 0), (9, .t (tI R)), (12, .t (tI z.at'.l.length)), (80, .t (tB false))], [(8, r8)]⟩) :
    ∀ (k i : Nat) (w : Int), k + i = z.at'.l.length → wantS w (z.at'.l.drop i) = R →
    run Tryd.prog Γ law34_ScansErrors_l3 Q ⟨[(1, .t t1), (5, .t (.ip (tED z) 0)), (8, .lp 8 0 0), (9, .t (tI w)), (12, .t (tI i))], [(8, r8)]⟩
  | 0, i, w, h, hR => by
    refine law34_ScansErrors_l3_run fun K hK => ?_
    have h3 : i = z.at'.l.length := by omega
    subst h3
    rw [List.drop_of_length_le (Nat.le_refl _)] at hR
    simp only [wantS] at hR
    subst hR
    simp [tED, encN_len]
    simpa [tED] using h0
  | k + 1, i, w, h, hR => by
    refine law34_ScansErrors_l3_run fun K hK => ?_
    have h2 : i < z.at'.l.length := by omega
    rw [List.drop_eq_getElem_cons h2] at hR
    have e := encN_get (f := cPnt) (0, 0) h2
    have e2 : z.at'.l[i]?.getD (0, 0) = z.at'.l[i] := by simp [h2]
    rw [e2] at e
    generalize z.at'.l[i] = p at *
    simp only [wantS] at hR
    have ih := er_l3 t1 r8 z hz R h0 k (i + 1) _ (by omega) hR
    have e' : ∀ h : i < (encN cPnt z.at'.l).length, (encN cPnt z.at'.l)[i] = [tI p.1, tI p.2] := fun h => by rw [← show _ = [tI p.1, tI p.2] from e]; simp [h]
    have e : (encN cPnt z.at'.l)[i]?.getD [] = [tI p.1, tI p.2] := e
    by_cases hw : w = 0
    · subst hw
      by_cases c1 : p.1 < -1000000
      · have hb : ptBad p = true := by simp [ptBad, c1]
        rw [if_pos ⟨rfl, hb⟩] at ih
        simp [tED, h2, encN_len, cPnt_wid, e, e', c1]
        rw [wrap_i64 (by omega) (by omega), hK]
        simpa [tED] using ih
      by_cases c2 : 1000000 < p.1
      · have hb : ptBad p = true := by simp [ptBad, c2]
        rw [if_pos ⟨rfl, hb⟩] at ih
        simp [tED, h2, encN_len, cPnt_wid, e, e', c1, c2]
        rw [wrap_i64 (by omega) (by omega), hK]
        simpa [tED] using ih
      by_cases c3 : p.2 < -1000000
      · have hb : ptBad p = true := by simp [ptBad, c3]
        rw [if_pos ⟨rfl, hb⟩] at ih
        simp [tED, h2, encN_len, cPnt_wid, e, e', c1, c2, c3]
        rw [wrap_i64 (by omega) (by omega), hK]
        simpa [tED] using ih
      by_cases c4 : 1000000 < p.2
      · have hb : ptBad p = true := by simp [ptBad, c4]
        rw [if_pos ⟨rfl, hb⟩] at ih
        simp [tED, h2, encN_len, cPnt_wid, e, e', c1, c2, c3, c4]
        rw [wrap_i64 (by omega) (by omega), hK]
        simpa [tED] using ih
      · have hb : ptBad p = false := by simp [ptBad, c1, c2, c3, c4]
        rw [if_neg (by rw [hb]; simp)] at ih
        simp [tED, h2, encN_len, cPnt_wid, e, e', c1, c2, c3, c4]
        rw [wrap_i64 (by omega) (by omega), hK]
        simpa [tED] using ih
    · rw [if_neg (by simp [hw])] at ih
      simp [tED, h2, encN_len, cPnt_wid, e, e', hw]
      rw [wrap_i64 (by omega) (by omega), hK]
      simpa [tED] using ih

theorem er_l5 {Q : AX → St → Prop} (a b c d : T) (z : ED) (hz : z.inn.l.length ≤ 20)
    (h0 : Q (.exit 4) ⟨[(5, .t (.ip (tED z) 0)), (8, .lp 8 0 0), (17, .ls 172 0 z.inn.l.length none), (18, .t (tB (z.inn.l.any aboveV))), (19, .t (tI z.inn.l.length)), (162, .t (tB false))], [(8, .bx [.t a, .t b, .t c, .t d]), (172, .sl 73 1 (vals z.inn.l))]⟩) :
    ∀ (k i : Nat), k + i = z.inn.l.length →
    run Tryd.prog Γ law34_ScansErrors_l5 Q ⟨[(5, .t (.ip (tED z) 0)), (8, .lp 8 0 0), (17, .ls 172 0 i none), (18, .t (tB ((z.inn.l.take i).any aboveV))), (19, .t (tI i))], [(8, .bx [.t a, .t b, .t c, .t d]), (172, .sl 73 1 (vals (z.inn.l.take i)))]⟩
  | 0, i, h => by
    refine law34_ScansErrors_l5_run fun K hK => ?_
    have h3 : i = z.inn.l.length := by omega
    subst h3
    rw [List.take_of_length_le (Nat.le_refl _)]
    simp [tED, enc1_len]
    simpa [tED] using h0
  | k + 1, i, h => by
    refine law34_ScansErrors_l5_run fun K hK => ?_
    have h2 : i < z.inn.l.length := by omega
    have e := gi1 (f := tK) h2
    rw [getD_eq h2] at e
    have ht : z.inn.l.take (i + 1) = z.inn.l.take i ++ [z.inn.l[i]] := by rw [List.take_add_one]; simp [h2]
    have ih := er_l5 a b c d z hz h0 k (i + 1) (by omega)
    rw [ht] at ih
    generalize z.inn.l[i] = v at *
    have e' : ∀ h : i < (vals z.inn.l).length, (vals z.inn.l)[i] = [tK v] := fun h => by rw [← e]; simp [h]
    have tk : (vals (z.inn.l.take i)).take i = vals (z.inn.l.take i) := List.take_of_length_le (by simp [enc1]; omega)
    have q : vals (z.inn.l.take i) ++ [[tK v]] = vals (z.inn.l.take i ++ [v]) := enc1_snoc
    have hml : min i z.inn.l.length = i := by omega
    have hi31 : i ≤ 2147483647 := by omega
    rw [List.any_append] at ih
    cases hb : (z.inn.l.take i).any aboveV
    · rw [hb] at ih
      by_cases hv : 3 < v
      · simp [aboveV, hv] at ih
        simp [tED, h2, enc1_len, enc1_wid, e, e', tk, q, wid1s, hv, hml, hi31]
        rw [wrap_i64 (by omega) (by omega), hK]
        simpa [tED] using ih
      · simp [aboveV, hv] at ih
        simp [tED, h2, enc1_len, enc1_wid, e, e', tk, q, wid1s, hv, hml, hi31]
        rw [wrap_i64 (by omega) (by omega), hK]
        simpa [tED] using ih
    · rw [hb] at ih
      simp at ih
      simp [tED, h2, enc1_len, enc1_wid, e, e', tk, q, wid1s, hml, hi31]
      rw [wrap_i64 (by omega) (by omega), hK]
      simpa [tED] using ih
end Go.Lg

/- ScansErrors, walked. Conditions: none. -/
set_option linter.unusedSimpArgs false
set_option linter.unusedVariables false
set_option maxRecDepth 100000
namespace Go.Lg
open Go Go.Proofs
variable {Γ : Tables}

theorem noMem_of {x : CD} (hx : CDOk x) (h : plainErr (ofC x) = 0) : x.mem = false := by
  cases hm : x.mem
  · rfl
  · have hv := ofC_valid hx
    have h1 : 0 < (ofC x).mems.l.length := by simp [ofC, memM, hm]
    unfold plainErr at h
    rw [if_neg (by simp [hv]), if_pos (.inl h1)] at h
    cases h

theorem x_scok {x : CD} (hx : CDOk x) (hm : x.mem = false) {ch : List (Sl Int)} (hp : (elems ch).Perm (states (ofC x))) (hne : ∀ s ∈ ch, s.l ≠ [] ∧ s.nl ≠ some true) : ScOk (ofC x) ch := by
  have hy : CaseOk ⟨x, ⟨[], none, none⟩, ⟨[], none, none⟩⟩ := ⟨hx, by simp, by simp⟩
  have e : noMemX x = x := by
    cases x
    simp only at hm
    subst hm
    rfl
  have h := case_scok hy
  have e2 : caseC ⟨x, ⟨[], none, none⟩, ⟨[], none, none⟩⟩ = ofC x := by unfold caseC; rw [e]
  rw [e2] at h
  exact ⟨h.ok, h.cp, h.good, h.n1, h.n2, h.nms, h.outs, hp, hne⟩

theorem Shorten_spec2 (hΓ : GOk Γ) (c : Cir) (hc : COk c) (chs : Sl (Sl Int)) (hl : chs.l.length ≤ 1000000000) (hs : ∀ s ∈ chs.l, s.l.length ≤ 1000000000) (at' : Sl Pnt) (ha : at'.l.length ≤ 1000000000)
    (hn : placedErr c chs.l at'.l = 0 → ∀ s ∈ chs.l, s.nl ≠ some true) :
    PureCalls Tryd.prog Γ 22 [.agg (tC c), tChs chs, tPts at'] (.tup [if placedErr c chs.l at'.l = 0 then tChs ⟨shortAll (placedM c chs.l at'.l) chs.l, some chs.l.length, none⟩ else .sl [] (some 0) (some true), tI (placedErr c chs.l at'.l)]) := by
  by_cases h : placedErr c chs.l at'.l = 0
  · exact Shorten_spec hΓ c hc chs hl (fun s hq => ⟨hs s hq, hn h s hq⟩) at' ha
  · refine run_pureQ scans_Shorten_chk rfl ?_
    simp [scans_Shorten_ic, tC, tNodes, tNames, tMems, tSl]
    refine callK_pure (placed_spec hΓ c hc chs hl hs at' ha) rfl ?_
    simp
    simp [h, Later, scans_Shorten_rv]

theorem placed_want (c : Cir) (chs : List (Sl Int)) (at' : List Pnt) : wantS (if checkErr c chs = 0 ∧ at'.length ≠ (states c).length then 8 else checkErr c chs) at' = placedErr c chs at' := by
  rw [wantS_eq]
  unfold placedErr
  by_cases h1 : checkErr c chs = 0
  · by_cases h2 : at'.length = (states c).length
    · simp [h1, h2]
    · simp [h1, h2]
  · simp [h1]

set_option maxHeartbeats 4000000 in
theorem lawErrors_spec (hΓ : GOk Γ) (x : CD) (hx : CDOk x) (chs : Sl (Sl Int)) (hnl : ∀ s ∈ chs.l, s.nl = some true → s.l = []) (z : ED) : PureCalls Tryd.prog Γ 11 [.agg (tCD x), tChs chs, .agg (tED z)] (tB true) := by
  refine run_pureQ law34_ScansErrors_chk rfl ?_
  by_cases h10 : 10 < chs.l.length
  · have h10' : (10 : Int) < chs.l.length := by omega
    simp [law34_ScansErrors_ic, tCD, tChs, tED, enc1_len, encN_len, h10, h10', Later]
    refine callK_fresh (lives_spec hΓ) rfl ?_
    simp [law34_ScansErrors_rv, reify]
  have h10' : ¬ (10 : Int) < chs.l.length := by omega
  by_cases h20 : 20 < z.at'.l.length
  · have h20' : (20 : Int) < z.at'.l.length := by omega
    simp [law34_ScansErrors_ic, tCD, tChs, tED, enc1_len, encN_len, h10, h10', h20, h20', Later]
    refine callK_fresh (lives_spec hΓ) rfl ?_
    simp [law34_ScansErrors_rv, reify]
  have h20' : ¬ (20 : Int) < z.at'.l.length := by omega
  by_cases h30 : 20 < z.inn.l.length
  · have h30' : (20 : Int) < z.inn.l.length := by omega
    simp [law34_ScansErrors_ic, tCD, tChs, tED, enc1_len, encN_len, h10, h10', h20, h20', h30, h30', Later]
    refine callK_fresh (lives_spec hΓ) rfl ?_
    simp [law34_ScansErrors_rv, reify]
  have h30' : ¬ (20 : Int) < z.inn.l.length := by omega
  have g1 := fun Q t3 t5 h0 hr => er_l1 (Γ := Γ) (Q := Q) hΓ chs (by omega) t3 t5 h0 hr chs.l.length 0 (by omega) (fun j hj => absurd hj (by omega))
  simp [law34_ScansErrors_ic, tCD, tChs, tED, enc1_len, encN_len, h10, h10', h20, h20', h30, h30', Later]
  refine g1 _ _ _ (fun hl20 => ?_) (by simp [law34_ScansErrors_rv, reify])
  have hc : COk (ofC x) := ofC_ok hx
  have e1 := Of_spec (Γ := Γ) x hx
  have hls : ∀ s ∈ chs.l, s.l.length ≤ 1000000000 := fun s hs => by have := hl20 s hs; omega
  have e2 := scheck_spec (Γ := Γ) hΓ (ofC x) hc chs (by omega) hls
  have hne : checkErr (ofC x) chs.l = 0 → ∀ s ∈ chs.l, s.l ≠ [] ∧ s.nl ≠ some true := fun h s hs => by
    have := (check_complete h).2.2 s hs
    exact ⟨this, fun h2 => this (hnl s hs h2)⟩
  have hpe0 : placedErr (ofC x) chs.l z.at'.l = 0 → checkErr (ofC x) chs.l = 0 := placedErr_check
  have e3 := Length_spec (Γ := Γ) hΓ (ofC x) hc chs (by omega) hls z.at' (by omega)
  have e4 := Shorten_spec2 (Γ := Γ) hΓ (ofC x) hc chs (by omega) hls z.at' (by omega) (fun h s hs => (hne (hpe0 h) s hs).2)
  have e5 := states_spec (Γ := Γ) (ofC x) hc
  have e6 := inputs_spec (Γ := Γ) (ofC x) hc
  have e7 := Pattern_spec (Γ := Γ) (ofC x) hc [] [] [] (some 0) (some 0) (some 0) (some true) (some true) (some true) 0 ⟨⟨z.inn.l, none, none⟩, ⟨[], some 0, some true⟩⟩ 1 ⟨[], some 0, some true⟩ ⟨by show z.inn.l.length ≤ _; omega, by simp⟩ slok_nil
  have hI : ∃ s1 k1 n1 s2 k2 n2 s3 k3 n3 s4 k4 n4 s5 k5 n5 i6 s7 k7 n7 s8 k8 n8, PureCalls Tryd.prog Γ 37 [.agg (tC (ofC x)), tChs chs] (.tup [.agg [.sl s1 k1 n1, .sl s2 k2 n2, .sl s3 k3 n3, .sl s4 k4 n4, .sl s5 k5 n5, tI i6, .sl s7 k7 n7, .sl s8 k8 n8], tI (checkErr (ofC x) chs.l)]) := by
    by_cases h : checkErr (ofC x) chs.l = 0
    · obtain ⟨p1, p2, p3⟩ := check_complete h
      have hm := noMem_of hx p1
      have := Insert_spec (Γ := Γ) hΓ (ofC x) chs (scOk_ins (x_scok hx hm p2 (hne h)) p1 chs.cap chs.nl)
      rw [h]
      exact ⟨_, _, _, _, _, _, _, _, _, _, _, _, _, _, _, _, _, _, _, _, _, _, this⟩
    · exact ⟨_, _, _, _, _, _, _, _, _, _, _, _, _, _, _, _, _, _, _, _, _, _, Insert_err (Γ := Γ) hΓ (ofC x) hc chs (by omega) hls h⟩
  have hw := placed_want (ofC x) chs.l z.at'.l
  generalize checkErr (ofC x) chs.l = ce at *
  generalize placedErr (ofC x) chs.l z.at'.l = pe at *
  have hin := inputs_len (ofC x)
  have hsl := states_len (ofC x)
  have hc16 := hc
  obtain ⟨s1, k1, n1, s2, k2, n2, s3, k3, n3, s4, k4, n4, s5, k5, n5, i6, s7, k7, n7, s8, k8, n8, hI⟩ := hI
  generalize ofC x = c at *
  simp [tCD] at e1
  simp
  refine callK_pure e1 rfl ?_
  simp [tC, tNodes, tNames, tMems, tSl, tChs, tPts] at e2 e3 e4 e5 e6 e7 hI
  simp only [tP, tV, enc1_nil] at e7
  simp [tC, tNodes, tNames, tMems, tSl, tChs]
  refine callK_fresh e2 rfl ?_
  simp
  refine callK_pure hI rfl ?_
  simp
  have hV : ∀ w0 : Int, (w0 = if ce = 0 ∧ z.at'.l.length ≠ (states c).length then 8 else ce) → wantS w0 z.at'.l = pe := fun w0 h => by rw [h]; exact hw
  have hcase : (ce = 0 ∧ z.at'.l.length = (states c).length) ∨ (ce = 0 ∧ z.at'.l.length ≠ (states c).length) ∨ ce ≠ 0 := by
    by_cases h1 : ce = 0
    · by_cases h2 : z.at'.l.length = (states c).length
      · exact .inl ⟨h1, h2⟩
      · exact .inr (.inl ⟨h1, h2⟩)
    · exact .inr (.inr h1)
  have g5 := fun Q a b c' d h0 => er_l5 (Γ := Γ) (Q := Q) a b c' d z (by omega) h0 z.inn.l.length 0 (by omega)
  simp only [List.take_zero, List.any_nil, enc1_nil] at g5
  simp only [tED] at g5
  have hcase2 : (¬ z.inn.l.length + 1 = (inputs c).length ∧ ¬ (z.inn.l.length : Int) + 1 = ((inputs c).length : Int) ∧ patRes c ⟨⟨z.inn.l, none, none⟩, ⟨[], some 0, some true⟩⟩ 1 ⟨[], some 0, some true⟩ = .tup [.agg [.sl [] (some 0) (some true), .sl [] (some 0) (some true)], tI 8])
      ∨ (z.inn.l.length + 1 = (inputs c).length ∧ (z.inn.l.length : Int) + 1 = ((inputs c).length : Int) ∧ patRes c ⟨⟨z.inn.l, none, none⟩, ⟨[], some 0, some true⟩⟩ 1 ⟨[], some 0, some true⟩ = .tup [.agg [.sl [] (some 0) (some true), .sl [] (some 0) (some true)], tI 1] ∧ z.inn.l.any aboveV = true)
      ∨ (z.inn.l.length + 1 = (inputs c).length ∧ (z.inn.l.length : Int) + 1 = ((inputs c).length : Int) ∧ patRes c ⟨⟨z.inn.l, none, none⟩, ⟨[], some 0, some true⟩⟩ 1 ⟨[], some 0, some true⟩ = .tup [.agg [tVs (z.inn.l ++ [1]), tV (cpS ⟨[], some 0, some true⟩)], tI 0] ∧ z.inn.l.any aboveV = false) := by
    have hA : patAll ⟨⟨z.inn.l, none, none⟩, ⟨[], some 0, some true⟩⟩ 1 ⟨[], some 0, some true⟩ = z.inn.l ++ [1] := by simp [patAll]
    have h1v : aboveV 1 = false := by decide
    by_cases d1 : z.inn.l.length + 1 = (inputs c).length
    · have d1' : (z.inn.l.length : Int) + 1 = ((inputs c).length : Int) := by omega
      cases d3 : z.inn.l.any aboveV
      · refine .inr (.inr ⟨d1, d1', ?_, rfl⟩)
        have hE : patErr c ⟨⟨z.inn.l, none, none⟩, ⟨[], some 0, some true⟩⟩ 1 ⟨[], some 0, some true⟩ = 0 := by
          unfold patErr; rw [hA, if_neg (by simp [d1]), if_neg (by rw [List.any_append, d3]; simp [h1v])]
        unfold patRes
        rw [if_pos hE, hA]
      · refine .inr (.inl ⟨d1, d1', ?_, rfl⟩)
        have hE : patErr c ⟨⟨z.inn.l, none, none⟩, ⟨[], some 0, some true⟩⟩ 1 ⟨[], some 0, some true⟩ = 1 := by
          unfold patErr; rw [hA, if_neg (by simp [d1]), if_pos (by rw [List.any_append, d3]; simp)]
        unfold patRes
        rw [if_neg (by rw [hE]; decide), hE]
    · refine .inl ⟨d1, by omega, ?_⟩
      have hE : patErr c ⟨⟨z.inn.l, none, none⟩, ⟨[], some 0, some true⟩⟩ 1 ⟨[], some 0, some true⟩ = 8 := by
        unfold patErr; rw [hA, if_pos (by simpa using d1)]
      unfold patRes
      rw [if_neg (by rw [hE]; decide), hE]
  have w1 : IntKind.i64.wrap ((z.inn.l.length : Int) + 1) = (z.inn.l.length : Int) + 1 := by rw [wrap_i64] <;> omega
  have htk : (vals z.inn.l).take z.inn.l.length = vals z.inn.l := vals_take
  rcases hcase with ⟨hc1, hc2⟩ | ⟨hc1, hc2⟩ | hc1
  case' inl =>
    have hV := hV 0 (by simp [hc1, hc2])
    have hc2' : ((z.at'.l.length : Int) = ((states c).length : Int)) := by omega
    have g3 := fun Q t1 r8 h0 => er_l3 (Γ := Γ) (Q := Q) t1 r8 z (by omega) pe h0 z.at'.l.length 0 0 (by omega) (by simpa using hV)
    simp only [tED] at g3
    subst hc1
    simp
    refine callK_pure e5 rfl ?_
    simp [encN_len, enc1_len, hc2, hc2']
    refine g3 _ _ _ ?_
  case' inr.inl =>
    have hV := hV 8 (by simp [hc1, hc2])
    have hc2' : ¬ ((z.at'.l.length : Int) = ((states c).length : Int)) := by omega
    have g3 := fun Q t1 r8 h0 => er_l3 (Γ := Γ) (Q := Q) t1 r8 z (by omega) pe h0 z.at'.l.length 0 8 (by omega) (by simpa using hV)
    simp only [tED] at g3
    subst hc1
    simp
    refine callK_pure e5 rfl ?_
    simp [encN_len, enc1_len, hc2, hc2']
    refine g3 _ _ _ ?_
  case' inr.inr =>
    have hV := hV ce (by simp [hc1])
    have g3 := fun Q t1 r8 h0 => er_l3 (Γ := Γ) (Q := Q) t1 r8 z (by omega) pe h0 z.at'.l.length 0 ce (by omega) (by simpa using hV)
    simp only [tED] at g3
    simp [hc1]
    refine g3 _ _ _ ?_
  all_goals
    simp
    refine callK_fresh e3 rfl ?_
    simp
    refine callK_pure e4 rfl ?_
    by_cases hpe : pe = 0
    case' pos => simp [hpe]
    case' neg => simp [hpe, Later]
  all_goals
    refine g5 _ _ _ _ _ ?_
    simp [St.freeze, Reg.closed, frzRef, frz1, frz0, frzReg, del, reify, htk]
    refine callK_pure e6 rfl ?_
    rcases hcase2 with ⟨d1, d1', d2⟩ | ⟨d1, d1', d2, d3⟩ | ⟨d1, d1', d2, d3⟩
    · rw [d2] at e7
      simp [enc1_len, w1, d1, d1', Later]
      refine callK_pure e7 rfl ?_
      simp
      refine callK_fresh (lives_spec hΓ) rfl ?_
      simp [law34_ScansErrors_rv, reify]
    · rw [d2] at e7
      have w2 : IntKind.i64.wrap (((inputs c).length : Nat) : Int) = ((inputs c).length : Int) := by rw [wrap_i64] <;> omega
      simp [enc1_len, w1, w2, d1, d1', d3, Later]
      refine callK_pure e7 rfl ?_
      simp
      refine callK_fresh (lives_spec hΓ) rfl ?_
      simp [law34_ScansErrors_rv, reify]
    · rw [d2] at e7
      have w2 : IntKind.i64.wrap (((inputs c).length : Nat) : Int) = ((inputs c).length : Int) := by rw [wrap_i64] <;> omega
      simp [enc1_len, w1, w2, d1, d1', d3, Later]
      refine callK_pure e7 rfl ?_
      simp [tVs, tV, cpS, enc1_len]
      refine callK_fresh (lives_spec hΓ) rfl ?_
      simp [law34_ScansErrors_rv, reify]
end Go.Lg

/- Chains that tell truly whether they are nil, and the errors' record, opened. Conditions: none. -/
set_option linter.unusedSimpArgs false
set_option linter.unusedVariables false
set_option maxRecDepth 100000
namespace Go.Lg
open Go Go.Proofs Go.Proofs.YtgnghiijbegacaaDoor
theorem tr_nil {w : World} {X : Nat → Prop} {es : List (List T)} {cap : Option Nat} {v : Value} (h : TR w X (.sl es cap (some true)) v) : es = [] := by
  cases h with
  | nil => rfl
  | sl => rename_i hn; exact absurd (hn true rfl) (by decide)
theorem tr_chs {w : World} {X : Nat → Prop} {s : Sl (Sl Int)} {v : Value} (h : TR w X (tChs s) v) : ∀ x ∈ s.l, x.nl = some true → x.l = [] := by
  intro x hx hn
  obtain ⟨i, hi, rfl⟩ := List.getElem_of_mem hx
  have hi' : i < (enc1 tSl s.l).length := by rw [enc1_len]; exact hi
  have e : (enc1 tSl s.l)[i]? = some [tSl s.l[i]] := by simp [enc1, hi]
  unfold tChs at h
  generalize enc1 tSl s.l = es at *
  cases h with
  | nil => simp at e
  | sl _ _ _ s' b off c f hcell hlen hrel hone hx' hle hc hq =>
    have := hrel i 0 _ _ e rfl
    unfold tSl at this
    rw [hn] at this
    have := tr_nil this
    simpa [enc1] using this
theorem cells93 : Tryd.prog.cellsOf 93 = 2 := by kernel_rfl
theorem cells55 : Tryd.prog.cellsOf 55 = 1 := by kernel_rfl
theorem cells91 : Tryd.prog.cellsOf 91 = 2 := by kernel_rfl
theorem rdPnt : Rd Tryd.prog 93 fun ts => ∃ p : Pnt, ts = cPnt p := by
  refine (rd_struct (l := [(1, fun ts => ∃ n, ts = [tI n]), (1, fun ts => ∃ n, ts = [tI n])]) Tryd.underlying93 cells93 (.cons rfl cells3 rdInt (.cons rfl cells3 rdInt (.nil _)))).mono fun ts h => ?_
  obtain ⟨_, _, rfl, ⟨a, rfl⟩, _, _, rfl, ⟨b, rfl⟩, rfl⟩ := h
  exact ⟨(a, b), rfl⟩
theorem rdPnts : Rd Tryd.prog 55 fun ts => ∃ s : Sl Pnt, ts = [.sl (encN cPnt s.l) s.cap s.nl] := by
  refine (rd_slice Tryd.underlying55 cells93 (by decide) rdPnt).mono fun ts ⟨es, cap, nl, h, _, hes⟩ => ?_
  obtain ⟨l, rfl, _⟩ := list_of (f := cPnt) (Q := fun _ => True) fun x hx => by
    obtain ⟨p, hp⟩ := (hes x hx).1
    exact ⟨p, hp, trivial⟩
  exact ⟨⟨l, cap, nl⟩, h⟩
theorem rdBytesE : Rd Tryd.prog 25 fun ts => ∃ s : Sl Int, ts = [.sl (vals s.l) s.cap s.nl] := by
  refine (rd_slice Tryd.underlying25 cells5 (by decide) rdU8).mono fun ts ⟨es, cap, nl, h, _, hes⟩ => ?_
  obtain ⟨l, rfl, hl⟩ := list_of (f := fun n => [tK n]) (Q := Byt) fun x hx => (hes x hx).1
  exact ⟨⟨l, cap, nl⟩, h⟩
theorem rdED : Rd Tryd.prog 91 fun ts => ∃ z, ts = tED z := by
  refine (rd_struct (l := [(1, fun ts => ∃ s : Sl Pnt, ts = [.sl (encN cPnt s.l) s.cap s.nl]), (1, fun ts => ∃ s : Sl Int, ts = [.sl (vals s.l) s.cap s.nl])]) Tryd.underlying91 cells91 (.cons rfl cells55 rdPnts (.cons rfl cells25 rdBytesE (.nil _)))).mono fun ts h => ?_
  obtain ⟨_, _, rfl, ⟨s, rfl⟩, _, _, rfl, ⟨t, rfl⟩, rfl⟩ := h
  exact ⟨⟨s, t⟩, rfl⟩
end Go.Lg
namespace Go.Proofs.YtgnghiijbegacaaDoor
open Go Go.Lg Go.ChangeShapes Go.WideShapes Go.ChangeAt Go.RowKit
theorem open_chn {H : Type} {enc : TypeId × Value → H} {W : World} {base : Nat} {v : Value} {d : DataW H} {p : List MemPlace} (hval : Value.okWide Tryd.prog W .any base 35 v) (h : DataW.Trod enc Tryd.prog W 0 (fun _ => true) true 35 v d p) : ∃ s : Sl (Sl Int), (∀ x ∈ s.l, x.nl = some true → x.l = []) ∧ TR W (Old W) (tChs s) v := by
  obtain ⟨s, hs⟩ := open_chs hval h
  exact ⟨s, tr_chs hs, hs⟩
theorem open_ed {H : Type} {enc : TypeId × Value → H} {W : World} {base : Nat} {v : Value} {d : DataW H} {p : List MemPlace} (hval : Value.okWide Tryd.prog W .any base 91 v) (h : DataW.Trod enc Tryd.prog W 0 (fun _ => true) true 91 v d p) : ∃ z, TR W (Old W) (.agg (tED z)) v := by
  simp only [Value.okWide, Tryd.underlying91] at hval
  obtain ⟨cs, rfl, _, _⟩ := hval
  obtain ⟨fuel, hf⟩ := h
  obtain ⟨ts, ⟨x, rfl⟩, htr, ho⟩ := rdED H enc W true fuel _ _ hf
  exact ⟨x, tr_agg htr ho⟩
end Go.Proofs.YtgnghiijbegacaaDoor

/- The seat's rows that list more than the table of the gates. Conditions: none. -/
set_option linter.unusedSimpArgs false
set_option linter.unusedVariables false
set_option maxRecDepth 100000
namespace Go.Proofs.YtgnghiijbegacaaDoor
open Go Go.Lg Go.ChangeShapes Go.WideShapes Go.ChangeAt Go.RowKit

theorem laidMet_tail {P : Program} {x : String × DataW Unit} {l : List (String × DataW Unit)} {w : World} (h : laidMet P (x :: l) w) : laidMet P l w := by
  obtain ⟨ps, hv, hn, hm⟩ := h
  obtain ⟨n, d⟩ := x
  obtain ⟨g, t, cs, fuel, p, q, h1, h2, h3, h4, h5, rfl⟩ := hv
  exact ⟨q, h5, (List.nodup_append.1 hn).2.1, fun b off hq => hm b off (List.mem_append_right _ hq)⟩

theorem gl_of4 {W : World} (h : laidMetH Tryd.prog [("math/bits.deBruijn32tab", Rows.laid_math_bits_deBruijn32tab), ("math/bits.deBruijn64tab", Rows.laid_math_bits_deBruijn64tab), ("internal/strconv.uint64pow10", Rows.laid_internal_strconv_uint64pow10), ("probecard/logic.fanins", Rows.laid_probecard_logic_fanins)] W) : Gl G0 W (Old W) := by
  rw [MakeChecks.laidMetH_plain _ _ _ (by kernel_rfl)] at h
  exact fan_gl (laidMet_tail (laidMet_tail (laidMet_tail h)))

/-- A world for the witness: the tables hold what their initialisers lay. -/
noncomputable def laidWorld4 (os : Os) : World :=
  { laidWorld os with heap := (((laidWorld os).heap.modify 2 fun
      | .cells _ t frozen => .cells ([.int .u64 1, .int .u64 10, .int .u64 100, .int .u64 1000, .int .u64 10000, .int .u64 100000, .int .u64 1000000, .int .u64 10000000, .int .u64 100000000, .int .u64 1000000000, .int .u64 10000000000, .int .u64 100000000000, .int .u64 1000000000000, .int .u64 10000000000000, .int .u64 100000000000000, .int .u64 1000000000000000, .int .u64 10000000000000000, .int .u64 100000000000000000, .int .u64 1000000000000000000, .int .u64 10000000000000000000] : List Value).toArray t frozen
      | o => o).modify 3 fun
      | .cells _ t frozen => .cells ([.int .u8 0, .int .u8 1, .int .u8 28, .int .u8 2, .int .u8 29, .int .u8 14, .int .u8 24, .int .u8 3, .int .u8 30, .int .u8 22, .int .u8 20, .int .u8 15, .int .u8 25, .int .u8 17, .int .u8 4, .int .u8 8, .int .u8 31, .int .u8 27, .int .u8 13, .int .u8 23, .int .u8 21, .int .u8 19, .int .u8 16, .int .u8 7, .int .u8 26, .int .u8 12, .int .u8 18, .int .u8 6, .int .u8 11, .int .u8 5, .int .u8 10, .int .u8 9] : List Value).toArray t frozen
      | o => o).modify 4 fun
      | .cells _ t frozen => .cells ([.int .u8 0, .int .u8 1, .int .u8 56, .int .u8 2, .int .u8 57, .int .u8 49, .int .u8 28, .int .u8 3, .int .u8 61, .int .u8 58, .int .u8 42, .int .u8 50, .int .u8 38, .int .u8 29, .int .u8 17, .int .u8 4, .int .u8 62, .int .u8 47, .int .u8 59, .int .u8 36, .int .u8 45, .int .u8 43, .int .u8 51, .int .u8 22, .int .u8 53, .int .u8 39, .int .u8 33, .int .u8 30, .int .u8 24, .int .u8 18, .int .u8 12, .int .u8 5, .int .u8 63, .int .u8 55, .int .u8 48, .int .u8 27, .int .u8 60, .int .u8 41, .int .u8 37, .int .u8 16, .int .u8 46, .int .u8 35, .int .u8 44, .int .u8 21, .int .u8 52, .int .u8 32, .int .u8 23, .int .u8 11, .int .u8 54, .int .u8 26, .int .u8 40, .int .u8 15, .int .u8 34, .int .u8 20, .int .u8 31, .int .u8 10, .int .u8 25, .int .u8 14, .int .u8 19, .int .u8 9, .int .u8 13, .int .u8 8, .int .u8 7, .int .u8 6] : List Value).toArray t frozen
      | o => o }
end Go.Proofs.YtgnghiijbegacaaDoor
