/- launches.shifted: its inner loops. Conditions: none. -/
import Derived.Test.YtgnomdkcimglbaaGreatDoorPkF
import Derived.Test.YtgnomdkcimglbaaGreatDoorPkD
import Derived.Test.YtgnomdkcimglbaaGreatDoorPkC
import Derived.Test.YtgnomdkcimglbaaGreatDoorRows
import Derived.Test.YtgnomdkcimglbaaGreatDoorCards
import Derived.Test.YtgnomdkcimglbaaGreatDoorTie
import Derived.ProofKit
import Derived.Deep.DeepHandedRow
import Derived.SevenTiedAt
set_option linter.unusedSimpArgs false
set_option linter.unusedVariables false
set_option maxRecDepth 100000
namespace Go.Lg
open Go Go.Proofs
variable {Γ : Tables}
def q5t (st pst : List Int) : List Int → Int → List Int → List Int
  | [], _, out => out
  | n :: l, v, out => q5t st pst l (B8 (pst.getD (st.idxOf n) 0)) (out.set (st.idxOf n) v)
theorem q8h {st : List Int} (hd : st.Nodup) {n : Int} (h : n ∈ st) : Qk 0 n (atZ st 0) = ((st.idxOf n : Nat) : Int) := by
  have h1 := List.idxOf_lt_length_iff.2 h
  have := qID st 0 (st.idxOf n) hd h1
  rw [Nat.zero_add] at this
  rw [← this]
  congr 1
  rw [List.getD_eq_getElem?_getD, List.getElem?_eq_getElem h1]
  exact (List.getElem_idxOf h1).symm
theorem qIF {Q : AX → St → Prop} (t3 t36 t37 t38 : T) (st : List Int) (hd : st.Nodup) (hst : st.length ≤ 1000000) (ps : Sl Int) (hps : ps.l.length = st.length) (s : Sl Int) (hs : s.l.length ≤ 1000000) (hm : ∀ n ∈ s.l, n ∈ st) (R : List Int)
    (h0 : ∀ v, Q (.exit 4) ⟨[(2, .t (tV ps)), (3, .t t3), (10, .lm 21), (13, .ls 35 0 st.length none), (16, .t (tK v)), (36, .t t36), (37, .t t37), (38, .t t38), (48, .t (Aw s)), (49, .t (tI s.l.length)), (50, .t (tI s.l.length)), (51, .t (tB false))], [(21, .mp (mpE tI (atZ st 0))), (35, .sl 68 1 (Av R))]⟩) :
    ∀ (k i : Nat) (v : Int) (out : List Int), k + i = s.l.length → out.length = st.length → q5t st ps.l (s.l.drop i) v out = R →
    run Tryz.prog Γ Ht Q ⟨[(2, .t (tV ps)), (3, .t t3), (10, .lm 21), (13, .ls 35 0 st.length none), (16, .t (tK v)), (36, .t t36), (37, .t t37), (38, .t t38), (48, .t (Aw s)), (49, .t (tI s.l.length)), (50, .t (tI i))], [(21, .mp (mpE tI (atZ st 0))), (35, .sl 68 1 (Av out))]⟩
  | 0, i, v, out, h, ho, hR => by
    refine Q3 fun K hK => ?_
    have h2 : i = s.l.length := by omega
    subst h2
    rw [List.drop_of_length_le (Nat.le_refl _)] at hR
    have hR : out = R := hR
    subst hR
    have := h0 v
    simp [Aw, tV] at this
    simp [Aw, tV]
    simpa using this
  | k + 1, i, v, out, h, ho, hR => by
    refine Q3 fun K hK => ?_
    have h2 : i < s.l.length := by omega
    rw [List.drop_eq_getElem_cons h2] at hR
    simp only [q5t] at hR
    have ih := qIF t3 t36 t37 t38 st hd hst ps hps s hs hm R h0 k (i + 1) _ _ (by omega) (by rw [List.length_set]; exact ho) hR
    have e1 := gE (f := tI) 0 h2
    have e1' := gE' (f := tI) 0 h2
    have hx : s.l.getD i 0 = s.l[i] := by simp [List.getD_eq_getElem?_getD, h2]
    rw [hx] at e1 e1'
    have hmem := hm _ (List.getElem_mem h2)
    have hat := q8h hd hmem
    have hj := List.idxOf_lt_length_iff.2 hmem
    have w1 : IntKind.i64.wrap ((i : Int) + 1) = (i : Int) + 1 := by rw [A7] <;> omega
    generalize s.l[i] = x at *
    have em := Zo (f := tI) 0 x (atZ st 0)
    rw [hat] at em
    have ef := Xq (f := tI) (atZ st 0)
    generalize mpE tI (atZ st 0) = M at *
    generalize st.idxOf x = j at *
    have hjp : j < ps.l.length := by omega
    have e2 := gE (f := tK) 0 hjp
    have e2' := gE' (f := tK) 0 hjp
    generalize ps.l.getD j 0 = y at *
    have es1 : (Av out).set j [tK v] = Av (out.set j v) := Gf
    simp [Aw, tV] at ih
    simp [Aw, tV, A0, Aa, h2, e1, e1', e2, e2', em, ef, KT.fits, hj, hjp, ho, w1]
    refine A6 (Ib y) rfl ?_
    simp [h2, hj, ho, A0, Aa, es1, w1]
    rw [hK]
    simpa using ih
theorem q48 {st pst : List Int} : ∀ {l : List Int} {v : Int} {out : List Int}, (q5t st pst l v out).length = out.length
  | [], _, _ => rfl
  | n :: l, v, out => by simp only [q5t]; rw [q48, List.length_set]
def Fb (st pst : List Int) : List (Sl Int) → List Int → List Int → List Int
  | [], _, out => out
  | s :: l, [], out => Fb st pst l [] (q5t st pst s.l 0 out)
  | s :: l, v :: vs, out => Fb st pst l vs (q5t st pst s.l (B8 v) out)
theorem qEe {st pst : List Int} {l : List (Sl Int)} {s : Sl Int} {vs : List Int} {out : List Int} (h : vs ≠ []) : Fb st pst (s :: l) vs out = Fb st pst l (vs.drop 1) (q5t st pst s.l (B8 (vs.getD 0 0)) out) := by
  cases vs with
  | nil => exact absurd rfl h
  | cons v vs => rfl
theorem Xy {st pst : List Int} : ∀ {l : List (Sl Int)} {vs out : List Int}, (Fb st pst l vs out).length = out.length
  | [], _, _ => rfl
  | s :: l, [], out => by simp only [Fb]; rw [Xy, q48]
  | s :: l, v :: vs, out => by simp only [Fb]; rw [Xy, q48]
theorem qIG {Q : AX → St → Prop} (chs : Sl (Sl Int)) (hch : chs.l.length ≤ 1000000) (hcs : ∀ s ∈ chs.l, s.l.length ≤ 1000000) (st : List Int) (hm : ∀ s ∈ chs.l, ∀ n ∈ s.l, n ∈ st) (hd : st.Nodup) (hst : st.length ≤ 1000000) (ps : Sl Int) (hps : ps.l.length = st.length) (sc : Sl Int) (hsc : sc.l.length = chs.l.length) (R : List Int)
    (h0 : Q (.exit 2) ⟨[(2, .t (tV ps)), (3, .t (tV sc)), (10, .lm 21), (13, .ls 35 0 st.length none), (36, .t (Bn chs)), (37, .t (tI chs.l.length)), (38, .t (tI chs.l.length)), (39, .t (tB false))], [(21, .mp (mpE tI (atZ st 0))), (35, .sl 68 1 (Av R))]⟩) :
    ∀ (k i : Nat) (out : List Int), k + i = chs.l.length → out.length = st.length → Fb st ps.l (chs.l.drop i) (sc.l.drop i) out = R →
    run Tryz.prog Γ Hu Q ⟨[(2, .t (tV ps)), (3, .t (tV sc)), (10, .lm 21), (13, .ls 35 0 st.length none), (36, .t (Bn chs)), (37, .t (tI chs.l.length)), (38, .t (tI i))], [(21, .mp (mpE tI (atZ st 0))), (35, .sl 68 1 (Av out))]⟩
  | 0, i, out, h, ho, hR => by
    refine Q4 fun K hK => ?_
    have h2 : i = chs.l.length := by omega
    subst h2
    rw [List.drop_of_length_le (Nat.le_refl _)] at hR
    have hR : out = R := hR
    subst hR
    simp [Bn, tV] at h0
    simp [Bn, tV]
    simpa using h0
  | k + 1, i, out, h, ho, hR => by
    refine Q4 fun K hK => ?_
    have h2 : i < chs.l.length := by omega
    have h3 : i < sc.l.length := by omega
    rw [List.drop_eq_getElem_cons h2, qEe (by rw [List.drop_eq_getElem_cons h3]; exact fun h => nomatch h), List.drop_drop] at hR
    have hg : (sc.l.drop i).getD 0 0 = sc.l.getD i 0 := by rw [List.getD_eq_getElem?_getD, List.getElem?_drop, List.getD_eq_getElem?_getD, Nat.add_zero]
    rw [hg] at hR
    have ih := qIG chs hch hcs st hm hd hst ps hps sc hsc R h0 k (i + 1) _ (by omega) (by rw [q48]; exact ho) hR
    have e1 := gE (f := Aw) Jj h2
    have e1' := gE' (f := Aw) Jj h2
    have hx : chs.l.getD i Jj = chs.l[i] := by simp [List.getD_eq_getElem?_getD, h2]
    rw [hx] at e1 e1'
    have hms := hm _ (List.getElem_mem h2)
    have hls := hcs _ (List.getElem_mem h2)
    have e2 := gE (f := tK) 0 h3
    have e2' := gE' (f := tK) 0 h3
    generalize chs.l[i] = s at *
    generalize sc.l.getD i 0 = v at *
    have w1 : IntKind.i64.wrap ((i : Int) + 1) = (i : Int) + 1 := by rw [A7] <;> omega
    have g3 := fun Q t3 t36 t37 t38 h0 => qIF (Γ := Γ) (Q := Q) t3 t36 t37 t38 st hd hst ps hps s hls hms _ h0 s.l.length 0 (B8 v) out (by omega) ho rfl
    simp only [List.drop_zero] at g3
    generalize q5t st ps.l s.l (B8 v) out = out2 at *
    simp [Aw, tV] at g3
    simp only [Aw] at e1 e1'
    simp [Bn, tV] at ih
    simp [Bn, tV, A0, Aa, h2, h3, e1, e1', e2, e2', w1]
    refine A6 (Ib v) rfl ?_
    simp [A0]
    refine g3 _ _ _ _ _ (fun w => ?_)
    simp [w1]
    rw [hK]
    simpa using ih
theorem qC6 (c : B9) (hc : COk c) (chs : Sl (Sl Int)) (hch : chs.l.length ≤ 1000000) (hcs : ∀ s ∈ chs.l, s.l.length ≤ 1000000) (hm : ∀ s ∈ chs.l, ∀ n ∈ s.l, n ∈ A5 c) (hst : (A5 c).length ≤ 1000000) (ps : Sl Int) (hps : ps.l.length = (A5 c).length) (sc : Sl Int) (hsc : sc.l.length = chs.l.length) :
    Ai Tryz.prog Γ 79 [.agg (tC c), Bn chs, tV ps, tV sc] (.sl (Av (Fb (A5 c) ps.l chs.l sc.l (Ag (A5 c).length))) none none) := by
  refine Ap q35 rfl ?_
  have e1 := D9 (Γ := Γ) c hc
  have hd : (A5 c).Nodup := (Dz [14] c.nodes.l 0).2
  have hz2 : Av (Ag (A5 c).length) = List.replicate (A5 c).length [tK 0] := by simp [Ag, Ae]
  have g1 := fun Q t1 t2 t3 sc sn h0 => qIE (Γ := Γ) (Q := Q) t1 t2 t3 (A5 c) sc sn hd hst h0 (A5 c).length 0 (by omega)
  have g5 := fun Q h0 => qIG (Γ := Γ) (Q := Q) chs hch hcs (A5 c) hm hd hst ps hps sc hsc (Fb (A5 c) ps.l chs.l sc.l (Ag (A5 c).length)) h0 chs.l.length 0 (Ag (A5 c).length) (by omega) Cj (by simp)
  have hRl : (Fb (A5 c) ps.l chs.l sc.l (Ag (A5 c).length)).length = (A5 c).length := by rw [Xy, Cj]
  have htk : (Av (Fb (A5 c) ps.l chs.l sc.l (Ag (A5 c).length))).take (A5 c).length = Av (Fb (A5 c) ps.l chs.l sc.l (Ag (A5 c).length)) := List.take_of_length_le (by rw [A0]; omega)
  rw [hz2] at g5
  generalize Fb (A5 c) ps.l chs.l sc.l (Ag (A5 c).length) = R at *
  generalize A5 c = st at *
  simp [tC, Ac, Ah, Am, Aw] at e1
  simp [Bn, tV] at g5
  have hE0 : mpE tI ([] : List (Int × Int)) = [] := rfl
  simp [hE0] at g1
  simp [Wg, tC, Ac, Ah, Am, Aw, Bn, tV]
  refine A8 e1 rfl ?_
  simp [A0]
  refine g1 _ _ _ _ _ _ ?_
  simp [A0]
  refine ⟨by omega, ?_⟩
  refine g5 _ ?_
  simp [Wh, Ak, htk]
theorem qA8 (hΓ : GOk Γ) {c : B9} (hc : NOk c) {chs : Sl (Sl Int)} {s : Nat → List (List T)} {k : Nat → Option Nat} {n : Nat → Option Bool} {en : Int} (hI : qDN Γ c chs s k n en 0) (hm : ∀ s ∈ chs.l, ∀ n ∈ s.l, n ∈ A5 c) (p : Pat) (hP : POk c p) (hp1 : p.inn.nl = some true → p.inn.l = []) (hp2 : p.st.nl = some true → p.st.l = []) (i2 : Sl Int) (h1 : i2.l.length = p.inn.l.length) (h2 : ∀ v ∈ i2.l, V4 v) (h3 : i2.nl = some true → i2.l = []) (sc : Sl Int) (h4 : sc.l.length = chs.l.length) (h5 : ∀ v ∈ sc.l, V4 v) :
    Ai Tryz.prog Γ 24 [.agg (tC c), Bn chs, .agg (tP p), tV i2, tV sc] (.tup [.agg [tV (Uu p.inn), tV (Uu p.st), tV (Uu i2), tV (Uu ⟨Fb (A5 c) p.st.l chs.l sc.l (Ag (A5 c).length), none, none⟩)], tI 0]) := by
  refine Ap q5K rfl ?_
  have hn2 := hc.n2
  have hil := Jf c
  have hsl := Eu c
  have hpi := hP.i
  have hps := hP.s
  have hcl := hI.chl
  have e0 := hI.call
  have av : ∀ {l : List Int}, (∀ v ∈ l, V4 v) → l.any Br = false := fun h => List.any_eq_false.2 fun v hv => by have := (h v hv).2; simp [Br]; omega
  have e1 := qAU (Γ := Γ) hΓ c hc.ok p (by omega)
  have q1 : qC4 c p = 0 := by
    unfold qC4 Ox
    rw [if_neg (by simp [hc.lev]), if_neg (by simp [hc.mm, hc.m0]), if_neg (by simp [hpi, hps]), av hP.vi, av hP.vs]
    rfl
  rw [q1] at e1
  have e2 := E1 (Γ := Γ) i2.l i2.cap i2.nl 77 [] Br (fun x _ => q4P x) (by omega)
  rw [av h2] at e2
  have e2' := E1 (Γ := Γ) sc.l sc.cap sc.nl 77 [] Br (fun x _ => q4P x) (by omega)
  rw [av h5] at e2'
  have e3 := q0e (Γ := Γ) p hp1 hp2 (by omega)
  have e5 := qC6 (Γ := Γ) c hc.ok chs hcl hI.cs hm hI.st p.st hps sc h4
  have hSl : (Fb (A5 c) p.st.l chs.l sc.l (Ag (A5 c).length)).length = (A5 c).length := by rw [Xy, Cj]
  generalize Fb (A5 c) p.st.l chs.l sc.l (Ag (A5 c).length) = N at *
  have e4 := q0e (Γ := Γ) ⟨i2, ⟨N, none, none⟩⟩ h3 (fun h => nomatch h) (by show i2.l.length ≤ _ ∧ N.length ≤ _; omega)
  have h1' : (i2.l.length : Int) = p.inn.l.length := by omega
  have h4' : (sc.l.length : Int) = chs.l.length := by omega
  generalize Uu p.inn = a at *
  generalize Uu p.st = b at *
  generalize Uu i2 = a2 at *
  simp only at e4
  generalize Uu ⟨N, none, none⟩ = b2 at *
  simp [tC, Ac, Ah, Am, Aw, Bn, tP, tV, Pl] at e0 e1 e2 e2' e3 e4 e5
  simp [Zz, tC, Ac, Ah, Am, Aw, Bn, tP, tV]
  refine A8 e0 rfl ?_
  simp
  refine A6 e1 rfl ?_
  simp [A0, h1, h1', h4, h4']
  refine A6 e2 rfl ?_
  simp
  refine A6 e2' rfl ?_
  simp
  refine A8 e3 rfl ?_
  simp
  refine A8 e5 rfl ?_
  simp
  refine A8 e4 rfl ?_
  simp [q00, Ak]
theorem qJq {Q : AX → St → Prop} (t1 t2 t7 : T) (st : List Int) (sc : Option Nat) (sn : Option Bool) (hd : st.Nodup) (hst : st.length ≤ 1000000)
    (h0 : Q (.exit 0) ⟨[(1, .t t1), (2, .t t2), (7, .t t7), (11, .lm 28), (30, .t (.sl (Ao st) sc sn)), (31, .t (tI st.length)), (32, .t (tI st.length)), (33, .t (tB false))], [(28, .mp (mpE tI (atZ st 0)))]⟩) :
    ∀ (k i : Nat), k + i = st.length →
    run Tryz.prog Γ J1 Q ⟨[(1, .t t1), (2, .t t2), (7, .t t7), (11, .lm 28), (30, .t (.sl (Ao st) sc sn)), (31, .t (tI st.length)), (32, .t (tI i))], [(28, .mp (mpE tI ((atZ st 0).take i)))]⟩
  | 0, i, h => by
    refine Re fun K hK => ?_
    have h2 : i = st.length := by omega
    subst h2
    rw [List.take_of_length_le (by rw [qC5]; exact Nat.le_refl _)]
    simp
    simpa using h0
  | k + 1, i, h => by
    refine Re fun K hK => ?_
    have h2 : i < st.length := by omega
    have ih := qJq t1 t2 t7 st sc sn hd hst h0 k (i + 1) (by omega)
    rw [qDZ h2] at ih
    have hn := qFU hd h2
    have e1 := gE (f := tI) 0 h2
    have e1' := gE' (f := tI) 0 h2
    have w1 : IntKind.i64.wrap ((i : Int) + 1) = (i : Int) + 1 := by rw [A7] <;> omega
    generalize (atZ st 0).take i = Z at *
    generalize st.getD i 0 = x at *
    have em := q6i (f := tI) x (i : Int) Z hn
    have ef := Xq (f := tI) Z
    generalize mpE tI Z = M at *
    simp [A0, Aa, h2, e1, e1', w1]
    simp [em, ef, KT.fits, w1]
    rw [hK]
    simpa using ih
def qC7 (st pst : List Int) : List Int → List Int → List Int
  | [], out => out
  | [n], out => out.set (st.idxOf n) 2
  | n :: m :: l, out => qC7 st pst (m :: l) ((out.set (st.idxOf n) 2).set (st.idxOf n) (B8 (pst.getD (st.idxOf m) 0)))
theorem qA9 {st pst : List Int} : ∀ {l out : List Int}, (qC7 st pst l out).length = out.length
  | [], _ => rfl
  | [n], _ => by simp [qC7]
  | n :: m :: l, out => by simp only [qC7]; rw [qA9, List.length_set, List.length_set]
theorem qIH {Q : AX → St → Prop} (r61 : Bl) (t44 t45 t46 : T) (st : List Int) (hd : st.Nodup) (hst : st.length ≤ 1000000) (ps : Sl Int) (hps : ps.l.length = st.length) (s : Sl Int) (hs : s.l.length ≤ 1000000) (hm : ∀ n ∈ s.l, n ∈ st) (k7 : Nat) (L61 : List Int) (R : List Int)
    (h0 : Q (.exit 4) ⟨[(2, .t (tV ps)), (6, .ls 43 0 st.length none), (7, .ls 61 0 k7 none), (11, .lm 28), (15, .t (Aw s)), (44, .t t44), (45, .t t45), (46, .t t46), (62, .t (Aw s)), (63, .t (tI s.l.length)), (64, .t (tI s.l.length)), (65, .t (tB false))], [(28, .mp (mpE tI (atZ st 0))), (43, .sl 68 1 (Av R)), (61, .sl 68 1 (Av L61))]⟩) :
    ∀ (k i : Nat) (out : List Int), k + i = s.l.length → out.length = st.length → qC7 st ps.l (s.l.drop i) out = R →
    run Tryz.prog Γ J2 Q ⟨[(2, .t (tV ps)), (6, .ls 43 0 st.length none), (7, .ls 61 0 k7 none), (11, .lm 28), (15, .t (Aw s)), (44, .t t44), (45, .t t45), (46, .t t46), (62, .t (Aw s)), (63, .t (tI s.l.length)), (64, .t (tI i))], [(28, .mp (mpE tI (atZ st 0))), (43, .sl 68 1 (Av out)), (61, .sl 68 1 (Av L61))]⟩
  | 0, i, out, h, ho, hR => by
    refine Rf fun K hK => ?_
    have h2 : i = s.l.length := by omega
    subst h2
    rw [List.drop_of_length_le (Nat.le_refl _)] at hR
    have hR : out = R := hR
    subst hR
    simp [Aw, tV] at h0
    simp [Aw, tV]
    simpa using h0
  | k + 1, i, out, h, ho, hR => by
    refine Rf fun K hK => ?_
    have h2 : i < s.l.length := by omega
    have e1 := gE (f := tI) 0 h2
    have e1' := gE' (f := tI) 0 h2
    have hx : s.l.getD i 0 = s.l[i] := by simp [List.getD_eq_getElem?_getD, h2]
    rw [hx] at e1 e1'
    have hmem := hm _ (List.getElem_mem h2)
    have hat := q8h hd hmem
    have hj := List.idxOf_lt_length_iff.2 hmem
    have w1 : IntKind.i64.wrap ((i : Int) + 1) = ((i + 1 : Nat) : Int) := by rw [A7] <;> omega
    have ef := Xq (f := tI) (atZ st 0)
    have em := Zo (f := tI) 0 s.l[i] (atZ st 0)
    rw [hat] at em
    rw [List.drop_eq_getElem_cons h2] at hR
    by_cases h3 : i + 1 < s.l.length
    · rw [List.drop_eq_getElem_cons h3] at hR
      simp only [qC7] at hR
      rw [← List.drop_eq_getElem_cons h3] at hR
      have ih := qIH r61 t44 t45 t46 st hd hst ps hps s hs hm k7 L61 R h0 k (i + 1) _ (by omega) (by rw [List.length_set, List.length_set]; exact ho) hR
      have e3 := gE (f := tI) 0 h3
      have e3' := gE' (f := tI) 0 h3
      have hx3 : s.l.getD (i + 1) 0 = s.l[i + 1] := by simp [List.getD_eq_getElem?_getD, h3]
      rw [hx3] at e3 e3'
      have hmem3 := hm _ (List.getElem_mem h3)
      have hat3 := q8h hd hmem3
      have hj3 := List.idxOf_lt_length_iff.2 hmem3
      have em3 := Zo (f := tI) 0 s.l[i + 1] (atZ st 0)
      rw [hat3] at em3
      generalize s.l[i] = x at *
      generalize s.l[i + 1] = x3 at *
      generalize mpE tI (atZ st 0) = M at *
      generalize st.idxOf x = j at *
      generalize st.idxOf x3 = j3 at *
      have hjp : j3 < ps.l.length := by omega
      have e2 := gE (f := tK) 0 hjp
      have e2' := gE' (f := tK) 0 hjp
      generalize ps.l.getD j3 0 = y at *
      have es1 : (Av out).set j [tK 2] = Av (out.set j 2) := Gf
      have es2 : (Av (out.set j 2)).set j [tK (B8 y)] = Av ((out.set j 2).set j (B8 y)) := Gf
      obtain ⟨i1, hi1⟩ : ∃ i1, i1 = i + 1 := ⟨_, rfl⟩
      rw [← hi1] at w1 h3 e3 e3' ih
      have h3' : (i1 : Int) < s.l.length := by omega
      simp [Aw, tV] at ih
      simp [Aw, tV, A0, Aa, h2, h3, h3', e1, e1', e2, e2', e3, e3', em, em3, ef, KT.fits, hj, hj3, hjp, ho, w1, es1]
      refine A6 (Ib y) rfl ?_
      simp [h2, hj, ho, A0, Aa, es1, es2, w1]
      rw [hK]
      simpa using ih
    · rw [List.drop_of_length_le (by omega)] at hR
      simp only [qC7] at hR
      have ih := qIH r61 t44 t45 t46 st hd hst ps hps s hs hm k7 L61 R h0 k (i + 1) (out.set (st.idxOf s.l[i]) 2) (by omega) (by rw [List.length_set]; exact ho) (by rw [List.drop_of_length_le (by omega)]; exact hR)
      generalize s.l[i] = x at *
      generalize mpE tI (atZ st 0) = M at *
      generalize st.idxOf x = j at *
      have es1 : (Av out).set j [tK 2] = Av (out.set j 2) := Gf
      obtain ⟨i1, hi1⟩ : ∃ i1, i1 = i + 1 := ⟨_, rfl⟩
      rw [← hi1] at w1 h3 ih
      have h3' : ¬ (i1 : Int) < s.l.length := by omega
      simp [Aw, tV] at ih
      simp [Aw, tV, A0, Aa, h2, h3, h3', e1, e1', em, ef, KT.fits, hj, ho, w1, es1]
      rw [hK]
      simpa using ih
def q2f (st pst : List Int) : List (Sl Int) → List Int → List Int
  | [], out => out
  | s :: l, out => q2f st pst l (qC7 st pst s.l out)
def N1 (st pst : List Int) (l : List (Sl Int)) : List Int := l.map fun s => B8 (pst.getD (st.idxOf (s.l.getD 0 0)) 0)
theorem qJr {Q : AX → St → Prop} (chs : Sl (Sl Int)) (hch : chs.l.length ≤ 1000000) (hcs : ∀ s ∈ chs.l, s.l.length ≤ 1000000 ∧ s.l ≠ []) (st : List Int) (hm : ∀ s ∈ chs.l, ∀ n ∈ s.l, n ∈ st) (hd : st.Nodup) (hst : st.length ≤ 1000000) (ps : Sl Int) (hps : ps.l.length = st.length) (R : List Int)
    (h0 : Q (.exit 2) ⟨[(2, .t (tV ps)), (6, .ls 43 0 st.length none), (7, .ls 61 0 chs.l.length none), (11, .lm 28), (44, .t (Bn chs)), (45, .t (tI chs.l.length)), (46, .t (tI chs.l.length)), (47, .t (tB false))], [(28, .mp (mpE tI (atZ st 0))), (43, .sl 68 1 (Av R)), (61, .sl 68 1 (Av (N1 st ps.l chs.l)))]⟩) :
    ∀ (k i : Nat) (out : List Int), k + i = chs.l.length → out.length = st.length → q2f st ps.l (chs.l.drop i) out = R →
    run Tryz.prog Γ J3 Q ⟨[(2, .t (tV ps)), (6, .ls 43 0 st.length none), (7, .ls 61 0 i none), (11, .lm 28), (44, .t (Bn chs)), (45, .t (tI chs.l.length)), (46, .t (tI i))], [(28, .mp (mpE tI (atZ st 0))), (43, .sl 68 1 (Av out)), (61, .sl 68 1 (Av (N1 st ps.l (chs.l.take i))))]⟩
  | 0, i, out, h, ho, hR => by
    refine Rh fun K hK => ?_
    have h2 : i = chs.l.length := by omega
    subst h2
    rw [List.drop_of_length_le (Nat.le_refl _)] at hR
    rw [List.take_of_length_le (Nat.le_refl _)]
    have hR : out = R := hR
    subst hR
    simp [Bn, tV] at h0
    simp [Bn, tV]
    simpa using h0
  | k + 1, i, out, h, ho, hR => by
    refine Rh fun K hK => ?_
    have h2 : i < chs.l.length := by omega
    rw [List.drop_eq_getElem_cons h2] at hR
    simp only [q2f] at hR
    have ih := qJr chs hch hcs st hm hd hst ps hps R h0 k (i + 1) _ (by omega) (by rw [qA9]; exact ho) hR
    have hsn : N1 st ps.l (chs.l.take (i + 1)) = N1 st ps.l (chs.l.take i) ++ [B8 (ps.l.getD (st.idxOf (chs.l[i].l.getD 0 0)) 0)] := by
      unfold N1; rw [← List.take_append_getElem h2, List.map_append]; rfl
    rw [hsn] at ih
    have e1 := gE (f := Aw) Jj h2
    have e1' := gE' (f := Aw) Jj h2
    have hx : chs.l.getD i Jj = chs.l[i] := by simp [List.getD_eq_getElem?_getD, h2]
    rw [hx] at e1 e1'
    have hms := hm _ (List.getElem_mem h2)
    have hls := hcs _ (List.getElem_mem h2)
    have hBl : (N1 st ps.l (chs.l.take i)).length = i := by simp [N1]; omega
    generalize N1 st ps.l (chs.l.take i) = B at *
    generalize chs.l[i] = s at *
    have hp0 : 0 < s.l.length := List.length_pos_iff.2 hls.2
    have e2 := gE (f := tI) 0 hp0
    have e2' := gE' (f := tI) 0 hp0
    have hmem : s.l.getD 0 0 ∈ st := hms _ (by rw [List.getD_eq_getElem?_getD, List.getElem?_eq_getElem hp0]; exact List.getElem_mem _)
    have hat := q8h hd hmem
    have hj := List.idxOf_lt_length_iff.2 hmem
    have ef := Xq (f := tI) (atZ st 0)
    have em := Zo (f := tI) 0 (s.l.getD 0 0) (atZ st 0)
    rw [hat] at em
    have w1 : IntKind.i64.wrap ((i : Int) + 1) = (i : Int) + 1 := by rw [A7] <;> omega
    generalize s.l.getD 0 0 = x at *
    generalize st.idxOf x = j at *
    have hjp : j < ps.l.length := by omega
    have e3 := gE (f := tK) 0 hjp
    have e3' := gE' (f := tK) 0 hjp
    generalize ps.l.getD j 0 = y at *
    have g3 := fun Q t44 t45 t46 h0 => qIH (Γ := Γ) (Q := Q) (.bx []) t44 t45 t46 st hd hst ps hps s hls.1 hms (i + 1) (B ++ [B8 y]) _ h0 s.l.length 0 out (by omega) ho rfl
    simp only [List.drop_zero] at g3
    generalize qC7 st ps.l s.l out = out2 at *
    have vt : (Av B).take i = Av B := by rw [← hBl]; exact G7
    have vs := G6 (l := B) (v := B8 y)
    generalize mpE tI (atZ st 0) = M at *
    simp [Aw, tV] at g3
    simp only [Aw] at e1 e1'
    simp [Bn, tV] at ih
    simp [Bn, tV, A0, Aa, h2, e1, e1', hp0, e2, e2', hj, hjp, e3, e3', em, ef, KT.fits, w1]
    refine A6 (Ib y) rfl ?_
    simp [A0, vt, vs, hBl]
    refine ⟨by omega, ?_⟩
    refine g3 _ _ _ _ ?_
    simp [w1]
    rw [hK]
    simpa using ih
theorem qBT {st pst : List Int} : ∀ {l : List (Sl Int)} {out : List Int}, (q2f st pst l out).length = out.length
  | [], _ => rfl
  | s :: l, out => by simp only [q2f]; rw [qBT, qA9]
theorem qDa {c : B9} {chs : Sl (Sl Int)} {s : Nat → List (List T)} {k : Nat → Option Nat} {n : Nat → Option Bool} {en : Int} (hI : qDN Γ c chs s k n en 0) (hne : ∀ s ∈ chs.l, s.l ≠ []) (hm : ∀ s ∈ chs.l, ∀ n ∈ s.l, n ∈ A5 c) (ps : Sl Int) (hps : ps.l.length = (A5 c).length) (hv : ∀ v ∈ ps.l, V4 v) :
    Ai Tryz.prog Γ 23 [.agg (tC c), Bn chs, tV ps] (.tup [.sl (Av (q2f (A5 c) ps.l chs.l (Ag (A5 c).length))) none none, .sl (Av (N1 (A5 c) ps.l chs.l)) (some chs.l.length) none, tI 0]) := by
  refine Ap q4R rfl ?_
  have hst := hI.st
  have hcl := hI.chl
  have e0 := qEb hI ps (by omega)
  have q1 : Nh ps.l (A5 c).length = 0 := by
    unfold Nh
    rw [if_neg (by simp [hps]), List.any_eq_false.2 fun v h => by have := (hv v h).2; simp [Br]; omega]
    rfl
  simp only [q1] at e0
  have e1 := D9 (Γ := Γ) c hI.ok
  have hd : (A5 c).Nodup := (Dz [14] c.nodes.l 0).2
  have hz2 : Av (Ag (A5 c).length) = List.replicate (A5 c).length [tK 0] := by simp [Ag, Ae]
  have g1 := fun Q t1 t2 t7 sc sn h0 => qJq (Γ := Γ) (Q := Q) t1 t2 t7 (A5 c) sc sn hd hst h0 (A5 c).length 0 (by omega)
  have g5 := fun Q h0 => qJr (Γ := Γ) (Q := Q) chs hcl (fun s h => ⟨hI.cs s h, hne s h⟩) (A5 c) hm hd hst ps hps (q2f (A5 c) ps.l chs.l (Ag (A5 c).length)) h0 chs.l.length 0 (Ag (A5 c).length) (by omega) Cj (by simp)
  have hRl : (q2f (A5 c) ps.l chs.l (Ag (A5 c).length)).length = (A5 c).length := by rw [qBT, Cj]
  have hSl : (N1 (A5 c) ps.l chs.l).length = chs.l.length := by simp [N1]
  have htk : (Av (q2f (A5 c) ps.l chs.l (Ag (A5 c).length))).take (A5 c).length = Av (q2f (A5 c) ps.l chs.l (Ag (A5 c).length)) := List.take_of_length_le (by rw [A0]; omega)
  have htk2 : (Av (N1 (A5 c) ps.l chs.l)).take chs.l.length = Av (N1 (A5 c) ps.l chs.l) := List.take_of_length_le (by rw [A0]; omega)
  have e9 := Vo (Γ := Γ) (Av (N1 (A5 c) ps.l chs.l)) none none Aa
  rw [hz2] at g5
  generalize Df chs.l (A5 c) ps.l = LL at *
  generalize q2f (A5 c) ps.l chs.l (Ag (A5 c).length) = R at *
  have hb0 : N1 (A5 c) ps.l ([] : List (Sl Int)) = [] := rfl
  simp only [List.take_zero, hb0, Dh] at g5
  generalize N1 (A5 c) ps.l chs.l = B at *
  generalize A5 c = st at *
  simp [tC, Ac, Ah, Am, Aw, Bn, tV] at e0 e1
  simp [Bn, tV] at g5
  have hE0 : mpE tI ([] : List (Int × Int)) = [] := rfl
  simp [hE0] at g1
  simp [Y7, tC, Ac, Ah, Am, Aw, Bn, tV]
  refine A8 e0 rfl ?_
  simp
  refine A8 e1 rfl ?_
  simp [A0]
  refine g1 _ _ _ _ _ _ ?_
  simp [A0, hps]
  refine ⟨by omega, ?_⟩
  refine g5 _ ?_
  simp [St.freeze, Bl.closed, D3, frz1, frz0, Eo, del, Ak, htk2]
  refine A8 e9 rfl ?_
  simp [Y8, Ak, htk, hSl, A0]
end Go.Lg
namespace Go.Lg
open Go Go.Proofs
theorem qGX {l : List Int} {i : Nat} {v : Int} (h : i < l.length) : (l.set i v).getD i 0 = v := by
  rw [List.getD_eq_getElem?_getD, List.getElem?_set_self h]; rfl
theorem qGY {l : List Int} {i j : Nat} {v : Int} (h : i ≠ j) : (l.set i v).getD j 0 = l.getD j 0 := by
  rw [List.getD_eq_getElem?_getD, List.getElem?_set_ne h, List.getD_eq_getElem?_getD]
theorem qKt {st : List Int} {x y : Int} (hx : x ∈ st) (hy : y ∈ st) (h : x ≠ y) : st.idxOf x ≠ st.idxOf y := fun e => h (by
  have h1 := List.idxOf_lt_length_iff.2 hx
  have h2 := List.idxOf_lt_length_iff.2 hy
  have e1 := List.getElem_idxOf h1
  have e2 := List.getElem_idxOf h2
  simp only [e] at e1
  exact e1.symm.trans e2)
theorem q5u {st pst : List Int} : ∀ {l : List Int} {v : Int} {out : List Int} {x : Int}, x ∈ st → (∀ n ∈ l, n ∈ st) → x ∉ l → (q5t st pst l v out).getD (st.idxOf x) 0 = out.getD (st.idxOf x) 0
  | [], _, _, _, _, _, _ => rfl
  | n :: l, v, out, x, hx, hm, hn => by
    simp only [q5t]
    rw [q5u hx (fun y hy => hm y (List.mem_cons_of_mem _ hy)) (fun h => hn (List.mem_cons_of_mem _ h)), qGY]
    exact qKt (hm n List.mem_cons_self) hx (fun e => hn (e ▸ List.mem_cons_self))
theorem qFV {st pst : List Int} : ∀ {l : List Int} {v : Int} {out : List Int} {m : Nat}, (∀ n ∈ l, n ∈ st) → l.Nodup → out.length = st.length → m < l.length → (q5t st pst l v out).getD (st.idxOf (l.getD m 0)) 0 = if m = 0 then v else B8 (pst.getD (st.idxOf (l.getD (m - 1) 0)) 0)
  | [], _, _, _, _, _, _, h => absurd h (Nat.not_lt_zero _)
  | n :: l, v, out, 0, hm, hd, ho, h => by
    simp only [q5t, List.getD_cons_zero]
    rw [if_pos trivial, q5u (hm n List.mem_cons_self) (fun y hy => hm y (List.mem_cons_of_mem _ hy)) (List.nodup_cons.1 hd).1, qGX]
    rw [ho]; exact List.idxOf_lt_length_iff.2 (hm n List.mem_cons_self)
  | n :: l, v, out, m + 1, hm, hd, ho, h => by
    simp only [q5t, List.getD_cons_succ]
    rw [if_neg (Nat.succ_ne_zero m), qFV (fun y hy => hm y (List.mem_cons_of_mem _ hy)) (List.nodup_cons.1 hd).2 (by rw [List.length_set]; exact ho) (by simpa using h)]
    cases m with
    | zero => simp
    | succ m => simp
theorem q86 {st pst : List Int} : ∀ {ch : List (Sl Int)} {vs out : List Int} {x : Int}, vs.length = ch.length → x ∈ st → (∀ n ∈ E2 ch, n ∈ st) → x ∉ E2 ch → (Fb st pst ch vs out).getD (st.idxOf x) 0 = out.getD (st.idxOf x) 0
  | [], _, _, _, _, _, _, _ => by simp only [Fb]
  | s :: l, [], _, _, h, _, _, _ => by simp at h
  | s :: l, v :: vs, out, x, h, hx, hm, hn => by
    simp only [Fb]
    rw [E9] at hm hn
    rw [q86 (by simpa using h) hx (fun y hy => hm y (List.mem_append_right _ hy)) (fun hh => hn (List.mem_append_right _ hh)), q5u hx (fun y hy => hm y (List.mem_append_left _ hy)) (fun hh => hn (List.mem_append_left _ hh))]
theorem qAA {st pst : List Int} : ∀ {ch : List (Sl Int)} {vs out : List Int} {k m : Nat}, vs.length = ch.length → (∀ n ∈ E2 ch, n ∈ st) → (E2 ch).Nodup → out.length = st.length → k < ch.length → m < (ch.getD k Jj).l.length → (Fb st pst ch vs out).getD (st.idxOf ((ch.getD k Jj).l.getD m 0)) 0 = if m = 0 then B8 (vs.getD k 0) else B8 (pst.getD (st.idxOf ((ch.getD k Jj).l.getD (m - 1) 0)) 0)
  | [], _, _, _, _, _, _, _, _, h, _ => absurd h (Nat.not_lt_zero _)
  | s :: l, [], _, _, _, h, _, _, _, _, _ => by simp at h
  | s :: l, v :: vs, out, 0, m, h, hm, hd, ho, hk, hl => by
    simp only [List.getD_cons_zero] at hl
    simp only [Fb, List.getD_cons_zero]
    rw [E9] at hm hd
    have hd' := List.nodup_append.1 hd
    have hmem : s.l.getD m 0 ∈ s.l := by rw [B2 hl]; exact List.getElem_mem _
    rw [q86 (by simpa using h) (hm _ (List.mem_append_left _ hmem)) (fun y hy => hm y (List.mem_append_right _ hy)) (fun hh => hd'.2.2 _ hmem _ hh rfl), qFV (fun y hy => hm y (List.mem_append_left _ hy)) hd'.1 ho hl]
  | s :: l, v :: vs, out, k + 1, m, h, hm, hd, ho, hk, hl => by
    simp only [List.getD_cons_succ] at hl
    simp only [Fb, List.getD_cons_succ]
    rw [E9] at hm hd
    have hd' := List.nodup_append.1 hd
    exact qAA (by simpa using h) (fun y hy => hm y (List.mem_append_right _ hy)) hd'.2.1 (by rw [q48]; exact ho) (by simpa using hk) hl
theorem qMV {l : List Int} {i : Nat} {v : Int} (h : ∀ x ∈ l, V4 x) (hv : V4 v) : ∀ x ∈ l.set i v, V4 x := fun x hx => by
  rcases List.mem_or_eq_of_mem_set hx with h1 | h1
  · exact h x h1
  · rw [h1]; exact hv
theorem qII {n : Nat} : ∀ x ∈ Ag n, V4 x := fun x hx => by rw [List.eq_of_mem_replicate hx]; simp [V4]
theorem qEf {st pst : List Int} (hp : ∀ x ∈ pst, V4 x) : ∀ {l : List Int} {v : Int} {out : List Int}, V4 v → (∀ x ∈ out, V4 x) → ∀ x ∈ q5t st pst l v out, V4 x
  | [], _, _, _, h => h
  | n :: l, _, _, hv, h => qEf hp (l := l) (q1w (q5a hp _)) (qMV h hv)
theorem qC8 {st pst : List Int} (hp : ∀ x ∈ pst, V4 x) : ∀ {ch : List (Sl Int)} {vs out : List Int}, (∀ x ∈ vs, V4 x) → (∀ x ∈ out, V4 x) → ∀ x ∈ Fb st pst ch vs out, V4 x
  | [], _, _, _, h => by simpa only [Fb] using h
  | s :: l, [], _, _, h => by
    simp only [Fb]
    exact qC8 hp (ch := l) (fun x hx => nomatch hx) (qEf hp (by simp [V4]) h)
  | s :: l, v :: vs, _, hv, h => by
    simp only [Fb]
    exact qC8 hp (ch := l) (fun x hx => hv x (List.mem_cons_of_mem _ hx)) (qEf hp (q1w (hv v List.mem_cons_self)) h)
section
variable {c : B9} {ch : List (Sl Int)}
theorem q6m (h : Em c ch) : (E2 ch).Nodup := h.perm.nodup_iff.2 (Dz [14] c.nodes.l 0).2
theorem qGZ (h : Em c ch) (hp : Bi c = 0) {pin S v : List Int} (h1 : pin.length = (Az c).length) (h2 : S.length = (A5 c).length) (hv : v.length = ch.length) : B7 (C7 c ch) (An (C7 c ch) (pin ++ ([1] ++ v)) S) = Fb (A5 c) S ch v (Ag (A5 c).length) := by
  have hl : (B7 (C7 c ch) (An (C7 c ch) (pin ++ ([1] ++ v)) S)).length = (A5 c).length := by rw [Jw, Dc h]
  refine Uo (by rw [hl, Xy, Cj]) fun q hq => ?_
  rw [hl] at hq
  obtain ⟨k, m, hk, hm, rfl⟩ := q6k h hq
  rw [qA3 h hp h1 h2 hv hk hm]
  have := qAA (st := A5 c) (pst := S) (vs := v) (out := Ag (A5 c).length) hv (fun n hn => h.perm.mem_iff.1 hn) (q6m h) Cj hk hm
  rw [show (Fb (A5 c) S ch v (Ag (A5 c).length)).getD (Us c ch k m) 0 = _ from this]
  rcases Nat.eq_zero_or_pos m with rfl | h0
  · simp
  · rw [if_neg (by omega), if_neg (by omega)]; rfl
theorem qJH (h : Em c ch) {R1 R2 : List Rsp} (he : R1.drop (C3 ch) = R2.drop (C3 ch)) : Il c ch R1 = Il c ch R2 ∧ Lc c ch R1 = Lc c ch R2 := by
  have hg : ∀ j, R1.getD (C3 ch + j) W9 = R2.getD (C3 ch + j) W9 := fun j => by
    have := congrArg (fun l => l.getD j W9) he
    simpa [List.getD_eq_getElem?_getD, List.getElem?_drop] using this
  refine ⟨?_, ?_⟩
  · unfold Il
    have := hg 0
    rw [Nat.add_zero] at this
    rw [this]
  · unfold Lc
    refine Uo (by simp) fun q hq => ?_
    rw [List.length_map] at hq
    rw [List.getD_eq_getElem?_getD, List.getElem?_map, List.getElem?_eq_getElem hq, List.getD_eq_getElem?_getD, List.getElem?_map, List.getElem?_eq_getElem hq]
    show Qk 0 ((A5 c)[q]) _ = Qk 0 ((A5 c)[q]) _
    obtain ⟨k, m, hk, hm, rfl⟩ := q6k h hq
    rw [← B2 hq, qA2 h hk hm]
    have h1 := qEc (R := R1) (d := C3 ch) (o := c.outs.l.length) (q6m h) hk hm
    have h2 := qEc (R := R2) (d := C3 ch) (o := c.outs.l.length) (q6m h) hk hm
    rw [show q2e ch k m = (ch.getD k Jj).l.getD m 0 from rfl, h1, h2, Nat.add_sub_assoc (by omega), hg]
theorem q87 (h : Em c ch) (hp : Bi c = 0) {pin pst S0 : List Int} (h1 : pin.length = (Az c).length) (h2 : S0.length = (A5 c).length) (h3 : pst.length = (A5 c).length) (hk : ∀ v ∈ pst, B8 v = v) :
    F3 (C7 c ch) S0 ((Df ch (A5 c) pst).map fun s => Ag pin.length ++ ([1] ++ s)) = pst := by
  have hzp : (Ag pin.length).length = (Az c).length := by rw [Cj, h1]
  rw [qGU h hp hzp h2 h3]
  split
  · rename_i h0
    have hel : A5 c = [] := by
      refine List.eq_nil_of_length_eq_zero ?_
      rcases Nat.eq_zero_or_pos (A5 c).length with h' | h'
      · exact h'
      · obtain ⟨k, m, hk, hm, _⟩ := q6k h h'
        have hkm : ch.getD k Jj ∈ ch := by rw [List.getD_eq_getElem?_getD, List.getElem?_eq_getElem hk]; exact List.getElem_mem _
        have := qC0 _ hkm
        omega
    have h1 : S0 = [] := List.eq_nil_of_length_eq_zero (by rw [h2, hel]; rfl)
    have h2 : pst = [] := List.eq_nil_of_length_eq_zero (by rw [h3, hel]; rfl)
    rw [h1, h2]
  · exact (List.map_congr_left (g := id) fun v hv => hk v hv).trans (List.map_id _)
theorem qC9 (h : Em c ch) (hp : Bi c = 0) {pin S : List Int} (h1 : pin.length = (Az c).length) (h2 : S.length = (A5 c).length) (hS : ∀ v ∈ S, B8 v = v) (X : List Rsp) (hX : X.length = C3 ch) :
    Il c ch (X ++ Do (C7 c ch) S ((pin ++ ([0] ++ Ag ch.length)) :: List.replicate (C3 ch) (Ag pin.length ++ ([1] ++ Ag ch.length)))) = Ip c (An c pin S) ∧
    Lc c ch (X ++ Do (C7 c ch) S ((pin ++ ([0] ++ Ag ch.length)) :: List.replicate (C3 ch) (Ag pin.length ++ ([1] ++ Ag ch.length)))) = B7 c (An c pin S) := by
  have hE := q87 h hp h1 h2 h2 hS
  have hco := qDS h hp h1 h2 h2 hE
  have hsp := qA4 (c := c) (ch := ch) (st := A5 c) (pin := pin) (pst := S) (S0 := S)
  rw [hE] at hsp
  have hd : (X ++ Do (C7 c ch) S ((pin ++ ([0] ++ Ag ch.length)) :: List.replicate (C3 ch) (Ag pin.length ++ ([1] ++ Ag ch.length)))).drop (C3 ch) = (Do (C7 c ch) S (Nx ch (A5 c) pin S)).drop (C3 ch) := by
    rw [hsp, List.drop_left' hX, List.drop_left' (by rw [Xw, List.length_map, Ur])]
    rfl
  have := qJH h hd
  rw [this.1, this.2]
  exact hco
theorem qAB (h : Em c ch) (hp : Bi c = 0) {pin2 pst S0 row S : List Int} (h1 : pin2.length = (Az c).length) (h2 : S0.length = (A5 c).length) (h3 : pst.length = (A5 c).length) (hk : ∀ v ∈ pst, B8 v = v)
    (hS : B7 (C7 c ch) (An (C7 c ch) row pst) = S) :
    Il c ch ((Do (C7 c ch) S0 (Po ch (A5 c) pin2 pst row)).drop 1) = Ip c (An c pin2 S) ∧ Lc c ch ((Do (C7 c ch) S0 (Po ch (A5 c) pin2 pst row)).drop 1) = B7 c (An c pin2 S) := by
  have hE := q87 h hp h1 h2 h3 hk
  have hSl : S.length = (A5 c).length := by rw [← hS, Jw, Dc h]
  have hSr : ∀ v ∈ S, B8 v = v := by rw [← hS]; exact q5s
  have hl : ((Df ch (A5 c) pst).map fun s => Ag pin2.length ++ ([1] ++ s)).length = C3 ch := by rw [List.length_map, Ur]
  have hsplit : Po ch (A5 c) pin2 pst row = ((Df ch (A5 c) pst).map fun s => Ag pin2.length ++ ([1] ++ s)) ++ ([row] ++ ((pin2 ++ ([0] ++ Ag ch.length)) :: List.replicate (C3 ch) (Ag pin2.length ++ ([1] ++ Ag ch.length)))) := by
    unfold Po Nx
    rw [List.take_left' hl, List.drop_left' hl, List.append_assoc]
    rfl
  rw [hsplit, q7V, hE]
  have e2 : Do (C7 c ch) pst ([row] ++ ((pin2 ++ ([0] ++ Ag ch.length)) :: List.replicate (C3 ch) (Ag pin2.length ++ ([1] ++ Ag ch.length)))) = [q58 (C7 c ch) row pst] ++ Do (C7 c ch) S ((pin2 ++ ([0] ++ Ag ch.length)) :: List.replicate (C3 ch) (Ag pin2.length ++ ([1] ++ Ag ch.length))) := by
    rw [← hS]; rfl
  rw [e2, ← List.append_assoc, List.drop_append_of_le_length (by simp)]
  refine qC9 h hp h1 hSl hSr _ ?_
  rw [List.length_drop, List.length_append, Xw, hl]
  simp
end
end Go.Lg
namespace Go.Lg
open Go Go.Proofs
variable {Γ : Tables}
def ring : B9 := ⟨⟨[⟨0, ⟨[], some 0, some true⟩, 0, 0⟩, ⟨14, ⟨[3], some 1, some false⟩, 0, 0⟩, ⟨14, ⟨[1], some 1, some false⟩, 0, 0⟩, ⟨5, ⟨[0, 2], some 2, some false⟩, 0, 0⟩], some 4, some false⟩, ⟨[[97], [102], [103], [110]], some 4, some false⟩, ⟨[], some 0, some true⟩, ⟨[3], some 1, some false⟩⟩
def qDb : Sl (Sl Int) := ⟨[⟨[1, 2], some 2, some false⟩], some 1, some false⟩
theorem qGa : Ai Tryz.prog Γ 81 [] (.agg (tC ring)) := by
  refine Ap q9A rfl ?_
  simp [q4o, q4p, tC, Ac, Ah, Am, Aw, ring, As, Ae, C4, sV, tS, Ec]
theorem qFW : COk ring := ⟨⟨by decide, by decide, by decide, by decide, by decide, by decide, by decide⟩, by decide⟩
theorem qIJ : NOk ring := ⟨qFW, by decide +kernel, rfl, by decide, by decide, by decide, by decide⟩
theorem qIK : qD3 ring qDb := by
  refine ⟨qFW, ⟨by decide, by decide, by decide, by decide, by decide, by decide, rfl, ?_, ?_⟩, by decide, by decide, by decide, by decide, by decide, by decide, by decide, ?_, ?_, by decide, by decide +kernel⟩
  · intro x hx
    simp [ring] at hx
    rcases hx with rfl | rfl | rfl | rfl <;> exact ⟨by decide, by decide, by decide⟩
  · exact ⟨by decide, by decide, by decide⟩
  · refine ⟨⟨⟨by decide, by decide, by decide, by decide, by decide⟩, by decide, by decide, by decide, by decide, by decide, by decide, by decide⟩, trivial⟩
  · refine ⟨⟨by decide, by decide, by decide, by decide, by decide, by decide, by decide, by decide, by decide⟩, ⟨by decide, by decide, by decide, by decide, by decide, by decide, by decide, by decide, by decide⟩, trivial⟩
theorem q7Z {l : List Int} (h : l.all (fun v => decide (0 ≤ v) && decide (v ≤ 3)) = true) : ∀ v ∈ l, V4 v := fun v hv => by simpa [V4] using List.all_eq_true.1 h v hv
def rP : Pat := ⟨⟨[1], some 1, some false⟩, ⟨[0, 1], some 2, some false⟩⟩
theorem qJs : POk ring rP := ⟨by decide, by decide, q7Z (by decide), q7Z (by decide)⟩
theorem q6n (hΓ : GOk Γ) : Ai Tryz.prog Γ 28 [] (tB true) := by
  refine Ap q8A rfl ?_
  obtain ⟨s, k, n, en, hI, _⟩ := qC2 (Γ := Γ) hΓ qIK (by decide) (by decide)
  have e1 := q6l hΓ qIJ rP qJs (fun h => nomatch h) (fun h => nomatch h) ⟨[0], some 1, some false⟩ (by decide) (q7Z (by decide)) (fun h => nomatch h)
  have e2 := qA8 hΓ qIJ hI (by decide) rP qJs (fun h => nomatch h) (fun h => nomatch h) ⟨[0], some 1, some false⟩ (by decide) (q7Z (by decide)) (fun h => nomatch h) ⟨[1], some 1, some false⟩ (by decide) (q7Z (by decide))
  have e3 := qDa hI (by decide) (by decide) ⟨[1, 0], some 2, some false⟩ (by decide) (q7Z (by decide))
  have q1 : B7 ring (An ring rP.inn.l rP.st.l) = [1, 0] := by decide +kernel
  have q2 : Fb (A5 ring) rP.st.l qDb.l [1] (Ag (A5 ring).length) = [1, 0] := by decide +kernel
  have q3 : q2f (A5 ring) [1, 0] qDb.l (Ag (A5 ring).length) = [0, 2] := by decide +kernel
  have q4 : N1 (A5 ring) [1, 0] qDb.l = [1] := by decide +kernel
  simp only [q1, q2, q3, q4] at e1 e2 e3
  have r := qGa (Γ := Γ)
  generalize tC ring = R at *
  simp [Bn, qDb, rP, Uu, Ik, Ae, Aw, tV, tP] at e1 e2 e3
  simp [q33]
  refine A8 r rfl ?_
  simp
  refine A8 e1 rfl ?_
  simp
  refine A8 r rfl ?_
  simp
  refine A8 e2 rfl ?_
  simp
  refine A8 r rfl ?_
  simp
  refine A8 e3 rfl ?_
  simp [Ec]
  simp [q34, Ec]
end Go.Lg
namespace Go.Lg
open Go Go.Proofs Go.Proofs.YtgnomdkcimglbaaGreatDoor
def G0 (g : Nat) : Option (List T) := if g = 0 then some qFu else none
theorem qNG : GOk G0 := rfl
theorem qMW : Tryz.prog.globalNamed "probecard/logic.fanins" = some 0 := by kernel_rfl
theorem qKu : (Tryz.prog.globals[0]?).map (·.type) = some 209 := by kernel_rfl
theorem qKv : Tryz.prog.cellsOf 3 = 1 := by kernel_rfl
theorem qIL : Tryz.prog.cellsOf 4 = 1 := by kernel_rfl
theorem q26 : Tryz.prog.cellsOf 5 = 1 := by kernel_rfl
theorem qFX : Tryz.prog.cellsOf 22 = 2 := by kernel_rfl
theorem qFY : Tryz.prog.cellsOf 23 = 4 := by kernel_rfl
theorem qJI : Tryz.prog.cellsOf 24 = 1 := by kernel_rfl
theorem q27 : Tryz.prog.cellsOf 25 = 1 := by kernel_rfl
theorem qFZ : Tryz.prog.cellsOf 27 = 12 := by kernel_rfl
theorem qDc : Tryz.prog.cellsOf 106 = 3 := by kernel_rfl
theorem qDd : Tryz.prog.cellsOf 108 = 4 := by kernel_rfl
theorem qIM : Tryz.prog.cellsOf 208 = 2 := by kernel_rfl
theorem qIN : Tryz.prog.cellsOf 209 = 32 := by kernel_rfl
theorem qGb {W : World} (h : laidMet Tryz.prog [("probecard/logic.fanins", Rows.laid_probecard_logic_fanins)] W) : ∀ j, j < 32 → W.cell? ⟨0, j, none⟩ = (q9B.flatMap fun x => [Value.int .i64 x.1, Value.int .i64 x.2])[j]? := by
  obtain ⟨ps, ⟨g', t', cs, fuel, p, q, hg', ht', hvar, hd, _, _⟩, _⟩ := h
  obtain rfl := Option.some.inj (qMW.symm.trans hg')
  obtain rfl := Option.some.inj (qKu.symm.trans ht')
  have hc := qEB (l := q9B) Tryz.underlying209 Tryz.underlying208 Tryz.underlying3 qKv qIM qIN hd
  intro j hj
  have := World.var?_cell qMW hvar j
  rw [this, ← hc]
  simp
theorem qKw {W : World} (h : laidMet Tryz.prog [("probecard/logic.fanins", Rows.laid_probecard_logic_fanins)] W) : Gl G0 W (Old W) := by
  have hc := qGb h
  intro g cs hg
  unfold G0 at hg
  split at hg
  case isFalse => cases hg
  rename_i h0; subst h0
  simp only [Option.some.injEq] at hg
  subst hg
  have hlen : (q9B.flatMap fun x => [Value.int .i64 x.1, Value.int .i64 x.2]).length = 32 := rfl
  have hfc : qFu = (q9B.flatMap fun x => [Value.int .i64 x.1, Value.int .i64 x.2]).map T.v := rfl
  have hfl : qFu.length = 32 := rfl
  refine .ip qFu 0 0 0 (fun j => (q9B.flatMap fun x => [Value.int .i64 x.1, Value.int .i64 x.2])[j]?.getD .nilFunc) ?_ ?_ ?_ ?_
  · intro j hj
    rw [Nat.zero_add, hc j (by omega)]
    rw [List.getElem?_eq_getElem (by omega)]; rfl
  · intro j t ht
    rw [hfc, List.getElem?_map, Option.map_eq_some_iff] at ht
    obtain ⟨v, hv, rfl⟩ := ht
    simp only [hv, Option.getD_some]
    exact .v v
  · intro j t ht
    rw [hfc, List.getElem?_map, Option.map_eq_some_iff] at ht
    obtain ⟨v, hv, rfl⟩ := ht
    have hm := List.mem_of_getElem? hv
    obtain ⟨x, _, hx⟩ := List.mem_flatMap.1 hm
    simp at hx
    rcases hx with rfl | rfl <;> rfl
  · have := hc 0 (by omega)
    rw [List.getElem?_eq_getElem (by omega)] at this
    exact qEu this
theorem qKx {n : Int} (h : (Lit.int .u8 n).wf = true) : T9 n := by
  simp [Lit.wf, IntKind.min, IntKind.max, IntKind.signed, IntKind.bits] at h
  exact ⟨h.1, by omega⟩
theorem qCA : Rd Tryz.prog 5 fun ts => ∃ n, ts = [tK n] ∧ T9 n := (qKY Tryz.underlying5).mono fun ts ⟨n, h, hw⟩ => ⟨n, h, qKx hw⟩
theorem q6o {α : Type} {f : α → List T} {Q : α → Prop} : ∀ {es : List (List T)}, (∀ x ∈ es, ∃ a, x = f a ∧ Q a) → ∃ l : List α, es = l.map f ∧ ∀ a ∈ l, Q a
  | [], _ => ⟨[], rfl, by simp⟩
  | e :: es, h => by
    obtain ⟨a, ha, hq⟩ := h e List.mem_cons_self
    obtain ⟨l, hl, hql⟩ := q6o fun x hx => h x (List.mem_cons_of_mem _ hx)
    exact ⟨a :: l, by rw [ha, hl]; rfl, fun b hb => by rcases List.mem_cons.1 hb with rfl | hb; exact hq; exact hql b hb⟩
theorem qND : Rd Tryz.prog 108 fun ts => ∃ g, ts = tGd g ∧ q9N g := by
  refine (q15 (l := [(1, fun ts => ∃ n, ts = [tK n] ∧ T9 n), (3, q7i (List.replicate 3 (1, fun ts => ∃ n, ts = [tK n] ∧ T9 n)))]) Tryz.underlying108 qDd (.cons rfl q26 qCA (.cons rfl qDc (q97 Tryz.underlying106 q26 qDc qCA) (.nil _)))).mono fun ts h => ?_
  obtain ⟨_, _, rfl, ⟨k, rfl, hk⟩, _, _, rfl, ⟨_, _, rfl, ⟨a, rfl, ha⟩, _, _, rfl, ⟨b, rfl, hb⟩, _, _, rfl, ⟨d, rfl, hd⟩, rfl⟩, rfl⟩ := h
  exact ⟨⟨k, a, b, d⟩, rfl, hk, ha, hb, hd⟩
theorem qNE : Rd Tryz.prog 27 fun ts => ∃ x, ts = I9 x ∧ q2p x := by
  refine (q15 (l := [(1, fun ts => ∃ n, ts = [tK n] ∧ T9 n), (1, fun ts => ∃ n, ts = [tK n] ∧ T9 n), (2, q7i (List.replicate 2 (1, fun ts => ∃ n, ts = [tK n] ∧ T9 n))), (1, fun ts => ∃ b, ts = [tB b]), (1, fun ts => ∃ b, ts = [tB b]), (4, q7i (List.replicate 4 (1, fun ts => ∃ n, ts = [tK n] ∧ T9 n))), (1, _), (1, _)]) Tryz.underlying27 qFZ
    (.cons rfl q26 qCA (.cons rfl q26 qCA (.cons rfl qFX (q97 Tryz.underlying22 q26 qFX qCA) (.cons rfl qIL (qEv Tryz.underlying4) (.cons rfl qIL (qEv Tryz.underlying4) (.cons rfl qFY (q97 Tryz.underlying23 q26 qFY qCA)
      (.cons rfl qJI (q65 Tryz.underlying24 qDd (by decide) qND) (.cons rfl q27 (q65 Tryz.underlying25 q26 (by decide) qCA) (.nil _)))))))))).mono fun ts h => ?_
  obtain ⟨_, _, rfl, ⟨i, rfl, hi⟩, _, _, rfl, ⟨f, rfl, hf⟩, _, _, rfl, ⟨_, _, rfl, ⟨d0, rfl, hd0⟩, _, _, rfl, ⟨d1, rfl, hd1⟩, rfl⟩, _, _, rfl, ⟨bus, rfl⟩, _, _, rfl, ⟨mem, rfl⟩, _, _, rfl,
    ⟨_, _, rfl, ⟨p0, rfl, h0⟩, _, _, rfl, ⟨p1, rfl, h1⟩, _, _, rfl, ⟨p2, rfl, h2⟩, _, _, rfl, ⟨p3, rfl, h3⟩, rfl⟩, _, _, rfl, ⟨es, cap, nl, rfl, _, hes⟩, _, _, rfl, ⟨os, cap2, nl2, rfl, _, hos⟩, rfl⟩ := h
  obtain ⟨gs, rfl, hgs⟩ := q6o (f := tGd) (Q := q9N) fun x hx => (hes x hx).1
  obtain ⟨ol, rfl, hol⟩ := q6o (f := fun n => [tK n]) (Q := T9) fun x hx => (hos x hx).1
  exact ⟨⟨i, f, d0, d1, bus, mem, p0, p1, p2, p3, ⟨gs, cap, nl⟩, ⟨ol, cap2, nl2⟩⟩, rfl, ⟨hi, hf, hd0, hd1, h0, h1, h2, h3, hgs, hol⟩⟩
end Go.Lg
namespace Go.Proofs.YtgnomdkcimglbaaGreatDoor
open Go Go.Lg Go.ChangeShapes Go.WideShapes Go.ChangeAt Go.RowKit
theorem own : ownKnob Tryz.prog.godebug = none := by kernel_rfl
theorem qN1 : laidOutB Tryz.prog = true := by kernel_rfl
noncomputable def qBU (os : Os) : World :=
  { World.holding Tryz.prog os ⟨#[], #[], []⟩ with heap := (World.holding Tryz.prog os ⟨#[], #[], []⟩).heap.modify 0 fun
      | .cells _ t frozen => .cells (q9B.flatMap fun x => [Value.int .i64 x.1, Value.int .i64 x.2]).toArray t frozen
      | o => o }
def c0 : Value := .agg #[.int .u8 0, .int .u8 0, .int .u8 0, .int .u8 0, .bool false, .bool false, .int .u8 0, .int .u8 0, .int .u8 0, .int .u8 0, .slice none 0 0, .slice none 0 0]
def d0 {H : Type} : DataW H := .agg [.lit (.int .u8 0), .lit (.int .u8 0), .agg [.lit (.int .u8 0), .lit (.int .u8 0)], .lit (.bool false), .lit (.bool false), .agg [.lit (.int .u8 0), .lit (.int .u8 0), .lit (.int .u8 0), .lit (.int .u8 0)], .nil, .nil]
end Go.Proofs.YtgnomdkcimglbaaGreatDoor
namespace Go.Lg
open Go Go.Proofs Go.Proofs.YtgnomdkcimglbaaGreatDoor
theorem qCB : Tryz.prog.cellsOf 29 = 2 := by kernel_rfl
theorem q8i : Rd Tryz.prog 25 fun ts => ∃ s : Sl Int, ts = [tV s] ∧ ∀ b ∈ s.l, T9 b := by
  refine (q65 Tryz.underlying25 q26 (by decide) qCA).mono fun ts ⟨es, cap, nl, h, _, hes⟩ => ?_
  obtain ⟨l, rfl, hl⟩ := q6o (f := fun n : Int => [tK n]) (Q := T9) fun x hx => (hes x hx).1
  exact ⟨⟨l, cap, nl⟩, h, hl⟩
theorem qMX : Rd Tryz.prog 29 fun ts => ∃ q, ts = tPD q ∧ q6h q := by
  refine (q15 (l := [(1, fun ts => ∃ s : Sl Int, ts = [tV s] ∧ ∀ b ∈ s.l, T9 b), (1, fun ts => ∃ s : Sl Int, ts = [tV s] ∧ ∀ b ∈ s.l, T9 b)]) Tryz.underlying29 qCB
    (.cons rfl q27 q8i (.cons rfl q27 q8i (.nil _)))).mono fun ts h => ?_
  obtain ⟨_, _, rfl, ⟨a, rfl, ha⟩, _, _, rfl, ⟨b, rfl, hb⟩, rfl⟩ := h
  exact ⟨⟨a, b⟩, rfl, ha, hb⟩
end Go.Lg
namespace Go.Proofs.YtgnomdkcimglbaaGreatDoor
open Go Go.Lg Go.ChangeShapes Go.WideShapes Go.ChangeAt Go.RowKit
end Go.Proofs.YtgnomdkcimglbaaGreatDoor
namespace Go.Lg
open Go Go.Proofs Go.Proofs.YtgnomdkcimglbaaGreatDoor
theorem qFa : Tryz.prog.cellsOf 53 = 14 := by kernel_rfl
theorem qJt : Rd Tryz.prog 25 fun ts => ∃ s : Sl Int, ts = [.sl (Ae tK s.l) s.cap s.nl] ∧ ∀ b ∈ s.l, T9 b := by
  refine (q65 Tryz.underlying25 q26 (by decide) qCA).mono fun ts ⟨es, cap, nl, h, _, hes⟩ => ?_
  obtain ⟨l, rfl, hl⟩ := q6o (f := fun n => [tK n]) (Q := T9) fun x hx => (hes x hx).1
  exact ⟨⟨l, cap, nl⟩, h, hl⟩
theorem qKy : Rd Tryz.prog 53 fun ts => ∃ y, ts = La y ∧ q22 y := by
  refine (q15 (l := [(12, fun ts => ∃ x, ts = I9 x ∧ q2p x), (1, fun ts => ∃ s : Sl Int, ts = [.sl (Ae tK s.l) s.cap s.nl] ∧ ∀ b ∈ s.l, T9 b), (1, fun ts => ∃ s : Sl Int, ts = [.sl (Ae tK s.l) s.cap s.nl] ∧ ∀ b ∈ s.l, T9 b)]) Tryz.underlying53 qFa
    (.cons rfl qFZ qNE (.cons rfl q27 qJt (.cons rfl q27 qJt (.nil _))))).mono fun ts h => ?_
  obtain ⟨_, _, rfl, ⟨x, rfl, hx⟩, _, _, rfl, ⟨s, rfl, hs⟩, _, _, rfl, ⟨t, rfl, ht⟩, rfl⟩ := h
  exact ⟨⟨x, s, t⟩, by simp [La], hx, hs, ht⟩
end Go.Lg
namespace Go.Proofs.YtgnomdkcimglbaaGreatDoor
open Go Go.Lg Go.ChangeShapes Go.WideShapes Go.ChangeAt Go.RowKit
end Go.Proofs.YtgnomdkcimglbaaGreatDoor
namespace Go.Lg
open Go Go.Proofs Go.Proofs.YtgnomdkcimglbaaGreatDoor
theorem qJJ : Tryz.prog.cellsOf 55 = 20 := by kernel_rfl
theorem qKz : Rd Tryz.prog 55 fun ts => ∃ y p q sc fr, ts = Im y p q sc fr ∧ q22 y ∧ q6h p ∧ q6h q ∧ (∀ b ∈ sc.l, T9 b) ∧ ∀ b ∈ fr.l, T9 b := by
  refine (q15 (l := [(14, fun ts => ∃ y, ts = La y ∧ q22 y), (2, fun ts => ∃ q, ts = tPD q ∧ q6h q), (2, fun ts => ∃ q, ts = tPD q ∧ q6h q), (1, fun ts => ∃ s : Sl Int, ts = [tV s] ∧ ∀ b ∈ s.l, T9 b), (1, fun ts => ∃ s : Sl Int, ts = [tV s] ∧ ∀ b ∈ s.l, T9 b)]) Tryz.underlying55 qJJ
    (.cons rfl qFa qKy (.cons rfl qCB qMX (.cons rfl qCB qMX (.cons rfl q27 q8i (.cons rfl q27 q8i (.nil _))))))).mono fun ts h => ?_
  obtain ⟨_, _, rfl, ⟨y, rfl, hy⟩, _, _, rfl, ⟨p, rfl, hp⟩, _, _, rfl, ⟨q, rfl, hq⟩, _, _, rfl, ⟨s, rfl, hs⟩, _, _, rfl, ⟨t, rfl, ht⟩, rfl⟩ := h
  exact ⟨y, p, q, s, t, by simp [Im], hy, hp, hq, hs, ht⟩
end Go.Lg
namespace Go.Proofs.YtgnomdkcimglbaaGreatDoor
open Go Go.Lg Go.ChangeShapes Go.WideShapes Go.ChangeAt Go.RowKit
theorem qLf {H : Type} {enc : TypeId × Value → H} {W : World} {base : Nat} {v : Value} {d : DataW H} {p : List MemPlace} (hval : Value.okWide Tryz.prog W .any base 55 v) (h : DataW.Trod enc Tryz.prog W 0 (fun _ => true) true 55 v d p) : ∃ y p q sc fr, q22 y ∧ q6h p ∧ q6h q ∧ (∀ b ∈ sc.l, T9 b) ∧ (∀ b ∈ fr.l, T9 b) ∧ TR W (Old W) (.agg (Im y p q sc fr)) v := by
  simp only [Value.okWide, Tryz.underlying55] at hval
  obtain ⟨cs, rfl, _, _⟩ := hval
  obtain ⟨fuel, hf⟩ := h
  obtain ⟨ts, ⟨y, p, q, sc, fr, rfl, h1, h2, h3, h4, h5⟩, htr, ho⟩ := qKz H enc W true fuel _ _ hf
  exact ⟨y, p, q, sc, fr, h1, h2, h3, h4, h5, qKZ htr ho⟩
end Go.Proofs.YtgnomdkcimglbaaGreatDoor
namespace Go.Lg
open Go Go.Proofs
variable {Γ : Tables}
theorem q88 {s : Sl Int} (h : s.nl = some true → s.l = []) : (Uu s).l = s.l := qD0 s h
theorem qBV {p : Pat} : ∀ v ∈ (Ut p).st.l, B8 v = v := fun v hv => by
  obtain ⟨x, _, rfl⟩ := List.mem_map.1 hv
  exact Xv
theorem qJK {c : B9} (hl : Bi c = 0) {p : Pat} (hP : POk c p) : ∀ v ∈ B7 c (An c p.inn.l p.st.l), V4 v := fun v hv => by
  obtain ⟨n, _, rfl⟩ := List.mem_map.1 hv
  exact qI7 fun x hx => (qFR hl hP x hx).1
set_option maxHeartbeats 2000000 in
theorem qGc (hΓ : GOk Γ) (y : q0d) (hy : q22 y) (p : PD) (hp : q6h p) (q : PD) (hq : q6h q) (sc : Sl Int) (hsc : ∀ b ∈ sc.l, T9 b) (fr : Sl Int) (hfr : ∀ b ∈ fr.l, T9 b) : Ai Tryz.prog Γ 11 [.agg (Im y p q sc fr)] (tB true) := by
  refine Ap Zq rfl ?_
  have hx := q1i hy.x
  have hpl : Ei (Fa y) = 0 := q7M hx rfl
  have hc : NOk (Fa y) := qHq hx rfl
  have e1 := q82 (Γ := Γ) y hy
  have hS := q7O hy
  have hsm := q9w hy
  have ho1 : 1 ≤ (Fa y).outs.l.length := by simp [Fa, Ld]
  have hpos : 0 < (Az (Fa y)).length := qHx hx
  have e7 := fun h1 h2 => qBS (Γ := Γ) y p q sc fr (Fa y) h1 h2
  generalize Fa y = c at *
  generalize q23 y = ch at *
  have hn2 := hS.n2
  have hsl := Eu c
  have hil := Jf c
  have hos := hS.outs.1
  have hP := q8f hp c
  have hQ := q8f hq c
  have hPi : q0s (Up p c).inn := q8e (by omega)
  have hQi : q0s (Up q c).inn := q8e (by omega)
  have ep := q24 (Γ := Γ) p hp c hS.ok
  have eq := q24 (Γ := Γ) q hq c hS.ok
  have e7 := e7 hS.ok (by omega)
  generalize Up p c = P at *
  generalize Up q c = Q at *
  have ek := qA6 (Γ := Γ) P (by rw [hP.s]; omega)
  have hK := qDT hP
  have hkf := qBV (p := P)
  have hKi : q0s (Ut P).inn := hPi
  have hKs : (Ut P).st.nl = some true → (Ut P).st.l = [] := fun h => nomatch h
  generalize Ut P = K at *
  have ec := q6l hΓ hc K hK hKi.1 hKs Q.inn (by rw [hQ.i, hK.i]) hQ.vi hQi.1
  have er := qBz hΓ hc hK
  have c1 := q88 hKi.1
  have c2 := q88 hKs
  have c3 := q88 hQi.1
  have hN4 := qJK hc.lev hK
  have hNl : (B7 c (An c K.inn.l K.st.l)).length = (A5 c).length := Jw
  have hS0 : B7 (C7 c ch) (An (C7 c ch) (Xr 0 ch.length K.inn.l []) K.st.l) = B7 c (An c K.inn.l K.st.l) := qDK hS hc.lev hK.i hK.s Cj
  have hol1 : (Ip c (An c K.inn.l K.st.l)).length ≤ 4 := by unfold Ip; rw [List.length_map]; exact hos
  generalize Ip c (An c K.inn.l K.st.l) = O1 at *
  generalize B7 c (An c K.inn.l K.st.l) = N at *
  generalize An c K.inn.l K.st.l = M1 at *
  have c4 : (Uu ⟨N, some N.length, none⟩).l = N := q88 fun h => nomatch h
  have hP2 : POk c ⟨Uu Q.inn, Uu ⟨N, some N.length, none⟩⟩ := ⟨by rw [c3]; exact hQ.i, by rw [c4]; exact hNl, by rw [c3]; exact hQ.vi, by rw [c4]; exact hN4⟩
  have hP1 : POk c ⟨Uu K.inn, Uu K.st⟩ := ⟨by rw [c1]; exact hK.i, by rw [c2]; exact hK.s, by rw [c1]; exact hK.vi, by rw [c2]; exact hK.vs⟩
  have ew := qBz hΓ hc hP2
  have hfl : (Ed fr.l (A5 c).length 4).length = (A5 c).length := Md
  have hf4 : ∀ v ∈ Ed fr.l (A5 c).length 4, V4 v := q8d (fun v hv => (hfr v hv).1) (by omega)
  have ea := q85 hΓ (chs := ⟨ch, none, none⟩) hS hc hpl hsm ho1 hpos 0 (.inl rfl) ⟨Uu K.inn, Uu K.st⟩ ⟨Uu Q.inn, Uu ⟨N, some N.length, none⟩⟩ hP1 hP2 ⟨[], some 0, some true⟩ (by simp) (by simp) ⟨Ed fr.l (A5 c).length 4, none, none⟩ ⟨hfl, hf4⟩ (fun h => nomatch h) _ rfl
  simp only [c1, c2, c3, c4] at ea ew
  have hap := qAB (pin2 := Q.inn.l) hS hc.lev hQ.i hfl hK.s hkf hS0
  rw [hap.1, hap.2] at ea
  have hol2 : (Ip c (An c Q.inn.l N)).length ≤ 4 := by unfold Ip; rw [List.length_map]; exact hos
  have hnl2 : (B7 c (An c Q.inn.l N)).length ≤ 16 := by rw [Jw]; omega
  generalize Ip c (An c Q.inn.l N) = O2 at *
  generalize B7 c (An c Q.inn.l N) = N2 at *
  generalize An c Q.inn.l N = M2 at *
  generalize Ed fr.l (A5 c).length 4 = S0 at *
  have s1 := G3 (Γ := Γ) (Uu ⟨N, some N.length, none⟩) ⟨N, some N.length, none⟩ c4 (by rw [c4]; omega)
  have s2 := G3 (Γ := Γ) (Uu Q.inn) Q.inn c3 (by rw [c3, hQ.i]; omega)
  have s3 := G3 (Γ := Γ) (Uu K.inn) K.inn c1 (by rw [c1, hK.i]; omega)
  have s4 := G3 (Γ := Γ) (Uu K.st) K.st c2 (by rw [c2, hK.s]; omega)
  have s5 := G3 (Γ := Γ) ⟨O2, some O2.length, none⟩ ⟨O2, some O2.length, none⟩ rfl (by show O2.length ≤ _; omega)
  have s6 := G3 (Γ := Γ) ⟨N2, some N2.length, none⟩ ⟨N2, some N2.length, none⟩ rfl (by show N2.length ≤ _; omega)
  generalize Uu K.inn = A1 at *
  generalize Uu K.st = A2 at *
  generalize Uu Q.inn = A3 at *
  generalize Uu ⟨N, some N.length, none⟩ = A4 at *
  simp only [tV] at s1 s2 s3 s4 s5 s6
  simp [La, I9] at e1
  simp [tPD, tV] at ep eq
  simp [Im, La, I9, tPD, tV] at e7
  simp [tC, Ac, Ah, Am, Aw, Bn, tP, tV, Pl, Dh] at ep eq ek ec er ew ea e7
  simp [Oa, Im, La, I9, tPD, tV]
  refine A8 e1 rfl ?_
  simp [tC, Ac, Ah, Am, Aw, Bn]
  refine A8 ep rfl ?_
  simp
  refine A8 ek rfl ?_
  simp
  refine A8 eq rfl ?_
  simp
  refine A8 ec rfl ?_
  simp
  refine A8 er rfl ?_
  simp
  refine A8 ew rfl ?_
  simp
  refine A8 e7 rfl ?_
  simp
  refine A8 ea rfl ?_
  simp
  refine A6 s1 rfl ?_
  simp
  refine A6 s2 rfl ?_
  simp
  refine A6 s3 rfl ?_
  simp
  refine A6 s4 rfl ?_
  simp
  refine A6 s5 rfl ?_
  simp
  refine A6 s6 rfl ?_
  simp
  refine A8 (q6n hΓ) rfl ?_
  simp [Ob, Ak]
def shH (a8 b8 c8 d1 d2 d3 d4 a5 : T) (pst S : Sl Int) : List (Nat × Bl) := [(5, .bx [.t a5, .t (tV pst)]), (8, .bx [.t a8, .t b8, .t c8, .t (tV S)]), (10, .bx [.t d1, .t d2]), (13, .bx [.t d3, .t d4])]
def shE (chs : Sl (Sl Int)) (scan : Sl Int) (st : List Int) (sc : Option Nat) (sn : Option Bool) (k : Nat) : List (Nat × AV) := [(4, .t (Bn chs)), (5, .lp 5 0 0), (7, .t (tV scan)), (8, .lp 8 0 0), (10, .lp 10 0 0), (13, .lp 13 0 0), (15, .t (.sl (Ao st) sc sn)), (16, .t (tI k))]
theorem qIO {Q : AX → St → Prop} (a8 b8 c8 d1 d2 d3 d4 a5 : T) (pst S scan : Sl Int) (chs : Sl (Sl Int)) (hch : chs.l.length ≤ 1000000) (k : Nat) (hk : k < chs.l.length) (s : Sl Int) (hs : chs.l.getD k Jj = s) (m : Nat) (hm : m < s.l.length) (st : List Int) (sc : Option Nat) (sn : Option Bool) (hst : st.length ≤ 1000000) (hpl : pst.l.length = st.length) (hSl : S.l.length = st.length)
    (j : Nat) (v0 : Int) (hj : j < st.length) (hjm : ∀ q, q < st.length → (st.getD q 0 = s.l.getD m 0 ↔ q = j)) (hv : S.l.getD j 0 = v0)
    (h0 : Q (.exit 4) ⟨shE chs scan st sc sn k ++ [(17, .t (tK (pst.l.getD j 0))), (18, .t (tI m)), (19, .t (tI st.length)), (120, .t (tB false))], shH a8 b8 c8 d1 d2 d3 d4 a5 pst S⟩) :
    ∀ (f q : Nat) (v : Int), f + q = st.length → v = (if q ≤ j then v0 else pst.l.getD j 0) → run Tryz.prog Γ Fe Q ⟨shE chs scan st sc sn k ++ [(17, .t (tK v)), (18, .t (tI m)), (19, .t (tI q))], shH a8 b8 c8 d1 d2 d3 d4 a5 pst S⟩
  | 0, q, v, h, hq => by
    refine Le fun K hK => ?_
    have h2 : q = st.length := by omega
    subst h2
    rw [if_neg (by omega)] at hq
    subst hq
    simp [shE, shH, Bn, tV, A0] at h0
    simp [shE, shH, Bn, tV, A0]
    simpa using h0
  | f + 1, q, v, h, hq => by
    refine Le fun K hK => ?_
    have h2 : q < st.length := by omega
    have e1 := gE (f := tI) 0 h2
    have e1' := gE' (f := tI) 0 h2
    have e2 := gE (f := Aw) Jj hk
    have e2' := gE' (f := Aw) Jj hk
    rw [hs] at e2 e2'
    have e3 := gE (f := tI) 0 hm
    have e3' := gE' (f := tI) 0 hm
    have hx := hjm q h2
    have w1 : IntKind.i64.wrap ((q : Int) + 1) = (q : Int) + 1 := by rw [A7] <;> omega
    simp only [Aw] at e2 e2'
    by_cases hqj : q = j
    · subst hqj
      have hxx := hx.2 rfl
      rw [if_pos (Nat.le_refl _)] at hq
      subst hq
      have ih := qIO a8 b8 c8 d1 d2 d3 d4 a5 pst S scan chs hch k hk s hs m hm st sc sn hst hpl hSl q v hj hjm hv h0 f (q + 1) (pst.l.getD q 0) (by omega) (by rw [if_neg (by omega)])
      have hqp : q < pst.l.length := by omega
      have hqS : q < S.l.length := by omega
      have e4 := gE (f := tK) 0 hqp
      have e4' := gE' (f := tK) 0 hqp
      have e5 := gE (f := tK) 0 hqS
      have e5' := gE' (f := tK) 0 hqS
      rw [hv] at e5 e5'
      generalize st.getD q 0 = x at *
      generalize s.l.getD m 0 = y at *
      generalize pst.l.getD q 0 = z at *
      subst hxx
      simp [shE, shH, Bn, tV] at ih
      simp [shE, shH, Bn, tV, Aw, A0, Aa, h2, hk, hm, e1, e1', e2, e2', e3, e3', hpl, hSl, e4, e4', e5, e5', w1]
      rw [hK]
      simpa using ih
    · have hxx : ¬ st.getD q 0 = s.l.getD m 0 := fun e => hqj (hx.1 e)
      have ih := qIO a8 b8 c8 d1 d2 d3 d4 a5 pst S scan chs hch k hk s hs m hm st sc sn hst hpl hSl j v0 hj hjm hv h0 f (q + 1) v (by omega) (by rw [hq]; split <;> split <;> first | rfl | omega)
      generalize st.getD q 0 = x at *
      generalize s.l.getD m 0 = y at *
      simp [shE, shH, Bn, tV] at ih
      simp [shE, shH, Bn, tV, Aw, A0, Aa, h2, hk, hm, e1, e1', e2, e2', e3, e3', hxx, w1]
      rw [hK]
      simpa using ih
section
variable (c : B9) (ch : List (Sl Int)) (pst S scan : Sl Int)
def qL0 : Prop := ∀ k, k < ch.length → ∀ m, m < (ch.getD k Jj).l.length → S.l.getD (Us c ch k m) 0 = if m = 0 then B8 (scan.l.getD k 0) else pst.l.getD (Us c ch k (m - 1)) 0
end
theorem qJu {Q : AX → St → Prop} {c : B9} {ch : List (Sl Int)} (hS : Em c ch) (a8 b8 c8 d1 d2 d3 d4 a5 : T) (pst S scan : Sl Int) (cc : Option Nat) (cn : Option Bool) (hch : ch.length ≤ 1000000) (k : Nat) (hk : k < ch.length) (s : Sl Int) (hs : ch.getD k Jj = s) (hsl : s.l.length ≤ 1000000) (sc : Option Nat) (sn : Option Bool) (hst : (A5 c).length ≤ 1000000) (hpl : pst.l.length = (A5 c).length) (hSl : S.l.length = (A5 c).length)
    (hok : qL0 c ch pst S scan)
    (h0 : ∀ v, Q (.exit 2) ⟨shE ⟨ch, cc, cn⟩ scan (A5 c) sc sn k ++ [(17, .t (tK v)), (18, .t (tI s.l.length)), (114, .t (tB false))], shH a8 b8 c8 d1 d2 d3 d4 a5 pst S⟩) :
    ∀ (f m : Nat), f + m = s.l.length → run Tryz.prog Γ Ff Q ⟨shE ⟨ch, cc, cn⟩ scan (A5 c) sc sn k ++ [(17, .t (tK (if m = 0 then B8 (scan.l.getD k 0) else pst.l.getD (Us c ch k (m - 1)) 0))), (18, .t (tI m))], shH a8 b8 c8 d1 d2 d3 d4 a5 pst S⟩
  | 0, m, h => by
    refine Lh fun K hK => ?_
    have h2 : m = s.l.length := by omega
    subst h2
    have h0 := h0 (if s.l.length = 0 then B8 (scan.l.getD k 0) else pst.l.getD (Us c ch k (s.l.length - 1)) 0)
    generalize (if s.l.length = 0 then B8 (scan.l.getD k 0) else pst.l.getD (Us c ch k (s.l.length - 1)) 0) = v at *
    have e2 := gE (f := Aw) Jj hk
    have e2' := gE' (f := Aw) Jj hk
    rw [hs] at e2 e2'
    simp only [Aw] at e2 e2'
    simp [shE, shH, Bn, tV] at h0
    simp [shE, shH, Bn, tV, Aw, A0, Aa, hk, e2, e2']
    simpa using h0
  | f + 1, m, h => by
    refine Lh fun K hK => ?_
    have h2 : m < s.l.length := by omega
    have ih := qJu hS a8 b8 c8 d1 d2 d3 d4 a5 pst S scan cc cn hch k hk s hs hsl sc sn hst hpl hSl hok h0 f (m + 1) (by omega)
    have hm' : m < (ch.getD k Jj).l.length := by rw [hs]; exact h2
    have hpos := q7W hS hk hm'
    have hv := hok k hk m hm'
    rw [if_neg (Nat.succ_ne_zero m), Nat.add_sub_cancel] at ih
    have hjm : ∀ q, q < (A5 c).length → ((A5 c).getD q 0 = s.l.getD m 0 ↔ q = Us c ch k m) := fun q hq => by
      have hat := qA2 hS hk hm'
      unfold q2e at hat
      rw [hs] at hat
      rw [← hat]
      exact ⟨fun e => q9u (Dz [14] c.nodes.l 0).2 hq hpos e, fun e => by rw [e]⟩
    have g := fun Q h0 => qIO (Γ := Γ) (Q := Q) a8 b8 c8 d1 d2 d3 d4 a5 pst S scan ⟨ch, cc, cn⟩ hch k hk s hs m h2 (A5 c) sc sn hst hpl hSl (Us c ch k m) _ hpos hjm hv h0 (A5 c).length 0 _ (by omega) (by rw [if_pos (Nat.zero_le _)])
    generalize (if m = 0 then B8 (scan.l.getD k 0) else pst.l.getD (Us c ch k (m - 1)) 0) = v at *
    generalize pst.l.getD (Us c ch k m) 0 = v2 at *
    generalize Us c ch k m = j at *
    have e2 := gE (f := Aw) Jj hk
    have e2' := gE' (f := Aw) Jj hk
    rw [hs] at e2 e2'
    simp only [Aw] at e2 e2'
    have w1 : IntKind.i64.wrap ((m : Int) + 1) = (m : Int) + 1 := by rw [A7] <;> omega
    simp [shE, shH, Bn, tV] at ih g
    simp [shE, shH, Bn, tV, Aw, A0, Aa, hk, h2, e2, e2']
    refine g _ ?_
    simp [w1]
    rw [hK]
    simpa using ih
theorem qJv {Q : AX → St → Prop} {c : B9} {ch : List (Sl Int)} (hS : Em c ch) (a8 b8 c8 d1 d2 d3 d4 a5 : T) (pst S scan : Sl Int) (cc : Option Nat) (cn : Option Bool) (hch : ch.length ≤ 1000000) (hs : ∀ k, k < ch.length → (ch.getD k Jj).l.length ≤ 1000000) (sc : Option Nat) (sn : Option Bool) (hst : (A5 c).length ≤ 1000000) (hpl : pst.l.length = (A5 c).length) (hSl : S.l.length = (A5 c).length) (hsc : scan.l.length = ch.length)
    (hok : qL0 c ch pst S scan)
    (h0 : Q (.exit 0) ⟨shE ⟨ch, cc, cn⟩ scan (A5 c) sc sn ch.length ++ [(99, .t (tB false))], shH a8 b8 c8 d1 d2 d3 d4 a5 pst S⟩) :
    ∀ (f k : Nat), f + k = ch.length → run Tryz.prog Γ Fg Q ⟨shE ⟨ch, cc, cn⟩ scan (A5 c) sc sn k, shH a8 b8 c8 d1 d2 d3 d4 a5 pst S⟩
  | 0, k, h => by
    refine Lj fun K hK => ?_
    have h2 : k = ch.length := by omega
    subst h2
    simp [shE, shH, Bn, tV] at h0
    simp [shE, shH, Bn, tV, A0]
    simpa using h0
  | f + 1, k, h => by
    refine Lj fun K hK => ?_
    have h2 : k < ch.length := by omega
    have h3 : k < scan.l.length := by omega
    have ih := qJv hS a8 b8 c8 d1 d2 d3 d4 a5 pst S scan cc cn hch hs sc sn hst hpl hSl hsc hok h0 f (k + 1) (by omega)
    have g := fun Q h0 => qJu (Γ := Γ) (Q := Q) hS a8 b8 c8 d1 d2 d3 d4 a5 pst S scan cc cn hch k h2 _ rfl (hs k h2) sc sn hst hpl hSl hok h0 (ch.getD k Jj).l.length 0 (by omega)
    simp only [if_pos] at g
    have e1 := gE (f := tK) 0 h3
    have e1' := gE' (f := tK) 0 h3
    generalize scan.l.getD k 0 = v at *
    have w1 : IntKind.i64.wrap ((k : Int) + 1) = (k : Int) + 1 := by rw [A7] <;> omega
    simp [shE, shH, Bn, tV] at ih g
    by_cases hv : 1 < v
    · have hr : B8 v = 2 := by unfold B8; rw [if_neg (by omega)]
      rw [hr] at g
      simp [shE, shH, Bn, tV, A0, Aa, h2, h3, e1, e1', hv]
      refine g _ (fun w => ?_)
      simp [w1]
      rw [hK]
      simpa using ih
    · have hr : B8 v = v := by unfold B8; rw [if_pos (by omega)]
      rw [hr] at g
      simp [shE, shH, Bn, tV, A0, Aa, h2, h3, e1, e1', hv]
      refine g _ (fun w => ?_)
      simp [w1]
      rw [hK]
      simpa using ih
theorem qJL {l : List Int} {n : Nat} (hl : ∀ b ∈ l, 0 ≤ b) : ∀ v ∈ q47 l n, V4 v := fun v hv => by
  obtain ⟨i, _, rfl⟩ := List.mem_map.1 hv
  split
  · simp [V4]
  · rename_i h
    have hpos : 0 < l.length := List.length_pos_iff.2 h
    have hx := hl (l.getD (i % l.length) 0) (by rw [B2 (Nat.mod_lt _ hpos)]; exact List.getElem_mem _)
    generalize l.getD (i % l.length) 0 = x at *
    show 0 ≤ x.tmod 4 ∧ x.tmod 4 ≤ 3
    rw [Int.tmod_eq_emod_of_nonneg hx]
    omega
set_option maxHeartbeats 2000000 in
theorem qIR (hΓ : GOk Γ) (y : q0d) (hy : q22 y) (p : PD) (hp : q6h p) (q : PD) (hq : q6h q) (sc : Sl Int) (hsc : ∀ b ∈ sc.l, T9 b) (fr : Sl Int) (hfr : ∀ b ∈ fr.l, T9 b) : Ai Tryz.prog Γ 12 [.agg (Im y p q sc fr)] (tB true) := by
  refine Ap q16 rfl ?_
  have hx := q1i hy.x
  have hpl : Ei (Fa y) = 0 := q7M hx rfl
  have hc : NOk (Fa y) := qHq hx rfl
  have e1 := q82 (Γ := Γ) y hy
  have hS := q7O hy
  have hsm := q9w hy
  have ho1 : 1 ≤ (Fa y).outs.l.length := by simp [Fa, Ld]
  have hpos : 0 < (Az (Fa y)).length := qHx hx
  have e7 := fun h1 h2 => qBS (Γ := Γ) y p q sc fr (Fa y) h1 h2
  generalize Fa y = c at *
  have e8 := fun h => qGW (Γ := Γ) y p q sc fr ⟨q23 y, none, none⟩ h
  generalize q23 y = ch at *
  have hn2 := hS.n2
  have hsl := Eu c
  have hil := Jf c
  have hos := hS.outs.1
  have hP := q8f hp c
  have hQ := q8f hq c
  have hPi : q0s (Up p c).inn := q8e (by omega)
  have hQi : q0s (Up q c).inn := q8e (by omega)
  have ep := q24 (Γ := Γ) p hp c hS.ok
  have eq := q24 (Γ := Γ) q hq c hS.ok
  have e7 := e7 hS.ok (by omega)
  have hle := q1g ch fun s hs => (hS.ne s hs).1
  have hpe := hS.perm.length_eq
  have e8 := e8 (by show ch.length ≤ _; omega)
  have hs6 : ∀ s ∈ ch, s.l.length ≤ 1000000 := fun s hs => by have := hle.2 s hs; omega
  have hs7 : ∀ k, k < ch.length → (ch.getD k Jj).l.length ≤ 1000000 := fun k hk => hs6 _ (by rw [List.getD_eq_getElem?_getD, List.getElem?_eq_getElem hk]; exact List.getElem_mem _)
  have hins := qDG hS hpl none none
  obtain ⟨s, k, n, en, hI, h3⟩ := qC2 (Γ := Γ) hΓ hins (by omega) hs6
  have hmem : ∀ s ∈ ch, ∀ n ∈ s.l, n ∈ A5 c := fun s hs n hn => hS.perm.mem_iff.1 (List.mem_flatten.2 ⟨s.l, List.mem_map.2 ⟨s, hs, rfl⟩, hn⟩)
  generalize Up p c = P at *
  generalize Up q c = Q at *
  have ek := qA6 (Γ := Γ) P (by rw [hP.s]; omega)
  have hK := qDT hP
  have hkf := qBV (p := P)
  have hKi : q0s (Ut P).inn := hPi
  have hKs : (Ut P).st.nl = some true → (Ut P).st.l = [] := fun h => nomatch h
  generalize Ut P = K at *
  have hvl : (q47 sc.l ch.length).length = ch.length := qBR
  have hv4 := qJL (l := sc.l) (n := ch.length) fun b hb => (hsc b hb).1
  simp only at e8
  generalize q47 sc.l ch.length = V at *
  have ec := qA8 hΓ hc hI hmem K hK hKi.1 hKs Q.inn (by rw [hQ.i, hK.i]) hQ.vi hQi.1 ⟨V, none, none⟩ hvl hv4
  have c1 := q88 hKi.1
  have c2 := q88 hKs
  have c3 := q88 hQi.1
  have hN4 := qC8 (st := A5 c) hK.vs (ch := ch) hv4 (qII (n := (A5 c).length))
  have hNl : (Fb (A5 c) K.st.l ch V (Ag (A5 c).length)).length = (A5 c).length := by rw [Xy, Cj]
  have hS0 : B7 (C7 c ch) (An (C7 c ch) (Xr 1 ch.length K.inn.l V) K.st.l) = Fb (A5 c) K.st.l ch V (Ag (A5 c).length) := qGZ hS hc.lev hK.i hK.s hvl
  have hat := fun k m hk hm => qAA (st := A5 c) (pst := K.st.l) (vs := V) (out := Ag (A5 c).length) (k := k) (m := m) hvl (fun n hn => hS.perm.mem_iff.1 hn) (q6m hS) Cj hk hm
  generalize Fb (A5 c) K.st.l ch V (Ag (A5 c).length) = N at *
  have c4 : (Uu ⟨N, none, none⟩).l = N := q88 fun h => nomatch h
  have hok : qL0 c ch K.st (Uu ⟨N, none, none⟩) ⟨V, none, none⟩ := fun k hk m hm => by
    rw [c4]
    refine (hat k m hk hm).trans ?_
    split
    · rfl
    · rename_i hm0
      refine hkf _ ?_
      have := q7W hS hk (m := m - 1) (by omega)
      unfold Us q2e at this
      rw [B2 (by rw [hK.s]; exact this)]
      exact List.getElem_mem _
  clear hat
  have hP2 : POk c ⟨Uu Q.inn, Uu ⟨N, none, none⟩⟩ := ⟨by rw [c3]; exact hQ.i, by rw [c4]; exact hNl, by rw [c3]; exact hQ.vi, by rw [c4]; exact hN4⟩
  have hP1 : POk c ⟨Uu K.inn, Uu K.st⟩ := ⟨by rw [c1]; exact hK.i, by rw [c2]; exact hK.s, by rw [c1]; exact hK.vi, by rw [c2]; exact hK.vs⟩
  have ew := qBz hΓ hc hP2
  have hfl : (Ed fr.l (A5 c).length 4).length = (A5 c).length := Md
  have hf4 : ∀ v ∈ Ed fr.l (A5 c).length 4, V4 v := q8d (fun v hv => (hfr v hv).1) (by omega)
  have ea := q85 hΓ (chs := ⟨ch, none, none⟩) hS hc hpl hsm ho1 hpos 1 (.inr rfl) ⟨Uu K.inn, Uu K.st⟩ ⟨Uu Q.inn, Uu ⟨N, none, none⟩⟩ hP1 hP2 ⟨V, none, none⟩ (by simpa using hvl) hv4 ⟨Ed fr.l (A5 c).length 4, none, none⟩ ⟨hfl, hf4⟩ (fun h => nomatch h) _ rfl
  simp only [c1, c2, c3, c4] at ea ew
  have hap := qAB (pin2 := Q.inn.l) hS hc.lev hQ.i hfl hK.s hkf hS0
  rw [hap.1, hap.2] at ea
  have hol2 : (Ip c (An c Q.inn.l N)).length ≤ 4 := by unfold Ip; rw [List.length_map]; exact hos
  have hnl2 : (B7 c (An c Q.inn.l N)).length ≤ 16 := by rw [Jw]; omega
  have es := D9 (Γ := Γ) c hS.ok
  have g5 := fun Q a8 b8 c8 d1 d2 d3 d4 a5 sc sn h0 => qJv (Γ := Γ) (Q := Q) hS a8 b8 c8 d1 d2 d3 d4 a5 K.st (Uu ⟨N, none, none⟩) ⟨V, none, none⟩ none none (by omega) hs7 sc sn (by omega) hK.s (by rw [c4]; exact hNl) hvl hok h0 ch.length 0 (by omega)
  clear hok
  generalize Ip c (An c Q.inn.l N) = O2 at *
  generalize B7 c (An c Q.inn.l N) = N2 at *
  generalize An c Q.inn.l N = M2 at *
  generalize Ed fr.l (A5 c).length 4 = S0 at *
  have s2 := G3 (Γ := Γ) (Uu Q.inn) Q.inn c3 (by rw [c3, hQ.i]; omega)
  have s4 := G3 (Γ := Γ) (Uu K.st) K.st c2 (by rw [c2, hK.s]; omega)
  have s5 := G3 (Γ := Γ) ⟨O2, some O2.length, none⟩ ⟨O2, some O2.length, none⟩ rfl (by show O2.length ≤ _; omega)
  have s6 := G3 (Γ := Γ) ⟨N2, some N2.length, none⟩ ⟨N2, some N2.length, none⟩ rfl (by show N2.length ≤ _; omega)
  generalize Uu K.inn = A1 at *
  generalize Uu K.st = A2 at *
  generalize Uu Q.inn = A3 at *
  generalize Uu ⟨N, none, none⟩ = A4 at *
  simp only [tV] at s2 s4 s5 s6
  simp [La, I9] at e1
  simp [tPD, tV] at ep eq
  simp [Im, La, I9, tPD, tV] at e7 e8
  simp [tC, Ac, Ah, Am, Aw, Bn, tP, tV, Pl, Dh] at ep eq ek ec ew ea e7 e8 es
  simp [shE, shH, Bn, tV] at g5
  simp [Qz, Im, La, I9, tPD, tV]
  refine A8 e1 rfl ?_
  simp [tC, Ac, Ah, Am, Aw, Bn]
  refine A8 ep rfl ?_
  simp
  refine A8 ek rfl ?_
  simp
  refine A8 eq rfl ?_
  simp
  refine A8 e8 rfl ?_
  simp
  refine A8 ec rfl ?_
  simp
  refine A8 ew rfl ?_
  simp
  refine A8 e7 rfl ?_
  simp
  refine A8 ea rfl ?_
  simp
  refine A6 s2 rfl ?_
  simp
  refine A6 s4 rfl ?_
  simp
  refine A8 es rfl ?_
  simp
  refine g5 _ _ _ _ _ _ _ _ _ _ _ ?_
  simp
  refine A6 s5 rfl ?_
  simp
  refine A6 s6 rfl ?_
  simp
  refine A8 (q6n hΓ) rfl ?_
  simp [R7, Ak]
end Go.Lg
namespace Go.Proofs.YtgnomdkcimglbaaGreatDoor
open Go Go.Lg Go.ChangeShapes Go.WideShapes Go.ChangeAt Go.RowKit
theorem q28 {P : Program} {x : String × DataW Unit} {l : List (String × DataW Unit)} {w : World} (h : laidMet P (x :: l) w) : laidMet P l w := by
  obtain ⟨ps, hv, hn, hm⟩ := h
  obtain ⟨n, d⟩ := x
  obtain ⟨g, t, cs, fuel, p, q, h1, h2, h3, h4, h5, rfl⟩ := hv
  exact ⟨q, h5, (List.nodup_append.1 hn).2.1, fun b off hq => hm b off (List.mem_append_right _ hq)⟩
theorem qNF {W : World} (h : laidMetH Tryz.prog [("math/bits.deBruijn32tab", Rows.laid_math_bits_deBruijn32tab), ("math/bits.deBruijn64tab", Rows.laid_math_bits_deBruijn64tab), ("internal/strconv.uint64pow10", Rows.laid_internal_strconv_uint64pow10), ("probecard/logic.fanins", Rows.laid_probecard_logic_fanins)] W) : Gl G0 W (Old W) := by
  rw [MakeChecks.laidMetH_plain _ _ _ (by kernel_rfl)] at h
  exact qKw (q28 (q28 (q28 h)))
noncomputable def qL1 (os : Os) : World :=
  { qBU os with heap := (((qBU os).heap.modify 2 fun
      | .cells _ t frozen => .cells ([.int .u64 1, .int .u64 10, .int .u64 100, .int .u64 1000, .int .u64 10000, .int .u64 100000, .int .u64 1000000, .int .u64 10000000, .int .u64 100000000, .int .u64 1000000000, .int .u64 10000000000, .int .u64 100000000000, .int .u64 1000000000000, .int .u64 10000000000000, .int .u64 100000000000000, .int .u64 1000000000000000, .int .u64 10000000000000000, .int .u64 100000000000000000, .int .u64 1000000000000000000, .int .u64 10000000000000000000] : List Value).toArray t frozen
      | o => o).modify 3 fun
      | .cells _ t frozen => .cells ([.int .u8 0, .int .u8 1, .int .u8 28, .int .u8 2, .int .u8 29, .int .u8 14, .int .u8 24, .int .u8 3, .int .u8 30, .int .u8 22, .int .u8 20, .int .u8 15, .int .u8 25, .int .u8 17, .int .u8 4, .int .u8 8, .int .u8 31, .int .u8 27, .int .u8 13, .int .u8 23, .int .u8 21, .int .u8 19, .int .u8 16, .int .u8 7, .int .u8 26, .int .u8 12, .int .u8 18, .int .u8 6, .int .u8 11, .int .u8 5, .int .u8 10, .int .u8 9] : List Value).toArray t frozen
      | o => o).modify 4 fun
      | .cells _ t frozen => .cells ([.int .u8 0, .int .u8 1, .int .u8 56, .int .u8 2, .int .u8 57, .int .u8 49, .int .u8 28, .int .u8 3, .int .u8 61, .int .u8 58, .int .u8 42, .int .u8 50, .int .u8 38, .int .u8 29, .int .u8 17, .int .u8 4, .int .u8 62, .int .u8 47, .int .u8 59, .int .u8 36, .int .u8 45, .int .u8 43, .int .u8 51, .int .u8 22, .int .u8 53, .int .u8 39, .int .u8 33, .int .u8 30, .int .u8 24, .int .u8 18, .int .u8 12, .int .u8 5, .int .u8 63, .int .u8 55, .int .u8 48, .int .u8 27, .int .u8 60, .int .u8 41, .int .u8 37, .int .u8 16, .int .u8 46, .int .u8 35, .int .u8 44, .int .u8 21, .int .u8 52, .int .u8 32, .int .u8 23, .int .u8 11, .int .u8 54, .int .u8 26, .int .u8 40, .int .u8 15, .int .u8 34, .int .u8 20, .int .u8 31, .int .u8 10, .int .u8 25, .int .u8 14, .int .u8 19, .int .u8 9, .int .u8 13, .int .u8 8, .int .u8 7, .int .u8 6] : List Value).toArray t frozen
      | o => o }
end Go.Proofs.YtgnomdkcimglbaaGreatDoor
