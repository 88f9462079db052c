/- Package memories: a state fits a circuit; Check. Conditions: none. -/
import Derived.Test.YtjcogpofldkniaaGreatDoorPkE
import Derived.Test.YtjcogpofldkniaaGreatDoorPkC
import Derived.Test.YtjcogpofldkniaaGreatDoorProg
import Derived.KernelRfl
import Derived.Test.YtjcogpofldkniaaGreatDoorPkD
set_option linter.unusedSimpArgs false
set_option linter.unusedVariables false
set_option maxRecDepth 100000
namespace Go.Lg
open Go Go.Proofs
variable {Γ : Tables}
structure Nv (c : Ax) (s : Stt) : Prop where
 d : s.dff.l.length = (Ap c).length
 w : s.words.l.length = c.mems.l.length
 r : s.read.l.length = c.mems.l.length
 wl : ∀ i, i < c.mems.l.length → (s.words.l.getD i Sl.zz).l.length = 2 ^ (c.mems.l.getD i Mm.d).addr.l.length
 wr : ∀ i, i < c.mems.l.length → ∀ w ∈ (s.words.l.getD i Sl.zz).l, w.l.length = (c.mems.l.getD i Mm.d).data.l.length
 rl : ∀ i, i < c.mems.l.length → (s.read.l.getD i Sl.z).l.length = (c.mems.l.getD i Mm.d).data.l.length
 vd : ∀ v ∈ s.dff.l, 0 ≤ v ∧ v ≤ 2
 vw : ∀ w ∈ s.words.l, ∀ r ∈ w.l, ∀ v ∈ r.l, 0 ≤ v ∧ v ≤ 2
 vr : ∀ r ∈ s.read.l, ∀ v ∈ r.l, 0 ≤ v ∧ v ≤ 2
theorem qCm {c : Ax} (h : D1 c = 0) : ∀ m ∈ c.mems.l, (1 ≤ m.addr.l.length ∧ m.addr.l.length ≤ 8) ∧ (1 ≤ m.data.l.length ∧ m.data.l.length ≤ 32) ∧ (∀ n ∈ m.addr.l, 0 ≤ n ∧ n < c.nodes.l.length) ∧ (∀ n ∈ m.data.l, 0 ≤ n ∧ n < c.nodes.l.length) ∧ 0 ≤ m.write ∧ m.write < c.nodes.l.length := by
 unfold D1 at h
 split at h
 ·cases h
 split at h
 ·cases h
 split at h
 ·rename_i h2; exact absurd h h2
 split at h
 ·rename_i h2; exact absurd h h2
 split at h
 ·rename_i h2; exact absurd h h2
 rename_i h2
 intro m hm
 have h3 := Y0 (by simpa using h2) m hm
 unfold M1 at h3
 split at h3
 ·cases h3
 rename_i h4
 split at h3
 ·cases h3
 rename_i h5
 simp only [not_or, Bool.not_eq_true] at h4 h5
 obtain ⟨a1, a2⟩ := h4
 obtain ⟨a3, a4, a5⟩ := h5
 simp [Sz] at a1 a2
 simp [Oa] at a5
 refine ⟨⟨by have := List.length_pos_iff.2 a1.1; omega, by omega⟩, ⟨by have := List.length_pos_iff.2 a2.1; omega, by omega⟩, Wm a3, Wm a4, a5.1, a5.2⟩
theorem q9n {hp : List (Nat × B0)} {f : FuncId} {K : T → Prop} {cs : List T} {t res : T} (h : Ae Tryz.prog Γ f (t :: cs) res ∨ A3 Tryz.prog Γ f (t :: cs) res) (hk : K res) : q3Q Tryz.prog Γ hp f (.t t :: cs.map .t) K ⟨⟩ := by
 rcases h with h | h
 ·exact A9 h (by simp only [List.map_cons, List.map_map, Function.comp_def, Ak, toT]; rw [Wj]; rfl) hk
 ·exact Vg h hk
theorem qBs {Q : AX → St → Prop} (l : List (Sl Int)) (c : Option Nat) (nl : Option Bool) (f : FuncId) (cs : List T) (hp : ∀ x ∈ l, Ae Tryz.prog Γ f (tV x :: cs) (tB false) ∨ A3 Tryz.prog Γ f (tV x :: cs) (tB false)) (hl : l.length ≤ 1000000)
  (h0 : Q (.exit 0) ⟨[(0, .t (.sl (Af tV l) c nl)), (1, .t (.fn f cs)), (7, .t (tI l.length)), (8, .t (tI l.length)), (9, .t (tB false))], []⟩) : ∀ (k i : Nat), k + i = l.length →
  run Tryz.prog Γ Cm Q ⟨[(0, .t (.sl (Af tV l) c nl)), (1, .t (.fn f cs)), (7, .t (tI l.length)), (8, .t (tI i))], []⟩
 | 0, i, h => by
  refine G1 fun K hK => ?_
  have h2 : i = l.length := by omega
  subst h2
  simp
  simpa using h0
 | k + 1, i, h => by
  refine G1 fun K hK => ?_
  have h2 : i < l.length := by omega
  have ih := qBs l c nl f cs hp hl h0 k (i + 1) (by omega)
  have e1 := gE (f := tV) Sl.z h2
  have e1' := gE' (f := tV) Sl.z h2
  rw [show l.getD i Sl.z = l[i] by simp [List.getD_eq_getElem?_getD, h2]] at e1 e1'
  have hq := hp _ (List.getElem_mem h2)
  generalize l[i] = x at *
  have w1 := Dc (i := i) (by omega)
  simp [A1, A5, h2, e1, e1']
  refine q9n hq ?_
  simp [w1]
  rw [hK]
  simpa using ih
theorem q7z (l : List (Sl Int)) (c : Option Nat) (nl : Option Bool) (f : FuncId) (cs : List T) (hp : ∀ x ∈ l, Ae Tryz.prog Γ f (tV x :: cs) (tB false) ∨ A3 Tryz.prog Γ f (tV x :: cs) (tB false)) (hl : l.length ≤ 1000000) : A3 Tryz.prog Γ 82 [.sl (Af tV l) c nl, .fn f cs] (tB false) := by
 have hi : A3 Tryz.prog Γ 124 [.sl (Af tV l) c nl, .fn f cs] (tI (-1)) := by
  refine A7 Pe rfl ?_
  have g := fun Q h0 => qBs (Γ := Γ) (Q := Q) l c nl f cs hp hl h0 l.length 0 (by omega)
  simp at g
  simp [Hk, A1]
  refine g _ ?_
  simp [Hl]
 refine A7 Me rfl ?_
 simp [G7]
 refine A0 hi rfl ?_
 simp [G8]
theorem q6x (l : Sl Int) (m : Mm) : A3 Tryz.prog Γ 125 [tV l, .ip (tMm m) 0] (tB (decide (¬ (l.l.length : Int) = m.data.l.length))) := by
 refine A7 q22 rfl ?_
 simp [Vx, tV, tMm, Bl, A1, Vy]
theorem qIh {n : Nat} (h : n ≤ 8) : IntKind.i64.wrap (2 ^ min n IntKind.i64.bits) = ((2 ^ n : Nat) : Int) := by
 have e : min n IntKind.i64.bits = n := by
  have : IntKind.i64.bits = 64 := rfl
  rw [this]
  exact Nat.min_eq_left (by omega)
 rw [e]
 have h2 : 2 ^ n ≤ 2 ^ 8 := Nat.pow_le_pow_right (by omega) h
 have h3 : (2 : Int) ^ n = ((2 ^ n : Nat) : Int) := by simp
 rw [h3]
 generalize 2 ^ n = q at *
 exact A4 (by omega) (by omega)
theorem q9o {Q : AX → St → Prop} (c : Ax) (hcm : c.mems.l.length ≤ 16) (hma : ∀ m ∈ c.mems.l, m.addr.l.length ≤ 8) (s : Stt) (H : Nv c s)
  (h0 : Q (.exit 0) ⟨[(3, .t (.ip (D6 s) 0)), (34, .t (Ad c.mems)), (35, .t (tI c.mems.l.length)), (36, .t (tI c.mems.l.length)), (37, .t (tB false))], []⟩) : ∀ (k i : Nat), k + i = c.mems.l.length →
  run Tryz.prog Γ K9 Q ⟨[(3, .t (.ip (D6 s) 0)), (34, .t (Ad c.mems)), (35, .t (tI c.mems.l.length)), (36, .t (tI i))], []⟩
 | 0, i, h => by
  refine S9 fun K hK => ?_
  have h2 : i = c.mems.l.length := by omega
  subst h2
  simp [D6, Ad] at h0
  simp [D6, Ad]
  simpa using h0
 | k + 1, i, h => by
  refine S9 fun K hK => ?_
  have h2 : i < c.mems.l.length := by omega
  have ih := q9o c hcm hma s H h0 k (i + 1) (by omega)
  have e1 : (Bc tMm c.mems.l)[i]?.getD [] = tMm (c.mems.l.getD i Mm.d) := by simp [Bc, h2]
  have e1' : ∀ h, (Bc tMm c.mems.l)[i]'h = tMm (c.mems.l.getD i Mm.d) := fun h => by simp [Bc, h2]
  have ma : (c.mems.l.getD i Mm.d).addr.l.length ≤ 8 := by
   rw [show c.mems.l.getD i Mm.d = c.mems.l[i] by simp [List.getD_eq_getElem?_getD, h2]]
   exact hma _ (List.getElem_mem h2)
  have h3 : i < s.words.l.length := by rw [H.w]; exact h2
  have h4 : i < s.read.l.length := by rw [H.r]; exact h2
  have e2 := gE (f := tW) Sl.zz h3
  have e2' := gE' (f := tW) Sl.zz h3
  have e3 := gE (f := tV) Sl.z h4
  have e3' := gE' (f := tV) Sl.z h4
  have wl := H.wl i h2
  have wr := H.wr i h2
  have rl := H.rl i h2
  generalize s.words.l.getD i Sl.zz = W at *
  generalize s.read.l.getD i Sl.z = rd at *
  generalize c.mems.l.getD i Mm.d = m at *
  have sh := qIh ma
  have hwl : (W.l.length : Int) = 2 ^ m.addr.l.length := by rw [wl]; simp
  have hWl : W.l.length ≤ 256 := by rw [wl]; exact Nat.pow_le_pow_right (by omega) ma
  have f1 := q6x (Γ := Γ) rd m
  have hrl : ¬ (¬ (rd.l.length : Int) = m.data.l.length) := by omega
  rw [decide_eq_false hrl] at f1
  have f2 := q7z (Γ := Γ) W.l W.cap W.nl 125 [.ip (tMm m) 0] (fun x hx => by
   have := q6x (Γ := Γ) x m
   rw [decide_eq_false (by have := wr x hx; omega)] at this
   exact .inr this) (by omega)
  have w1 := Dc (i := i) (by omega)
  have h3' : (i : Int) < s.words.l.length := by omega
  have h4' : (i : Int) < s.read.l.length := by omega
  simp only [tV] at e3 e3' f1
  simp only [tW] at e2 e2'
  simp only [tMm, Bl] at e1 e1' f1 f2
  simp [D6, Ad, tW, tWs] at ih
  simp [D6, Ad, Qu, tW, tWs, Aa, A1, A5, h2, e1, e1', e2, e2', e3, e3', h3, h4, sh, hwl]
  refine A0 f1 rfl ?_
  simp [h2, e1, e1', e2, e2', e3, e3', h3, h4, A1, A5]
  refine A0 f2 rfl ?_
  simp [w1]
  rw [hK]
  simpa using ih
theorem qAy (c : Ax) (hc : COk c) (hcm : c.mems.l.length ≤ 16) (hma : ∀ m ∈ c.mems.l, m.addr.l.length ≤ 8) (s : Stt) (H : Nv c s) : Ae Tryz.prog Γ 88 [.agg (tC c), .agg (D6 s)] (tB true) := by
 refine B5 q3y rfl ?_
 have g := fun Q h0 => q9o (Γ := Γ) (Q := Q) c hcm hma s H h0 c.mems.l.length 0 (by omega)
 have es := Rx (Γ := Γ) c hc
 have h1 := H.d
 have h2 := H.w
 have h3 := H.r
 simp [D6, tV, tW, tWs, Ad] at g
 simp [tC, A6, A8, Ad, Bl] at es
 simp [Z2, tC, A6, A8, Ad, Bl, D6, tV, tW, tWs]
 refine A9 es rfl ?_
 simp [A1, Aa, h1, h2, h3]
 refine g _ ?_
 simp [Z3]
def Ox (s : Stt) : List (Sl Int) := s.dff :: s.read.l ++ s.words.l.flatMap (·.l)
theorem q9p {Q : AX → St → Prop} (words : Sl (Sl (Sl Int))) (hl : words.l.length ≤ 1000) (hw : ∀ w ∈ words.l, w.l.length ≤ 1000) (hw1 : ∀ w ∈ words.l, w.l ≠ []) (R : List (Sl Int))
  (h0 : Q (.exit 0) ⟨[(3, .ls 11 0 R.length none), (13, .t (tWs words)), (14, .t (tI words.l.length)), (15, .t (tI words.l.length)), (16, .t (tB false))], [(11, .sl 41 1 (Af tV R))]⟩) :
  ∀ (k i : Nat) (out : List (Sl Int)), k + i = words.l.length → out.length ≤ 2000 + 1000 * i → out ++ (words.l.drop i).flatMap (·.l) = R →
  run Tryz.prog Γ J8 Q ⟨[(3, .ls 11 0 out.length none), (13, .t (tWs words)), (14, .t (tI words.l.length)), (15, .t (tI i))], [(11, .sl 41 1 (Af tV out))]⟩
 | 0, i, out, h, ho, hR => by
  refine Pv fun K hK => ?_
  have h2 : i = words.l.length := by omega
  subst h2
  rw [List.drop_length] at hR
  simp only [List.flatMap_nil, List.append_nil] at hR
  subst hR
  simp
  simpa using h0
 | k + 1, i, out, h, ho, hR => by
  refine Pv fun K hK => ?_
  have h2 : i < words.l.length := by omega
  rw [List.drop_eq_getElem_cons h2, List.flatMap_cons] at hR
  have e1 := gE (f := tW) Sl.zz h2
  have e1' := gE' (f := tW) Sl.zz h2
  rw [show words.l.getD i Sl.zz = words.l[i] by simp [List.getD_eq_getElem?_getD, h2]] at e1 e1'
  have hwl := hw _ (List.getElem_mem h2)
  have hwn := hw1 _ (List.getElem_mem h2)
  generalize words.l[i] = w at *
  have ih := q9p words hl hw hw1 R h0 k (i + 1) (out ++ w.l) (by omega) (by simp; omega) (by rw [← hR]; simp)
  have w1 := Dc (i := i) (by omega)
  have vt : (Af tV out).take out.length = Af tV out := Bh
  have va : Af tV out ++ Af tV w.l = Af tV (out ++ w.l) := qDQ
  simp only [tW] at e1 e1'
  simp [tWs] at ih
  simp [tWs, A1, A5, h2, e1, e1', vt, va, w1]
  refine ⟨by omega, ?_⟩
  rw [hK]
  simpa using ih
theorem qAz (s : Stt) (hl : s.words.l.length ≤ 1000) (hr : s.read.l.length = s.words.l.length) (hw : ∀ w ∈ s.words.l, w.l.length ≤ 1000) (hw1 : ∀ w ∈ s.words.l, w.l ≠ []) : Ae Tryz.prog Γ 89 [.agg (D6 s)] (.sl (Af tV (Ox s)) none none) := by
 have hwid : E4 1 [[T.sl (Ab s.dff.l) s.dff.cap s.dff.nl]] := by intro e he; simp at he; subst he; rfl
 by_cases h0 : s.words.l = []
 ·have h1 : s.read.l = [] := List.eq_nil_of_length_eq_zero (by rw [hr, h0]; rfl)
  refine B5 q21 rfl ?_
  simp [Vv, D6, tV, tW, tWs, h0, h1, I8]
  refine Zv fun K hK => ?_
  simp [Vw, Ox, h0, h1, Af, tV]
 ·refine B5 q34 rfl ?_
  have g := fun Q h0 => q9p (Γ := Γ) (Q := Q) s.words hl hw hw1 (Ox s) h0 s.words.l.length 0 (s.dff :: s.read.l) (by omega) (by simp; omega) (by simp [Ox])
  have vt : (Af tV (Ox s)).take (Ox s).length = Af tV (Ox s) := Bh
  have hrn : ¬ s.read.l = [] := fun e => by rw [e] at hr; exact h0 (List.eq_nil_of_length_eq_zero hr.symm)
  have hen : ¬ Af tV s.read.l = [] := fun e => hrn (by have := congrArg List.length e; rw [A1] at this; exact List.eq_nil_of_length_eq_zero this)
  have hcons : Af tV (s.dff :: s.read.l) = [tV s.dff] :: Af tV s.read.l := rfl
  rw [hcons] at g
  generalize Ox s = R at *
  simp [tV, tW, tWs] at g
  simp [Xc, D6, tV, tW, tWs, A1, A5, hen, hwid]
  rw [Nat.add_comm 1]
  refine ⟨by omega, g _ ?_⟩
  simp [Xd, Ag, vt]
theorem q80 (v m : Int) : A3 Tryz.prog Γ 86 [tK v, .ip [tK m] 0] (tB (decide (v > m))) := by
 refine A7 Zw rfl ?_
 simp [Px, Py]
theorem q9q (m : Int) : Ae Tryz.prog Γ 85 [tK m] (.fn 86 [.ip [tK m] 0]) := by
 refine B5 q1G rfl ?_
 simp [U1, U2, Ag, W4, qC0, Ak]
theorem qE9 (l : Sl Int) (hl : l.l.length ≤ 1000000) (hv : ∀ v ∈ l.l, v ≤ 2) : A3 Tryz.prog Γ 87 [tV l, .ip [.fn 85 []] 0] (tB false) := by
 refine A7 q1H rfl ?_
 have e := Fh (Γ := Γ) l.l l.cap l.nl 86 [.ip [tK 2] 0] (fun v => decide (v > 2)) (fun x _ => q80 x 2) (by omega)
 have ha : l.l.any (fun v => decide (v > 2)) = false := by
  rw [List.any_eq_false]
  intro v h
  have := hv v h
  simp; omega
 rw [ha] at e
 simp [U3, tV]
 refine A9 (q9q 2) rfl ?_
 simp
 refine A0 e rfl ?_
 simp [U4]
structure MOk (c : Ax) : Prop where
 ok : COk c
 lev : Cj c = 0
 n : c.nodes.l.length ≤ 1000000
theorem MOk.cm {c : Ax} (h : MOk c) : c.mems.l.length ≤ 16 := (Eb (Fb h.lev).1).2.2.2
theorem MOk.mf {c : Ax} (h : MOk c) : ∀ m ∈ c.mems.l, (1 ≤ m.addr.l.length ∧ m.addr.l.length ≤ 8) ∧ (1 ≤ m.data.l.length ∧ m.data.l.length ≤ 32) ∧ (∀ n ∈ m.addr.l, 0 ≤ n ∧ n < c.nodes.l.length) ∧ (∀ n ∈ m.data.l, 0 ≤ n ∧ n < c.nodes.l.length) ∧ 0 ≤ m.write ∧ m.write < c.nodes.l.length := qCm (Fb h.lev).1
theorem q1m {α : Type} {l : List α} {d : α} {i : Nat} (h : i < l.length) : l.getD i d ∈ l := by
 rw [show l.getD i d = l[i] by simp [List.getD_eq_getElem?_getD, h]]
 exact List.getElem_mem h
theorem Nv.words {c : Ax} {s : Stt} (h : MOk c) (H : Nv c s) : ∀ w ∈ s.words.l, w.l.length ≤ 256 ∧ w.l ≠ [] ∧ ∀ r ∈ w.l, r.l.length ≤ 32 := by
 intro w hw
 obtain ⟨i, hi, rfl⟩ := List.getElem_of_mem hw
 have hi' : i < c.mems.l.length := by rw [← H.w]; exact hi
 have e : s.words.l.getD i Sl.zz = s.words.l[i] := by simp [List.getD_eq_getElem?_getD, hi]
 have h1 := H.wl i hi'
 have h2 := H.wr i hi'
 have h3 := h.mf _ (q1m (d := Mm.d) hi')
 rw [e] at h1 h2
 have h4 : 2 ^ (c.mems.l.getD i Mm.d).addr.l.length ≤ 2 ^ 8 := Nat.pow_le_pow_right (by omega) h3.1.2
 have h5 : 0 < 2 ^ (c.mems.l.getD i Mm.d).addr.l.length := Nat.pow_pos (by omega)
 exact ⟨by omega, fun e => by have := congrArg List.length e; rw [h1, List.length_nil] at this; omega, fun r hr => by rw [h2 r hr]; exact h3.2.1.2⟩
theorem Nv.reads {c : Ax} {s : Stt} (h : MOk c) (H : Nv c s) : ∀ r ∈ s.read.l, r.l.length ≤ 32 := by
 intro r hr
 obtain ⟨i, hi, rfl⟩ := List.getElem_of_mem hr
 have hi' : i < c.mems.l.length := by rw [← H.r]; exact hi
 have e : s.read.l.getD i Sl.z = s.read.l[i] := by simp [List.getD_eq_getElem?_getD, hi]
 have h1 := H.rl i hi'
 have h3 := h.mf _ (q1m (d := Mm.d) hi')
 rw [e] at h1
 rw [h1]; exact h3.2.1.2
theorem q9r (hΓ : GOk Γ) (c : Ax) (h : MOk c) (s : Stt) (H : Nv c s) (inn : Sl Int) (hi : inn.l.length = (Be c).length) (hv : ∀ v ∈ inn.l, v ≤ 3) : Ae Tryz.prog Γ 36 [.agg (tC c), .agg (D6 s), tV inn] (tI 0) := by
 refine B5 q35 rfl ?_
 have e1 := qAj hΓ c h.ok
 have e2 := X5 (Γ := Γ) c h.ok
 have e3 := qAy (Γ := Γ) c h.ok h.cm (fun m hm => (h.mf m hm).1.2) s H
 have hcm := h.cm
 have hsw := H.w
 have hsr := H.r
 have hsd := H.d
 have hsl := Ef c
 have hil := M6 c
 have hn := h.n
 have hW := H.words h
 have hR := H.reads h
 have e4 := qAz (Γ := Γ) s (by omega) (by omega) (fun w hw => by have := (hW w hw).1; omega) (fun w hw => (hW w hw).2.1)
 have hlen : (Ox s).length ≤ 1000000 := by
  have : (s.words.l.flatMap (·.l)).length ≤ 256 * s.words.l.length := by
   have key : ∀ l : List (Sl (Sl Int)), (∀ w ∈ l, w.l.length ≤ 256) → (l.flatMap (·.l)).length ≤ 256 * l.length := by
    intro l
    induction l with
    | nil => intro _; simp
    | cons w l ih =>
     intro hl
     have h1 := hl w List.mem_cons_self
     have h2 := ih fun x hx => hl x (List.mem_cons_of_mem _ hx)
     simp only [List.flatMap_cons, List.length_append, List.length_cons]
     omega
   exact key _ fun w hw => (hW w hw).1
  simp only [Ox, List.cons_append, List.length_cons, List.length_append]
  omega
 have hall : ∀ r ∈ Ox s, r.l.length ≤ 1000000 ∧ ∀ v ∈ r.l, v ≤ 2 := by
  intro r hr
  simp only [Ox, List.cons_append, List.mem_cons, List.mem_append, List.mem_flatMap] at hr
  rcases hr with rfl | hr | ⟨w, hw, hr⟩
  ·exact ⟨by omega, fun v hv => (H.vd v hv).2⟩
  ·exact ⟨by have := hR r hr; omega, fun v hv => (H.vr r hr v hv).2⟩
  ·exact ⟨by have := (hW w hw).2.2 r hr; omega, fun v hv => (H.vw w hw r hr v hv).2⟩
 have e5 := q7z (Γ := Γ) (Ox s) none none 87 [.ip [.fn 85 []] 0] (fun x hx => .inr (qE9 x (hall x hx).1 (hall x hx).2)) hlen
 have e6 := Fh (Γ := Γ) inn.l inn.cap inn.nl 86 [.ip [tK 3] 0] (fun v => decide (v > 3)) (fun x _ => q80 x 3) (by omega)
 have ha : inn.l.any (fun v => decide (v > 3)) = false := by
  rw [List.any_eq_false]
  intro v h
  have := hv v h
  simp; omega
 rw [ha] at e6
 rw [h.lev] at e1
 generalize Ox s = L at *
 simp [tC, A6, A8, Ad, Bl] at e1 e2 e3
 simp [D6, tV, tW, tWs] at e3 e4
 simp [Xe, tC, A6, A8, Ad, Bl, D6, tV, tW, tWs]
 refine A0 e1 rfl ?_
 simp
 refine A9 e2 rfl ?_
 simp [A1, hi]
 refine A9 e3 rfl ?_
 simp
 refine A9 (q9q 3) rfl ?_
 simp
 refine A0 e6 rfl ?_
 simp
 refine A9 e4 rfl ?_
 simp
 refine A0 e5 rfl ?_
 simp [Xf]
def cyH (c : Ax) (n : Nat) (nets : List Int) : List (Nat × B0) := [(6, .bx [Fz, Fz, Fz]), (7, .bx [Fz, Fz]), (11, .bx (G3 c 35 n (some n))), (35, .sl 61 1 (Ab nets))]
def cyE (c : Ax) (s : Stt) : List (Nat × AV) := [(3, .t (.ip (tC c) 0)), (4, .t (.ip (D6 s) 0)), (6, .lp 6 0 0), (7, .lp 7 0 0), (11, .lp 11 0 0)]
theorem qFs {Q : AX → St → Prop} (hΓ : GOk Γ) (c : Ax) (H : ROk c) (hn : c.nodes.l.length ≤ 1000000) (s : Stt) (ord : List Int) (ho : ord.length ≤ 1000000) (hin : ∀ n ∈ ord, 0 ≤ n ∧ n < c.nodes.l.length) (R : List Int)
  (h0 : Q (.exit 0) ⟨cyE c s ++ [(46, .t (.sl (Bo ord) none none)), (47, .t (tI ord.length)), (48, .t (tI ord.length)), (49, .t (tB false))], cyH c c.nodes.l.length R⟩) :
  ∀ (k i : Nat) (nets : List Int), k + i = ord.length → nets.length = c.nodes.l.length → (∀ v ∈ nets, V4 v) → q2x c (ord.drop i) nets = R →
  run Tryz.prog Γ J9 Q ⟨cyE c s ++ [(46, .t (.sl (Bo ord) none none)), (47, .t (tI ord.length)), (48, .t (tI i))], cyH c c.nodes.l.length nets⟩
 | 0, i, nets, h, hl, hv, hR => by
  refine Pz fun K hK => ?_
  have h2 : i = ord.length := by omega
  subst h2
  rw [List.drop_length] at hR
  have hR' : nets = R := hR
  subst hR'
  simp [cyE, cyH, G3, Fz, A6, A8, Ad, Bl] at h0
  simp [cyE, cyH, G3, Fz, A6, A8, Ad, Bl]
  simpa using h0
 | k + 1, i, nets, h, hl, hv, hR => by
  refine Pz fun K hK => ?_
  have h2 : i < ord.length := by omega
  rw [List.drop_eq_getElem_cons h2] at hR
  have hR : q2x c (ord.drop (i + 1)) (Nn c nets ord[i]) = R := hR
  have e1 := gE (f := tI) 0 h2
  have e1' := gE' (f := tI) 0 h2
  have hnn := hin _ (List.getElem_mem h2)
  rw [Aw h2] at e1 e1'
  generalize ord[i] = n at *
  have ih := qFs hΓ c H hn s ord ho hin R h0 k (i + 1) (Nn c nets n) (by omega) (by rw [q1h]; exact hl) (q8Q hv) hR
  have hget := q4d hnn.1 hnn.2
  have hget' := q8Z hnn.1 hnn.2
  have hmem := q8P hnn.1 hnn.2
  have hxi := H.inn _ hmem
  have hkk := H.ok.kind _ hmem
  have hinv : Hh c nets n.toNat = Bf nets (nd c n).inn.l := rfl
  have hlR : (Hh c nets n.toNat).length = (nd c n).inn.l.length := by rw [hinv]; simp [Bf]
  have hvR : ∀ v ∈ Hh c nets n.toNat, V4 v := fun v hv' => by
   rw [hinv] at hv'
   obtain ⟨q, hq, rfl⟩ := List.mem_map.1 hv'
   exact Y1 hv _
  have hev := q7o hΓ (nd c n).k hkk (Hh c nets n.toNat) none none (by rw [hlR]; omega) hvR
  have hcb := q1b (Γ := Γ) (nd c n).k
  have hst : Nn c nets n = if Da (nd c n).k then nets.set n.toNat (Oe (nd c n).k (Hh c nets n.toNat)) else nets := rfl
  have hmv := q00 (Γ := Γ) c ⟨nets, some c.nodes.l.length, none⟩ (by show nets.length ≤ _; omega) (nd c n).inn (by omega) (fun k hk => by show 0 ≤ k ∧ k < (nets.length : Int); rw [hl]; exact hxi.2 k hk)
  have hcd : decide (1 ≤ (nd c n).k ∧ (nd c n).k ≤ 13) = Da (nd c n).k := rfl
  rw [hcd] at hcb
  rw [hst] at ih
  simp only [← hinv] at hmv
  generalize Hh c nets n.toNat = RV at *
  generalize nd c n = x at *
  obtain ⟨hn0, hn1⟩ := hnn
  have hn2 : n.toNat < c.nodes.l.length := by omega
  have hn3 : n.toNat < nets.length := by omega
  have w1 := Dc (i := i) (by omega)
  have vt : (Ab nets).take c.nodes.l.length = Ab nets := by rw [← hl]; exact B9
  simp [K6, A6, A8, Ad, Bl, tV] at hmv
  simp [cyE, cyH, G3, Fz, A6, A8, Ad, Bl] at ih
  simp [cyE, cyH, G3, Fz, A6, A8, Ad, Bl, h2, A1, A5, Aa, Br, e1, e1', hn0, hn1, hn2, hget, hget', Fg]
  refine A0 hcb rfl ?_
  by_cases hc : Da x.k = true
  ·rw [if_pos hc] at ih
   simp only [hc]
   have hs : (Ab nets).set n.toNat [tK (Oe x.k RV)] = Ab (nets.set n.toNat (Oe x.k RV)) := Ep
   generalize Oe x.k RV = v at *
   simp
   refine A0 hmv (by simp [Ag, vt, Ak]) ?_
   simp
   refine A0 hev rfl ?_
   simp [hn0, hn1, hn2, hn3, A1, hl, hs, w1]
   rw [hK]
   simpa using ih
  ·rw [if_neg hc] at ih
   simp only [Bool.not_eq_true] at hc
   simp only [hc]
   simp [w1]
   rw [hK]
   simpa using ih
def Gy (R : List (List Int)) : Sl (Sl Int) := ⟨R.map fun r => ⟨r, none, none⟩, some R.length, none⟩
theorem q9s (R : List (List Int)) : qBr R = tW (Gy R) := by
 unfold qBr tW Gy Af
 simp [tV, Function.comp_def]
def Lp (nets : List Int) (ms : List Mm) (ws : List (Sl (Sl Int))) : List (Sl Int) := List.zipWith (fun m w => ⟨Vz (w.l.map (·.l)) (Bf nets m.addr.l), none, none⟩) ms ws
def Js (nets : List Int) (ms : List Mm) (ws : List (Sl (Sl Int))) : List (Sl (Sl Int)) := List.zipWith (fun m w => Gy (Eg (Bf nets m.addr.l) (Bf nets m.data.l) (nets.getD m.write.toNat 0) 0 (w.l.map (·.l)))) ms ws
def qB0 (c : Ax) (n : Nat) (nets : List Int) (o x d : T) (rs : List (Sl Int)) (ws : List (Sl (Sl Int))) : List (Nat × B0) :=
 [(6, .bx [Fz, Fz, Fz]), (7, .bx [Fz, Fz]), (11, .bx ((K6 c ⟨nets, some n, none⟩).map .t)), (17, .bx [.t o, .t x]), (18, .bx [.t d, .ls 127 0 ws.length none, .ls 105 0 rs.length none]), (105, .sl 41 1 (Af tV rs)), (127, .sl 43 1 (Af tW ws))]
def qB1 (c : Ax) (s : Stt) : List (Nat × AV) := [(4, .t (.ip (D6 s) 0)), (6, .lp 6 0 0), (7, .lp 7 0 0), (11, .lp 11 0 0), (17, .lp 17 0 0), (18, .lp 18 0 0)]
theorem qFt {Q : AX → St → Prop} (c : Ax) (hn : c.nodes.l.length ≤ 1000000) (s : Stt) (nets : List Int) (hl : nets.length = c.nodes.l.length) (hv : ∀ v ∈ nets, V4 v) (hcm : c.mems.l.length ≤ 16)
  (hm : ∀ m ∈ c.mems.l, m.addr.l.length ≤ 8 ∧ m.data.l.length ≤ 32 ∧ (∀ n ∈ m.addr.l, 0 ≤ n ∧ n < c.nodes.l.length) ∧ (∀ n ∈ m.data.l, 0 ≤ n ∧ n < c.nodes.l.length) ∧ 0 ≤ m.write ∧ m.write < c.nodes.l.length)
  (hs : s.words.l.length = c.mems.l.length) (hw : ∀ w ∈ s.words.l, w.l.length ≤ 256 ∧ w.l ≠ [] ∧ ∀ r ∈ w.l, r.l.length ≤ 32) (o x d : T) (RR : List (Sl Int)) (RW : List (Sl (Sl Int)))
  (h0 : Q (.exit 2) ⟨qB1 c s ++ [(84, .t (Ad c.mems)), (85, .t (tI c.mems.l.length)), (86, .t (tI c.mems.l.length)), (87, .t (tB false))], qB0 c c.nodes.l.length nets o x d RR RW⟩) :
  ∀ (k i : Nat) (rs : List (Sl Int)) (ws : List (Sl (Sl Int))), k + i = c.mems.l.length → rs.length = i → ws.length = i → rs ++ Lp nets (c.mems.l.drop i) (s.words.l.drop i) = RR → ws ++ Js nets (c.mems.l.drop i) (s.words.l.drop i) = RW →
  run Tryz.prog Γ Ja Q ⟨qB1 c s ++ [(84, .t (Ad c.mems)), (85, .t (tI c.mems.l.length)), (86, .t (tI i))], qB0 c c.nodes.l.length nets o x d rs ws⟩
 | 0, i, rs, ws, h, hr, hws, hR, hW => by
  refine Q0 fun K hK => ?_
  have h2 : i = c.mems.l.length := by omega
  subst h2
  rw [List.drop_length] at hR hW
  simp only [Lp, Js, List.zipWith_nil_left, List.append_nil] at hR hW
  subst hR
  subst hW
  simp [qB1, qB0, K6, Fz, tV, A6, A8, Ad, Bl] at h0
  simp [qB1, qB0, K6, Fz, tV, A6, A8, Ad, Bl]
  simpa using h0
 | k + 1, i, rs, ws, h, hr, hws, hR, hW => by
  refine Q0 fun K hK => ?_
  have h2 : i < c.mems.l.length := by omega
  have h3 : i < s.words.l.length := by omega
  rw [List.drop_eq_getElem_cons h2, List.drop_eq_getElem_cons h3] at hR hW
  simp only [Lp, Js, List.zipWith_cons_cons] at hR hW
  have e1 : (Bc tMm c.mems.l)[i]?.getD [] = tMm c.mems.l[i] := by simp [Bc, h2]
  have e1' : ∀ h, (Bc tMm c.mems.l)[i]'h = tMm c.mems.l[i] := fun h => by simp [Bc]
  have e2 := gE (f := tW) Sl.zz h3
  have e2' := gE' (f := tW) Sl.zz h3
  rw [show s.words.l.getD i Sl.zz = s.words.l[i] by simp [List.getD_eq_getElem?_getD, h3]] at e2 e2'
  obtain ⟨ma, md, mia, mid, mw0, mw1⟩ := hm _ (List.getElem_mem h2)
  obtain ⟨wl, wn, wr⟩ := hw _ (List.getElem_mem h3)
  generalize c.mems.l[i] = m at *
  generalize s.words.l[i] = w at *
  have ih := qFt c hn s nets hl hv hcm hm hs hw o x d RR RW h0 k (i + 1) (rs ++ [⟨Vz (w.l.map (·.l)) (Bf nets m.addr.l), none, none⟩]) (ws ++ [Gy (Eg (Bf nets m.addr.l) (Bf nets m.data.l) (nets.getD m.write.toNat 0) 0 (w.l.map (·.l)))]) (by omega) (by rw [List.length_append, hr]; rfl) (by rw [List.length_append, hws]; rfl) (by rw [← hR, List.append_assoc]; rfl) (by rw [← hW, List.append_assoc]; rfl)
  have hva := q00 (Γ := Γ) c ⟨nets, some c.nodes.l.length, none⟩ (by show nets.length ≤ _; omega) m.addr (by omega) (fun k hk => by show 0 ≤ k ∧ k < (nets.length : Int); rw [hl]; exact mia k hk)
  have hvd := q00 (Γ := Γ) c ⟨nets, some c.nodes.l.length, none⟩ (by show nets.length ≤ _; omega) m.data (by omega) (fun k hk => by show 0 ≤ k ∧ k < (nets.length : Int); rw [hl]; exact mid k hk)
  have val : (Bf nets m.addr.l).length = m.addr.l.length := by simp [Bf]
  have vdl : (Bf nets m.data.l).length = m.data.l.length := by simp [Bf]
  have vav : ∀ v ∈ Bf nets m.addr.l, 0 ≤ v := fun v hv' => by
   obtain ⟨q, _, rfl⟩ := List.mem_map.1 hv'
   exact (Y1 hv _).1
  have hlook := q7y (Γ := Γ) w (by omega) (fun r hr => by have := wr r hr; omega) ⟨Bf nets m.addr.l, none, none⟩ (by show (Bf nets m.addr.l).length ≤ _; omega) vav
  have hsto := q6w (Γ := Γ) w (by omega) (fun r hr => by have := wr r hr; omega) ⟨Bf nets m.addr.l, none, none⟩ ⟨Bf nets m.data.l, none, none⟩ (by show (Bf nets m.addr.l).length ≤ _; omega) vav (by show (Bf nets m.data.l).length ≤ _; omega) (nets.getD m.write.toNat 0)
  rw [if_neg wn] at hlook
  rw [q9s] at hsto
  have hq : m.write.toNat < nets.length := by omega
  have e3 := gE (f := tK) 0 hq
  have e3' := gE' (f := tK) 0 hq
  have hqn : m.write.toNat < c.nodes.l.length := by omega
  generalize nets.getD m.write.toNat 0 = en at *
  simp only at hlook hsto hva hvd
  have hsr : Af tV rs ++ [[tV ⟨Vz (w.l.map (·.l)) (Bf nets m.addr.l), none, none⟩]] = Af tV (rs ++ [⟨Vz (w.l.map (·.l)) (Bf nets m.addr.l), none, none⟩]) := E0
  have hsw : Af tW ws ++ [[tW (Gy (Eg (Bf nets m.addr.l) (Bf nets m.data.l) en 0 (w.l.map (·.l))))]] = Af tW (ws ++ [Gy (Eg (Bf nets m.addr.l) (Bf nets m.data.l) en 0 (w.l.map (·.l)))]) := E0
  generalize Gy (Eg (Bf nets m.addr.l) (Bf nets m.data.l) en 0 (w.l.map (·.l))) = nw at *
  generalize Vz (w.l.map (·.l)) (Bf nets m.addr.l) = L at *
  have hsr : Af tV rs ++ [[T.sl (Ab L) none none]] = Af tV (rs ++ [⟨L, none, none⟩]) := hsr
  have hsw : Af tW ws ++ [[T.sl (Af tV nw.l) nw.cap nw.nl]] = Af tW (ws ++ [nw]) := hsw
  have hsto : Ae Tryz.prog Γ 46 [tW w, .sl (Ab (Bf nets m.addr.l)) none none, .sl (Ab (Bf nets m.data.l)) none none, tK en] (T.sl (Af tV nw.l) nw.cap nw.nl) := hsto
  generalize Bf nets m.addr.l = va at *
  generalize Bf nets m.data.l = vd at *
  have w1 := Dc (i := i) (by omega)
  have vt : (Ab nets).take c.nodes.l.length = Ab nets := by rw [← hl]; exact B9
  have vt1 : (Af tV rs).take i = Af tV rs := by rw [← hr]; exact Bh
  have vt2 : (Af tW ws).take i = Af tW ws := by rw [← hws]; exact Bh
  have h3i : (i : Int) < s.words.l.length := by omega
  simp only [tMm, Bl] at e1 e1'
  simp [K6, A6, A8, Ad, Bl] at hva hvd
  simp only [tV] at hva hvd
  simp [qB1, qB0, K6, Fz, tV, A6, A8, Ad, Bl, D6, tWs] at ih
  simp [qB1, qB0, K6, Fz, tV, A6, A8, Ad, Bl, D6, tWs, h2, Qu, Aa, e1, e1']
  refine A0 hva rfl ?_
  simp [h3, A1, A5, e2, e2']
  refine A9 hlook rfl ?_
  have hw1 : ∀ t : T, E4 1 [[t]] := fun t e he => by simp at he; subst he; rfl
  simp [hr, hws, h3, A1, A5, e2, e2', vt1, vt2, hsr, hw1]
  refine ⟨by omega, ?_⟩
  refine A0 hvd rfl ?_
  simp [hl, hq, hqn, mw0, mw1, e3, e3', A1, A5]
  refine A9 hsto rfl ?_
  simp [hr, hws, A1, A5, vt1, vt2, hsw, hw1, w1]
  refine ⟨by omega, ?_⟩
  rw [hK]
  simpa [hr, hws] using ih
theorem qIi (es : List (List T)) (cap : Option Nat) (nl : Option Bool) (hw : E4 1 es) : Ae Tryz.prog Γ 48 [.sl es cap nl] (.sl es (some es.length) nl) := by
 refine B5 W1 rfl ?_
 simp [Kt, Ku, hw]
theorem qIj (es : List (List T)) (cap : Option Nat) (nl : Option Bool) (hw : E4 1 es) : Ae Tryz.prog Γ 47 [.sl es cap nl] (.sl es (some es.length) nl) := by
 refine B5 Uj rfl ?_
 simp [Jo, Jp, hw]
theorem q7J (c : Ax) (hc : COk c) (nets : Sl Int) (hl : nets.l.length ≤ 1000000000) : Ae Tryz.prog Γ 42 [.agg (tC c), tV nets] (.agg [tVs (Vq c nets.l), tVs (C6 c nets.l)]) := by
 refine B5 q4b rfl ?_
 have h := q3w (Γ := Γ) c hc nets hl
 generalize Vq c nets.l = O at *
 generalize C6 c nets.l = N at *
 simp [K6, A6, A8, Ad, Bl, tV] at h
 simp [q0A, tC, A6, A8, Ad, Bl, tV]
 refine A0 h rfl ?_
 simp [q0B, tVs]
def Sj (c : Ax) (s : Stt) (nets : List Int) : Stt :=
 ⟨⟨C6 c nets, some (C6 c nets).length, none⟩, ⟨Js nets c.mems.l s.words.l, some c.mems.l.length, none⟩, ⟨Lp nets c.mems.l s.words.l, some c.mems.l.length, none⟩⟩
def B8 (c : Ax) (s : Stt) (inn : List Int) : List Int := q5C c inn s.dff.l s.rd
set_option maxHeartbeats 4000000 in
theorem qB2 (hΓ : GOk Γ) (c : Ax) (h : MOk c) (hn : c.nodes.l.length ≤ 19) (s : Stt) (H : Nv c s) (inn : Sl Int) (hi : inn.l.length = (Be c).length) (hv : ∀ v ∈ inn.l, V4 v) (hs0 : ∀ x ∈ mems c, 0 ≤ (nd c x).mem ∧ (nd c x).mem < c.mems.l.length ∧ 0 ≤ (nd c x).bit ∧ (nd c x).bit < (c.mems.l.getD (nd c x).mem.toNat Mm.d).data.l.length) (hnv : ∀ v ∈ B8 c s inn.l, V4 v) (hlv : ∀ v ∈ Si c inn.l s.dff.l s.rd, V4 v) :
  Ae Tryz.prog Γ 11 [.agg (tC c), .agg (D6 s), tV inn] (.tup [.agg (D6 (Sj c s (B8 c s inn.l))), .agg [tVs (Vq c (B8 c s inn.l)), tVs (C6 c (B8 c s inn.l))], .sl (Ab (B8 c s inn.l)) (some c.nodes.l.length) none, tI 0]) := by
 refine B5 q36 rfl ?_
 have e1 := q9r hΓ c h s H inn hi (fun v hv' => (hv v hv').2)
 have e2 := q6f hΓ c h.ok hn
 have hm := h.mf
 have hcm := h.cm
 have hW := H.words h
 have hzl : (List.replicate c.nodes.l.length (0 : Int)).length = c.nodes.l.length := by simp
 have hld := qFE (Γ := Γ) c h.ok s inn (some c.nodes.l.length) (List.replicate c.nodes.l.length 0) hzl h.n hi H.d (fun x hx => by
  obtain ⟨a1, a2, a3, a4⟩ := hs0 x hx
  exact ⟨a1, by rw [H.r]; exact a2, a3, by rw [H.rl _ (by omega)]; exact a4⟩) rfl
 have hol : (L0 c).length = c.nodes.l.length := by rw [(Qc c).1.length_eq, Og]
 have g1 := fun Q h0 => qFs (Γ := Γ) (Q := Q) hΓ c (qDq h.ok h.lev) h.n s (L0 c) (by omega) (fun n hn => by rw [(Qc c).1.mem_iff, q3g] at hn; exact hn) (B8 c s inn.l) h0 (L0 c).length 0 (Si c inn.l s.dff.l s.rd) (by omega) q1k hlv rfl
 have hnl : (B8 c s inn.l).length = c.nodes.l.length := q1l
 have hll : (Si c inn.l s.dff.l s.rd).length = c.nodes.l.length := q1k
 have hobs := q7J (Γ := Γ) c h.ok ⟨B8 c s inn.l, some c.nodes.l.length, none⟩ (by show (B8 c s inn.l).length ≤ _; omega)
 have hcl := qCk (Γ := Γ) ⟨C6 c (B8 c s inn.l), some (C6 c (B8 c s inn.l)).length, none⟩ (fun h => nomatch h) (by have := Ef c; show (C6 c _).length ≤ _; unfold C6; rw [List.length_map]; omega)
 have hcs : q8X ⟨C6 c (B8 c s inn.l), some (C6 c (B8 c s inn.l)).length, none⟩ = ⟨C6 c (B8 c s inn.l), none, none⟩ := by unfold q8X; rw [if_neg (fun h => nomatch h)]
 rw [hcs] at hcl
 have g3 := fun Q o x d h0 => qFt (Γ := Γ) (Q := Q) c h.n s (B8 c s inn.l) hnl hnv hcm (fun m hm' => ⟨(hm m hm').1.2, (hm m hm').2.1.2, (hm m hm').2.2⟩) H.w hW o x d (Lp (B8 c s inn.l) c.mems.l s.words.l) (Js (B8 c s inn.l) c.mems.l s.words.l) h0 c.mems.l.length 0 [] [] (by omega) rfl rfl rfl rfl
 have htk : (Ab (B8 c s inn.l)).take c.nodes.l.length = Ab (B8 c s inn.l) := by rw [← hnl]; exact B9
 have lR : (Lp (B8 c s inn.l) c.mems.l s.words.l).length = c.mems.l.length := by unfold Lp; rw [List.length_zipWith, H.w, Nat.min_self]
 have lW : (Js (B8 c s inn.l) c.mems.l s.words.l).length = c.mems.l.length := by unfold Js; rw [List.length_zipWith, H.w, Nat.min_self]
 have tR : (Af tV (Lp (B8 c s inn.l) c.mems.l s.words.l)).take c.mems.l.length = Af tV (Lp (B8 c s inn.l) c.mems.l s.words.l) := by rw [← lR]; exact Bh
 have tW' : (Af tW (Js (B8 c s inn.l) c.mems.l s.words.l)).take c.mems.l.length = Af tW (Js (B8 c s inn.l) c.mems.l s.words.l) := by rw [← lW]; exact Bh
 have c1 := qDp (Γ := Γ) (Ab (C6 c (B8 c s inn.l))) none none A5
 have c2 := qIi (Γ := Γ) (Af tV (Lp (B8 c s inn.l) c.mems.l s.words.l)) none none A5
 have c3 := qIj (Γ := Γ) (Af tW (Js (B8 c s inn.l) c.mems.l s.words.l)) none none A5
 rw [A1] at c1 c2 c3
 rw [lR] at c2
 rw [lW] at c3
 have hz : List.replicate c.nodes.l.length [T.v (Value.int .u8 0)] = Ab (List.replicate c.nodes.l.length 0) := by simp [Af]
 unfold Sj
 generalize Lp (B8 c s inn.l) c.mems.l s.words.l = NR at *
 generalize Js (B8 c s inn.l) c.mems.l s.words.l = NW at *
 generalize Vq c (B8 c s inn.l) = O at *
 generalize C6 c (B8 c s inn.l) = X at *
 generalize B8 c s inn.l = N at *
 generalize Si c inn.l s.dff.l s.rd = L at *
 have hlev := h.lev
 simp [tC, A6, A8, Ad, Bl, D6, tV, tW, tWs] at e1 e2 hobs hcl
 simp [hlev] at e2
 simp [G3, A6, A8, Ad, Bl, D6, tV, tW, tWs] at hld
 simp [cyE, cyH, G3, Fz, tC, A6, A8, Ad, Bl, D6, tV, tW, tWs] at g1
 simp [qB1, qB0, K6, Fz, tC, A6, A8, Ad, Bl, D6, tV, tW, tWs, I8, lR, lW] at g3
 simp [Xi, tC, A6, A8, Ad, Bl, D6, tV, tW, tWs]
 refine A9 e1 rfl ?_
 simp [Aa]
 refine ⟨by omega, ?_⟩
 rw [hz]
 refine ⟨_, _, hld, ?_⟩
 simp [A1, hll]
 refine A0 e2 rfl ?_
 simp [A1]
 refine g1 _ ?_
 simp [St.freeze, B0.closed, Dl, frz1, frz0, Im, del, Ag, htk]
 refine A9 hobs rfl ?_
 simp [tVs]
 refine A9 hcl rfl ?_
 simp
 refine A9 c1 rfl ?_
 simp [Aa]
 refine g3 _ _ _ _ ?_
 simp [St.freeze, B0.closed, Dl, frz1, frz0, Im, del, Ag, tR, tW']
 refine A9 c3 rfl ?_
 simp
 refine A9 c2 rfl ?_
 simp [Xj, Ag, Ak]
def qH5 (rel : Int → Int → Prop) (l m : List Int) : Prop := l.length = m.length ∧ ∀ i, i < l.length → rel (l.getD i 0) (m.getD i 0)
structure qIk (rel : Int → Int → Prop) (a b : Stt) : Prop where
 d : qH5 rel a.dff.l b.dff.l
 rl : a.read.l.length = b.read.l.length
 r : ∀ i, i < a.read.l.length → qH5 rel (a.read.l.getD i Sl.z).l (b.read.l.getD i Sl.z).l
 wl : a.words.l.length = b.words.l.length
 w : ∀ i, i < a.words.l.length → (a.words.l.getD i Sl.zz).l.length = (b.words.l.getD i Sl.zz).l.length ∧ ∀ j, j < (a.words.l.getD i Sl.zz).l.length → qH5 rel ((a.words.l.getD i Sl.zz).l.getD j Sl.z).l ((b.words.l.getD i Sl.zz).l.getD j Sl.z).l
end Go.Lg
namespace Go.Lg
open Go
section
variable {P : Program} {Γ : Tables} {Q : AX → St → Prop} {s : St}
/- probecard/probecardlaw09.taken (function 53) -/
abbrev q1L : IC := .gh (.seq (.seq (.reg [om 9 8, om 10 2, od 11 (.bin .lss (tm 9) (tm 10))] [kp [0, 1, 2, 7, 8, 11] [19]]) (.cond (tm 11) .skip (.exit 0))) (.seq (.block 1 (.seq (.reg [om 14 0, od 15 (le 0 14), od 16 (.bin .eql (tm 15) (ki 0))] [kp
 [0, 1, 2, 7, 8, 16] [19]]) (.cond (tm 16) (.reg [om 17 7, od 18 (.bsl true 61 1 [(ku 2)]), od 19 (.app false 61 1 (tm 17) (tm 18)), om 7 19] [kp [0, 1, 2, 7, 8] [19]]) (.reg [om 20 7, om 21 0, om 22 1, om 23 8, od 24 (.bin .add (tm
 22) (tm 23)), om 25 0, od 26 (le 0 25), od 27 (.bin .rem (tm 24) (tm 26)), od 28 (ia 1 21 27), od 29 (ld 1 28), od 30 (.bin .rem (tm 29) (ku 3)), od 31 (.bsl true 61 1 [(tm 30)]), oz 32 (.app false 61 1 (tm 20) (tm 31)) 19, om 7
 32] [kp [0, 1, 2, 7, 8] [19]])))) (.reg [om 12 8, od 13 (.bin .add (tm 12) (ki 1)), om 8 13] [kp [0, 1, 2, 7, 8] [19]]))) [kp [0, 1, 2, 7, 8] [19]]
def Oy : IC := .loop q1L
abbrev q1M : IC := (.seq (.reg [od 6 (.mv kN)] [kp [0, 1, 2] []]) (.seq (.reg [od 7 (.mv kN)] [.nl 7 19 61 1, kp [0, 1, 2, 7] [19]]) (.seq (.seq (.reg [od 8 (.mv (ki 0))] [kp [0, 1, 2, 7, 8] [19]]) (.block 0 Oy)) (.seq (.reg [om 33 7, om
 6 33] [kp [6] [19]]) .ret))))
theorem W2 (h : ∀ K : St → Prop, K = run P Γ Oy Q → run P Γ q1L (Aq K Q) s) : run P Γ Oy Q s := Ac h
def q1N : List RV := [.tmp 6]
/- (probecard/probecardlaw09.S).Of (function 14) -/
abbrev q2T : IC := .gh (.seq (.seq (.reg [om 33 10, od 34 (fa 2 3), od 35 (ld 1 34), om 36 7, od 37 (ia 3 35 36), od 38 (fa 0 37), od 39 (ld 1 38), od 40 (le 0 39), od 41 (.mmx false [(tm 40), (ki 8)]), od 42 (.bin .shl (ki 1) (tm 41)), od 43 (.bin
 .lss (tm 33) (tm 42))] [kp [2, 3, 4, 5, 6, 7, 8, 9, 10, 43] [4, 5, 53, 61, 71]]) (.cond (tm 43) .skip (.exit 2))) (.seq (.block 3 (.seq (.reg [om 46 9, od 47 (fa 0 2), od 48 (ld 1 47), om 49 6, om 50 8, od 51 (.call 53 [(tm 48),
 (tm 49), (tm 50)]), od 52 (.bsl true 41 1 [(tm 51)]), od 53 (.app false 41 1 (tm 46) (tm 52)), om 9 53] [kp [2, 3, 4, 5, 6, 7, 8, 9, 10] [4, 5, 53, 61, 71]]) (.reg [om 54 6, om 55 8, od 56 (.bin .add (tm 54) (tm 55)), om 6 56] [kp
 [2, 3, 4, 5, 6, 7, 8, 9, 10] [4, 5, 53, 61, 71]]))) (.reg [om 44 10, od 45 (.bin .add (tm 44) (ki 1)), om 10 45] [kp [2, 3, 4, 5, 6, 7, 8, 9, 10] [4, 5, 53, 61, 71]]))) [kp [2, 3, 4, 5, 6, 7, 8, 9, 10] [4, 5, 53, 61, 71]]
def Rf : IC := .loop q2T
abbrev q2U : IC := .gh (.seq (.seq (.reg [om 19 7, od 20 (fa 2 3), od 21 (ld 1 20), od 22 (le 0 21), od 23 (.bin .lss (tm 19) (tm 22))] [kp [2, 3, 4, 5, 6, 7, 23] [4, 5, 61, 71]]) (.cond (tm 23) .skip (.exit 0))) (.seq (.block 1 (.seq (.reg [od 26
 (fa 2 3), od 27 (ld 1 26), om 28 7, od 29 (ia 3 27 28), od 30 (fa 1 29), od 31 (ld 1 30), od 32 (le 0 31), om 8 32] [kp [2, 3, 4, 5, 6, 7, 8] [4, 5, 61, 71]]) (.seq (.reg [od 9 (.mv kN)] [.nl 9 53 41 1, kp [2, 3, 4, 5, 6, 7, 8, 9]
 [4, 5, 53, 61, 71]]) (.seq (.seq (.reg [od 10 (.mv (ki 0))] [kp [2, 3, 4, 5, 6, 7, 8, 9, 10] [4, 5, 53, 61, 71]]) (.gh (.block 2 Rf) [.frz 53])) (.seq (.reg [od 57 (fa 1 5), od 58 (ld 1 57), om 59 9, od 60 (.bsl true 43
 1 [(tm 59)]), od 61 (.app false 43 1 (tm 58) (tm 60)), od 62 (fa 1 5), on (.store 1 (tm 62) (tm 61))] [kp [2, 3, 4, 5, 6, 7, 8] [4, 5, 61, 71]]) (.seq (.reg [od 63 (fa 2 5), od 64 (.ldR 5 1 false (tm 63)), od 65 (fa 0 2), od 66
 (.ldT 1 false (tm 65)), om 67 6, om 68 8, od 69 (.call 53 [(tm 66), (tm 67), (tm 68)]), od 70 (.bsl true 41 1 [(tm 69)]), od 71 (.app false 41 1 (tm 64) (tm 70)), od 72 (fa 2 5), on (.stR 5 1 (tm 72) (tm 71))] [kp [2, 3, 4, 5, 6,
 7, 8] [4, 5, 61, 71]]) (.reg [om 73 6, om 74 8, od 75 (.bin .add (tm 73) (tm 74)), om 6 75] [kp [2, 3, 4, 5, 6, 7] [4, 5, 61, 71]]))))))) (.reg [om 24 7, od 25 (.bin .add (tm 24) (ki 1)), om 7 25] [kp [2, 3, 4, 5, 6, 7] [4, 5, 61,
 71]]))) [kp [2, 3, 4, 5, 6, 7] [4, 5, 61, 71]]
def Rh : IC := .loop q2U
abbrev q2V : IC := (.seq (.reg [od 2 (.box true (tm 0)), od 3 (.box true (tm 1)), od 4 (.alloc false [(.slice none 0 0), (.slice none 0 0), (.slice none 0 0)])] [kp [2, 3, 4] [4, 61, 71]]) (.seq (.reg [od 5 (.alloc false [(.slice none 0 0), (.slice
 none 0 0), (.slice none 0 0)])] [.nlb 5 1 61 43 1, .nlb 5 2 71 41 1, kp [2, 3, 4, 5] [4, 5, 61, 71]]) (.seq (.reg [od 11 (lG 4 3), od 12 (.call 52 [(tm 11), (ku 14)]), od 13 (le 0 12), om 6 13] [kp [2, 3, 4, 5, 6] [4, 5, 61, 71]])
 (.seq (.reg [od 14 (fa 0 2), od 15 (ld 1 14), om 16 6, od 17 (.call 53 [(tm 15), (ki 0), (tm 16)]), od 18 (fa 0 5), on (.store 1 (tm 18) (tm 17))] [kp [2, 3, 4, 5, 6] [4, 5, 61, 71]]) (.seq (.seq (.reg [od 7 (.mv (ki 0))] [kp [2,
 3, 4, 5, 6, 7] [4, 5, 61, 71]]) (.gh (.block 0 Rh) [.frz 61, .frz 71])) (.seq (.reg [od 76 (lG 3 5), on (.store 3 (tm 4) (tm 76))] [kp [4] [4, 61, 71]]) .ret))))))
theorem Xl (h : ∀ K : St → Prop, K = run P Γ Rf Q → run P Γ q2T (Aq K Q) s) : run P Γ Rf Q s := Ac h
theorem Xm (h : ∀ K : St → Prop, K = run P Γ Rh Q → run P Γ q2U (Aq K Q) s) : run P Γ Rh Q s := Ac h
def q2W : List RV := [.cell 4 3 true]
/- probecard/probecardlaw09.values (function 56) -/
abbrev q0D : IC := (.seq (.reg [od 2 (.mv kN)] [kp [0] []]) (.seq (.reg [om 6 0, od 7 (.call 108 [(tm 6)]), om 5 7, od 8 (ex 5 0), od 9 (ex 5 1), om 3 8, om 4 9] [kp [3] []]) (.seq (.reg [om 10 3, om 2 10] [kp [2] []]) .ret)))
def q0E : List RV := [.tmp 2]
/- probecard/probecardlaw09.text (function 58) -/
abbrev q2X : IC := .gh (.seq (.seq (.reg [om 5 4, om 6 0, od 7 (le 0 6), od 8 (.bin .lss (tm 5) (tm 7))] [kp [0, 3, 4, 8] []]) (.cond (tm 8) .skip (.exit 0))) (.seq (.block 1 (.reg [om 11 3, om 12 0, om 13 4, od 14 (ia 1 12 13), od 15 (ld 1 14), od
 16 (.call 57 [(tm 15)]), od 17 (.bin .add (tm 11) (tm 16)), od 18 (.bin .add (tm 17) (.const (sV [44]))), om 3 18] [kp [0, 3, 4] []])) (.reg [om 9 4, od 10 (.bin .add (tm 9) (ki 1)), om 4 10] [kp [0, 3, 4] []]))) [kp [0, 3, 4] []]
def Ri : IC := .loop q2X
abbrev q2Y : IC := (.seq (.reg [od 2 (.mv (.const (sV [])))] [kp [0] []]) (.seq (.reg [od 3 (.mv (.const (sV [])))] [kp [0, 3] []]) (.seq (.seq (.reg [od 4 (.mv (ki 0))] [kp [0, 3, 4] []]) (.block 0 Ri)) (.seq (.reg [om 19 3, om 2 19] [kp
 [2] []]) .ret))))
theorem Xn (h : ∀ K : St → Prop, K = run P Γ Ri Q → run P Γ q2X (Aq K Q) s) : run P Γ Ri Q s := Ac h
def q2Z : List RV := [.tmp 2]
/- probecard/probecardlaw09.lives (function 17) -/
abbrev q1O : IC := (.seq (.reg [od 0 (.mv kF)] [kp [] []]) (.seq (.reg [od 3 (.call 56 [(.const (sV [48, 48]))]), od 4 (.call 56 [(.const (sV [48, 49]))]), od 5 (.call 56 [(.const (sV [49, 48]))]), od 6 (.call 56 [(.const (sV [49, 49]))]), od 7 (.bsl
 true 41 1 [(tm 3), (tm 4), (tm 5), (tm 6)]), om 1 7] [kp [1] []]) (.seq (.reg [om 8 1, od 9 (.call 56 [(.const (sV [49, 48]))]), od 10 (.call 45 [(tm 8), (tm 9)]), od 11 (.call 57 [(tm 10)]), od 12 (.bin .eql (tm 11) (.const (sV
 [48, 49]))), om 13 12, oT 14 (.mv (tm 1)) 13, oT 15 (.call 56 [(.const (sV [88, 48]))]) 13, oT 16 (.call 45 [(tm 14), (tm 15)]) 13, oT 17 (.call 57 [(tm 16)]) 13, oT 18 (.bin .eql (tm 17) (.const (sV [48, 88]))) 13, od 19 (.pick
 (tm 13) (tm 18) kF), om 20 19, oT 21 (.mv (tm 1)) 20, oT 22 (.call 56 [(.const (sV [88, 88]))]) 20, oT 23 (.call 45 [(tm 21), (tm 22)]) 20, oT 24 (.call 57 [(tm 23)]) 20, oT 25 (.bin .eql (tm 24) (.const (sV [88, 88]))) 20, od 26
 (.pick (tm 20) (tm 25) kF), om 2 26] [kp [1, 2] []]) (.seq (.reg [om 27 2, om 28 27, oT 29 (.mv (tm 1)) 28, oT 30 (.call 56 [(.const (sV [49, 88]))]) 28, oT 31 (.call 56 [(.const (sV [49, 49]))]) 28, oT 32 (.call 46 [(tm 29), (tm
 30), (tm 31), (ku 1)]) 28, oT 33 (.call 58 [(tm 32)]) 28, oT 34 (.bin .eql (tm 33) (.const (sV [48, 48, 44, 88, 49, 44, 49, 48, 44, 49, 49, 44]))) 28, od 35 (.pick (tm 28) (tm 34) kF), om 36 35, oT 37 (.mv (tm 1)) 36, oT 38 (.call
 56 [(.const (sV [49, 48]))]) 36, oT 39 (.call 56 [(.const (sV [49, 49]))]) 36, oT 40 (.call 46 [(tm 37), (tm 38), (tm 39), (ku 1)]) 36, oT 41 (.call 58 [(tm 40)]) 36, oT 42 (.bin .eql (tm 41) (.const (sV [48, 48, 44, 49, 49, 44,
 49, 48, 44, 49, 49, 44]))) 36, od 43 (.pick (tm 36) (tm 42) kF), om 44 43, oT 45 (.mv (tm 1)) 44, oT 46 (.call 56 [(.const (sV [49, 48]))]) 44, oT 47 (.call 56 [(.const (sV [49, 49]))]) 44, oT 48 (.call 46 [(tm 45), (tm 46), (tm
 47), (ku 2)]) 44, oT 49 (.call 58 [(tm 48)]) 44, oT 50 (.bin .eql (tm 49) (.const (sV [48, 48, 44, 88, 49, 44, 49, 48, 44, 49, 49, 44]))) 44, od 51 (.pick (tm 44) (tm 50) kF), om 0 51] [kp [0] []]) .ret))))
def q1P : List RV := [.tmp 0]
/- (probecard/probecardlaw09.Two).Step (function 10) -/
abbrev Xo : IC := (.seq (.reg [od 2 (.box true (tm 0)), od 3 (.box true (tm 1)), od 4 (.alloc false [(.slice none 0 0), (.slice none 0 0), (.slice none 0 0)]), od 5 (.mv kN)] [kp [2, 3, 4] [4]]) (.seq (.reg [od 6 (fa 0 2), od 7 (.ldT 1 true (tm 6)),
 od 8 (.ldT 4 true (tm 3)), od 9 (.call 14 [(tm 7), (tm 8)]), od 10 (fa 1 2), od 11 (.ldT 2 true (tm 10)), od 12 (.ldT 4 true (tm 3)), od 13 (.call 35 [(tm 11), (tm 12)]), od 14 (.fld 0 1 false (tm 13)), on (.stR 4 3 (tm 4) (tm 9)),
 om 5 14] [kp [4, 5] [4]]) .ret))
def Xp : List RV := [.cell 4 3 true, .tmp 5]
/- (probecard/probecardlaw09.Two).Step (function 10) -/
end
end Go.Lg
namespace Go.Lg
open Go Go.Proofs
theorem q5Y : As Tryz.prog 53 q1M 34 3 q1N = true := by kernel_rfl
theorem q6y : As Tryz.prog 14 q2V 77 2 q2W = true := by kernel_rfl
theorem q4h : As Tryz.prog 56 q0D 11 1 q0E = true := by kernel_rfl
theorem q6z : As Tryz.prog 58 q2Y 20 1 q2Z = true := by kernel_rfl
theorem q5Z : As Tryz.prog 17 q1O 52 0 q1P = true := by kernel_rfl
theorem q3A : As Tryz.prog 10 Xo 15 2 Xp = true := by kernel_rfl
end Go.Lg
namespace Go.Lg
open Go Go.Proofs
variable {Γ : Tables}
def q5a (l : List Int) (at' i : Nat) : Int := if l = [] then 2 else (l.getD ((at' + i) % l.length) 0).tmod 3
def Qn (l : List Int) (at' n : Nat) : List Int := (List.range' 0 n).map (q5a l at')
theorem q42 {l : List Int} {a n : Nat} : (Qn l a n).length = n := by simp [Qn]
theorem qEA {Q : AX → St → Prop} (l : Sl Int) (at' n : Nat) (hn : n ≤ 1000000) (ha : at' ≤ 1000000000) (R : List Int)
  (h0 : Q (.exit 0) ⟨[(0, .t (tV l)), (1, .t (tI at')), (2, .t (tI n)), (7, .ls 19 0 n none), (8, .t (tI n)), (11, .t (tB false))], [(19, .sl 61 1 (Ab R))]⟩) : ∀ (k i : Nat) (out : List Int), k + i = n → out.length = i → out ++ (List.range' i k).map (q5a l.l at') = R →
  run Tryz.prog Γ Oy Q ⟨[(0, .t (tV l)), (1, .t (tI at')), (2, .t (tI n)), (7, .ls 19 0 i none), (8, .t (tI i))], [(19, .sl 61 1 (Ab out))]⟩
 | 0, i, out, h, hi, hR => by
  refine W2 fun K hK => ?_
  have h2 : i = n := by omega
  subst h2
  simp only [List.range'_zero, List.map_nil, List.append_nil] at hR
  subst hR
  simp
  exact h0
 | k + 1, i, out, h, hi, hR => by
  refine W2 fun K hK => ?_
  have h2 : i < n := by omega
  rw [List.range'_succ, List.map_cons] at hR
  have vt : (Ab out).take i = Ab out := by rw [← hi]; exact B9
  have w1 := Dc (i := i) (by omega)
  have wa : IntKind.i64.wrap ((at' : Int) + i) = ((at' + i : Nat) : Int) := by rw [A4] <;> omega
  have ih := qEA l at' n hn ha R h0 k (i + 1) (out ++ [q5a l.l at' i]) (by omega) (by simp [hi]) (by rw [← hR]; simp)
  have vs := Ns (l := out) (v := q5a l.l at' i)
  by_cases h1 : l.l = []
  ·have hv : q5a l.l at' i = 2 := by unfold q5a; rw [if_pos h1]
   rw [hv] at ih vs
   simp [tV, h1] at ih
   simp [h2, tV, A1, h1, w1, vt, vs, hi]
   refine ⟨by omega, ?_⟩
   rw [hK]
   simpa using ih
  ·have hpos : 0 < l.l.length := List.length_pos_iff.2 h1
   have hlt : (at' + i) % l.l.length < l.l.length := Nat.mod_lt _ hpos
   have hmod : ((at' + i : Nat) : Int).tmod (l.l.length : Int) = (((at' + i) % l.l.length : Nat) : Int) := by rw [Int.natCast_emod]; exact Int.tmod_eq_emod_of_nonneg (by omega)
   have hv : q5a l.l at' i = (l.l.getD ((at' + i) % l.l.length) 0).tmod 3 := by unfold q5a; rw [if_neg h1]
   rw [hv] at ih vs
   have e1 := gE (f := tK) 0 hlt
   have e1' := gE' (f := tK) 0 hlt
   generalize (at' + i) % l.l.length = j at *
   generalize l.l.getD j 0 = v at *
   have hne : ¬ (l.l.length : Int) = 0 := by omega
   have hj0 : (j : Int) < l.l.length := by omega
   simp [tV] at ih
   simp [h2, tV, A1, A5, h1, hne, wa, hmod, hlt, e1, e1', vt, vs, hi, w1, -Int.natCast_emod, -Int.natCast_add]
   refine ⟨by omega, ?_⟩
   rw [hK]
   simpa using ih
theorem q1Q (l : Sl Int) (at' n : Nat) (hn : n ≤ 1000000) (ha : at' ≤ 1000000000) : A3 Tryz.prog Γ 53 [tV l, tI at', tI n] (.sl (Ab (Qn l.l at' n)) none none) := by
 refine A7 q5Y rfl ?_
 have g := fun Q h0 => qEA (Γ := Γ) (Q := Q) l at' n hn ha (Qn l.l at' n) h0 n 0 [] (by omega) rfl (by simp [Qn])
 have ht : (Ab (Qn l.l at' n)).take n = Ab (Qn l.l at' n) := List.take_of_length_le (by rw [A1, q42]; exact Nat.le_refl _)
 generalize Qn l.l at' n = R at *
 simp [tV, I8] at g
 simp [q1M, tV]
 refine g _ ?_
 simp [q1N, Ag, ht]
def Oz (v : List Int) (n : Nat) : Nat → Nat → List (Sl Int)
 | 0, _ => []
 | k + 1, a => ⟨Qn v a n, none, none⟩ :: Oz v n k (a + n)
def ofW (v : List Int) : List Mm → Nat → List (Sl (Sl Int))
 | [], _ => []
 | m :: ms, a => ⟨Oz v m.data.l.length (2 ^ m.addr.l.length) a, none, none⟩ :: ofW v ms (a + 2 ^ m.addr.l.length * m.data.l.length + m.data.l.length)
def ofR (v : List Int) : List Mm → Nat → List (Sl Int)
 | [], _ => []
 | m :: ms, a => ⟨Qn v (a + 2 ^ m.addr.l.length * m.data.l.length) m.data.l.length, none, none⟩ :: ofR v ms (a + 2 ^ m.addr.l.length * m.data.l.length + m.data.l.length)
def q0P (v : List Int) (c : Ax) : Stt := ⟨⟨Qn v 0 (Ap c).length, none, none⟩, ⟨ofW v c.mems.l (Ap c).length, none, none⟩, ⟨ofR v c.mems.l (Ap c).length, none, none⟩⟩
def soH (d : T) (ws : List (Sl (Sl Int))) (rs : List (Sl Int)) : List (Nat × B0) := [(4, .bx [Fz, Fz, Fz]), (5, .bx [.t d, .ls 61 0 ws.length none, .ls 71 0 rs.length none])]
def soT (ws : List (Sl (Sl Int))) (rs : List (Sl Int)) : List (Nat × B0) := [(61, .sl 43 1 (Af tW ws)), (71, .sl 41 1 (Af tV rs))]
def soE (v : Sl Int) (c : Ax) (a m : Nat) : List (Nat × AV) := [(2, .t (.ip [tV v] 0)), (3, .t (.ip (tC c) 0)), (4, .lp 4 0 0), (5, .lp 5 0 0), (6, .t (tI a)), (7, .t (tI m))]
theorem qIl {Q : AX → St → Prop} (v : Sl Int) (c : Ax) (m : Nat) (hm : m < c.mems.l.length) (n K : Nat) (hn : n ≤ 32) (hk : (c.mems.l.getD m Mm.d).addr.l.length ≤ 8) (hK : K = 2 ^ (c.mems.l.getD m Mm.d).addr.l.length) (hcm : c.mems.l.length ≤ 16) (d : T) (ws : List (Sl (Sl Int))) (rs : List (Sl Int)) (A : Nat) (R : List (Sl Int))
  (h0 : Q (.exit 2) ⟨soE v c A m ++ [(8, .t (tI n)), (9, .ls 53 0 R.length none), (10, .t (tI K)), (43, .t (tB false))], soH d ws rs ++ (53, .sl 41 1 (Af tV R)) :: soT ws rs⟩) :
  ∀ (k i a : Nat) (out : List (Sl Int)), k + i = K → out.length = i → a ≤ 2000000 + 32 * i → a + k * n = A → out ++ Oz v.l n k a = R →
  run Tryz.prog Γ Rf Q ⟨soE v c a m ++ [(8, .t (tI n)), (9, .ls 53 0 i none), (10, .t (tI i))], soH d ws rs ++ (53, .sl 41 1 (Af tV out)) :: soT ws rs⟩ := by
 have e1 : (Bc tMm c.mems.l)[m]?.getD [] = tMm (c.mems.l.getD m Mm.d) := by simp [Bc, hm]
 have e1' : ∀ h, (Bc tMm c.mems.l)[m]'h = tMm (c.mems.l.getD m Mm.d) := fun h => by simp [Bc, hm]
 generalize c.mems.l.getD m Mm.d = mm at *
 have sh := qIh hk
 rw [← hK] at sh
 have hK256 : K ≤ 256 := by rw [hK]; exact Nat.pow_le_pow_right (by omega) hk
 have hmin : ¬ (8 : Int) < mm.addr.l.length := by omega
 have hmin' : ¬ 8 < mm.addr.l.length := by omega
 simp only [tMm, Bl] at e1 e1'
 intro k
 induction k with
 | zero =>
  intro i a out h ho hb ha hR
  refine Xl fun KK hKK => ?_
  have h2 : i = K := by omega
  subst h2
  simp only [Oz, List.append_nil] at hR
  subst hR
  have ha' : a = A := by omega
  subst ha'
  simp [soE, soH, soT, Fz, tC, A6, A8, Ad, Bl, ho] at h0
  simp [soE, soH, soT, Fz, tC, A6, A8, Ad, Bl, Qu, Aa, A1, hm, e1, e1', hmin, hmin', sh]
  simpa using h0
 | succ k ih =>
  intro i a out h ho hb ha hR
  refine Xl fun KK hKK => ?_
  have h2 : i < K := by omega
  simp only [Oz] at hR
  have ht := q1Q (Γ := Γ) v a n (by omega) (by omega)
  have ih := ih (i + 1) (a + n) (out ++ [⟨Qn v.l a n, none, none⟩]) (by omega) (by simp [ho]) (by omega) (by rw [← ha, Nat.succ_mul]; omega) (by rw [← hR]; simp)
  have vs : Af tV out ++ [[T.sl (Ab (Qn v.l a n)) none none]] = Af tV (out ++ [⟨Qn v.l a n, none, none⟩]) := E0 (f := tV) (x := ⟨Qn v.l a n, none, none⟩)
  have vt : (Af tV out).take i = Af tV out := by rw [← ho]; exact Bh
  have w1 := Dc (i := i) (by omega)
  have wa : IntKind.i64.wrap ((a : Int) + n) = (a : Int) + n := by rw [A4] <;> omega
  generalize Qn v.l a n = row at *
  simp only [tV] at ht
  simp [soE, soH, soT, Fz, tC, A6, A8, Ad, Bl, tV] at ih
  simp [soE, soH, soT, Fz, tC, A6, A8, Ad, Bl, Qu, Aa, A1, hm, e1, e1', hmin, hmin', sh, h2, tV]
  refine A0 ht rfl ?_
  simp [vt, vs, ho, A1, A5, w1, wa]
  refine ⟨by omega, ?_⟩
  rw [hKK]
  simpa using ih
theorem q4i {v : List Int} {n : Nat} : ∀ {k a : Nat}, (Oz v n k a).length = k
 | 0, _ => rfl
 | k + 1, a => by simp [Oz, q4i]
theorem qFu {Q : AX → St → Prop} (v : Sl Int) (c : Ax) (hcm : c.mems.l.length ≤ 16) (hm : ∀ m ∈ c.mems.l, m.addr.l.length ≤ 8 ∧ m.data.l.length ≤ 32) (d : T) (RW : List (Sl (Sl Int))) (RR : List (Sl Int))
  (h0 : ∀ A : Nat, Q (.exit 0) ⟨soE v c A c.mems.l.length ++ [(23, .t (tB false))], soH d RW RR ++ soT RW RR⟩) :
  ∀ (k i a : Nat) (ws : List (Sl (Sl Int))) (rs : List (Sl Int)), k + i = c.mems.l.length → ws.length = i → rs.length = i → a ≤ 1000000 + 10000 * i → ws ++ ofW v.l (c.mems.l.drop i) a = RW → rs ++ ofR v.l (c.mems.l.drop i) a = RR →
  run Tryz.prog Γ Rh Q ⟨soE v c a i, soH d ws rs ++ soT ws rs⟩
 | 0, i, a, ws, rs, h, hw, hr, ha, hW, hR => by
  refine Xm fun K hK => ?_
  have h2 : i = c.mems.l.length := by omega
  subst h2
  rw [List.drop_length] at hW hR
  simp only [ofW, ofR, List.append_nil] at hW hR
  subst hW
  subst hR
  have := h0 a
  simp [soE, soH, soT, Fz, tC, A6, A8, Ad, Bl] at this
  simp [soE, soH, soT, Fz, tC, A6, A8, Ad, Bl, Aa]
  simpa using this
 | k + 1, i, a, ws, rs, h, hw, hr, ha, hW, hR => by
  refine Xm fun K hK => ?_
  have h2 : i < c.mems.l.length := by omega
  rw [List.drop_eq_getElem_cons h2] at hW hR
  simp only [ofW, ofR] at hW hR
  have e1 : (Bc tMm c.mems.l)[i]?.getD [] = tMm c.mems.l[i] := by simp [Bc, h2]
  have e1' : ∀ h, (Bc tMm c.mems.l)[i]'h = tMm c.mems.l[i] := fun h => by simp [Bc]
  obtain ⟨ma, md⟩ := hm _ (List.getElem_mem h2)
  have hge : c.mems.l.getD i Mm.d = c.mems.l[i] := by simp [List.getD_eq_getElem?_getD, h2]
  have g := fun Q n hn h1 h2' A R hA hR h0 => qIl (Γ := Γ) (Q := Q) v c i h2 n (2 ^ (c.mems.l.getD i Mm.d).addr.l.length) hn h1 rfl hcm d ws rs A R h0 (2 ^ (c.mems.l.getD i Mm.d).addr.l.length) 0 a [] (by omega) rfl h2' hA hR
  rw [hge] at g
  generalize c.mems.l[i] = m at *
  have hK256 : 2 ^ m.addr.l.length ≤ 256 := Nat.pow_le_pow_right (by omega) ma
  have hKn : 2 ^ m.addr.l.length * m.data.l.length ≤ 256 * 32 := Nat.mul_le_mul hK256 md
  have g := fun Q h0 => g Q m.data.l.length md ma (by omega) (a + 2 ^ m.addr.l.length * m.data.l.length) (Oz v.l m.data.l.length (2 ^ m.addr.l.length) a) rfl (by simp) h0
  have hrl : (Oz v.l m.data.l.length (2 ^ m.addr.l.length) a).length = 2 ^ m.addr.l.length := q4i
  generalize 2 ^ m.addr.l.length * m.data.l.length = KN at *
  generalize 2 ^ m.addr.l.length = K0 at *
  have ht := q1Q (Γ := Γ) v (a + KN) m.data.l.length (by omega) (by omega)
  have ih := qFu v c hcm hm d RW RR h0 k (i + 1) (a + KN + m.data.l.length) (ws ++ [⟨Oz v.l m.data.l.length K0 a, none, none⟩]) (rs ++ [⟨Qn v.l (a + KN) m.data.l.length, none, none⟩]) (by omega) (by simp [hw]) (by simp [hr]) (by omega) (by rw [← hW]; simp) (by rw [← hR]; simp)
  have vsw : Af tW ws ++ [[T.sl (Af tV (Oz v.l m.data.l.length K0 a)) none none]] = Af tW (ws ++ [⟨Oz v.l m.data.l.length K0 a, none, none⟩]) := E0 (f := tW) (x := ⟨Oz v.l m.data.l.length K0 a, none, none⟩)
  have vsr : Af tV rs ++ [[T.sl (Ab (Qn v.l (a + KN) m.data.l.length)) none none]] = Af tV (rs ++ [⟨Qn v.l (a + KN) m.data.l.length, none, none⟩]) := E0 (f := tV) (x := ⟨Qn v.l (a + KN) m.data.l.length, none, none⟩)
  have vt : (Af tV (Oz v.l m.data.l.length K0 a)).take (Oz v.l m.data.l.length K0 a).length = Af tV (Oz v.l m.data.l.length K0 a) := Bh
  have vtw : (Af tW ws).take i = Af tW ws := by rw [← hw]; exact Bh
  have vtr : (Af tV rs).take i = Af tV rs := by rw [← hr]; exact Bh
  generalize Oz v.l m.data.l.length K0 a = rows at *
  generalize Qn v.l (a + KN) m.data.l.length = rd at *
  have w1 := Dc (i := i) (by omega)
  have wa : IntKind.i64.wrap ((a : Int) + KN + m.data.l.length) = (a : Int) + KN + m.data.l.length := by rw [A4] <;> omega
  have hw1 : ∀ t : T, E4 1 [[t]] := fun t e he => by simp at he; subst he; rfl
  simp only [tMm, Bl] at e1 e1'
  simp only [tV] at ht
  simp [soE, soH, soT, Fz, tC, A6, A8, Ad, Bl, tV, I8, hw, hr] at g ih
  simp [soE, soH, soT, Fz, tC, A6, A8, Ad, Bl, Qu, Aa, A1, h2, e1, e1', tV, hw, hr]
  refine g _ ?_
  simp [St.freeze, B0.closed, Dl, frz1, frz0, Im, del, Ag, vt, vtw, vsw, hw1, A5, A1, hw]
  refine ⟨by omega, ?_⟩
  refine A0 ht rfl ?_
  simp [vtr, vsr, hw1, A5, A1, hr, wa, w1]
  refine ⟨by omega, ?_⟩
  rw [hK]
  simpa using ih
theorem q81 (v : Sl Int) (c : Ax) (hc : COk c) (hn : c.nodes.l.length ≤ 1000000) (hcm : c.mems.l.length ≤ 16) (hm : ∀ m ∈ c.mems.l, m.addr.l.length ≤ 8 ∧ m.data.l.length ≤ 32) : Ae Tryz.prog Γ 14 [.agg [tV v], .agg (tC c)] (.agg (D6 (q0P v.l c))) := by
 refine B5 q6y rfl ?_
 have e1 := qAx (Γ := Γ) c hc 14 hn
 have hsl := Ef c
 have e2 := q1Q (Γ := Γ) v 0 (Ap c).length (by omega) (by omega)
 have g := fun Q d h0 => qFu (Γ := Γ) (Q := Q) v c hcm hm d (ofW v.l c.mems.l (Ap c).length) (ofR v.l c.mems.l (Ap c).length) h0 c.mems.l.length 0 (Ap c).length [] [] (by omega) rfl rfl (by omega) rfl rfl
 have hst : Il [14] c.nodes.l 0 = Ap c := rfl
 rw [hst] at e1
 have tw : (Af tW (ofW v.l c.mems.l (Ap c).length)).take (ofW v.l c.mems.l (Ap c).length).length = Af tW (ofW v.l c.mems.l (Ap c).length) := Bh
 have tr : (Af tV (ofR v.l c.mems.l (Ap c).length)).take (ofR v.l c.mems.l (Ap c).length).length = Af tV (ofR v.l c.mems.l (Ap c).length) := Bh
 unfold q0P
 generalize ofW v.l c.mems.l (Ap c).length = W at *
 generalize ofR v.l c.mems.l (Ap c).length = R at *
 generalize Qn v.l 0 (Ap c).length = D at *
 simp [soE, soH, soT, Fz, tC, A6, A8, Ad, Bl, tV, I8] at e1 e2 g
 simp [q2V, tC, A6, A8, Ad, Bl, tV]
 refine A9 e1 rfl ?_
 simp [A1]
 refine A0 e2 rfl ?_
 simp
 refine g _ _ fun A => ?_
 simp [St.freeze, B0.closed, Dl, frz1, frz0, Im, del, Ag, tw, tr, q2W, D6, tV, tW, tWs]
end Go.Lg
namespace Go.Lg
open Go Go.Proofs
def V3 (v : Int) : Prop := 0 ≤ v ∧ v ≤ 2
theorem V3.four {v : Int} (h : V3 v) : V4 v := by unfold V3 V4 at *; omega
theorem qEB {l : List Int} (h : ∀ v ∈ l, V3 v) (i : Nat) : V3 (l.getD i 0) := by
 by_cases hi : i < l.length
 ·rw [Aw hi]; exact h _ (List.getElem_mem hi)
 ·rw [List.getD_eq_getElem?_getD, List.getElem?_eq_none (by omega)]; exact ⟨by simp, by simp⟩
theorem qH6 {l : List Int} (hl : ∀ v ∈ l, 0 ≤ v) (a i : Nat) : V3 (q5a l a i) := by
 unfold q5a
 split
 ·exact ⟨by omega, by omega⟩
 ·rename_i h
  have hpos : 0 < l.length := List.length_pos_iff.2 h
  have h0 : 0 ≤ l.getD ((a + i) % l.length) 0 := by
   rw [Aw (Nat.mod_lt _ hpos)]; exact hl _ (List.getElem_mem _)
  generalize l.getD ((a + i) % l.length) 0 = u at *
  rw [Int.tmod_eq_emod_of_nonneg h0]
  have := Int.emod_nonneg u (show (3 : Int) ≠ 0 by omega)
  have := Int.emod_lt_of_pos u (show (0 : Int) < 3 by omega)
  exact ⟨by omega, by omega⟩
theorem qB3 {l : List Int} (hl : ∀ v ∈ l, 0 ≤ v) {a n : Nat} : ∀ v ∈ Qn l a n, V3 v := by
 intro v hv
 obtain ⟨i, _, rfl⟩ := List.mem_map.1 hv
 exact qH6 hl a i
theorem q1n {v : List Int} {n : Nat} {r : Sl Int} : ∀ {k a : Nat}, r ∈ Oz v n k a → ∃ a', r = ⟨Qn v a' n, none, none⟩
 | 0, _, h => by cases h
 | k + 1, a, h => by
  rcases List.mem_cons.1 h with rfl | h
  ·exact ⟨a, rfl⟩
  ·exact q1n h
theorem q5m {v : List Int} : ∀ {ms : List Mm} {a : Nat}, (ofW v ms a).length = ms.length
 | [], _ => rfl
 | m :: ms, a => by simp [ofW, q5m]
theorem q5n {v : List Int} : ∀ {ms : List Mm} {a : Nat}, (ofR v ms a).length = ms.length
 | [], _ => rfl
 | m :: ms, a => by simp [ofR, q5n]
theorem q43 {v : List Int} : ∀ {ms : List Mm} {a i : Nat}, i < ms.length → ∃ a', (ofW v ms a).getD i Sl.zz = ⟨Oz v (ms.getD i Mm.d).data.l.length (2 ^ (ms.getD i Mm.d).addr.l.length) a', none, none⟩
 | m :: ms, a, 0, _ => ⟨a, rfl⟩
 | m :: ms, a, i + 1, h => q43 (ms := ms) (by simpa using h)
theorem q5o {v : List Int} : ∀ {ms : List Mm} {a i : Nat}, i < ms.length → ∃ a', (ofR v ms a).getD i Sl.z = ⟨Qn v a' (ms.getD i Mm.d).data.l.length, none, none⟩
 | m :: ms, a, 0, _ => ⟨a + 2 ^ m.addr.l.length * m.data.l.length, rfl⟩
 | m :: ms, a, i + 1, h => q5o (ms := ms) (by simpa using h)
theorem W3 {α : Type} {l : List α} {x : α} (d : α) (h : x ∈ l) : ∃ i, i < l.length ∧ l.getD i d = x := by
 obtain ⟨i, hi, rfl⟩ := List.getElem_of_mem h
 exact ⟨i, hi, by simp [List.getD_eq_getElem?_getD, hi]⟩
theorem qBt {v : List Int} (hv : ∀ x ∈ v, 0 ≤ x) (c : Ax) : Nv c (q0P v c) := by
 refine ⟨q42, q5m, q5n, fun i hi => ?_, fun i hi w hw => ?_, fun i hi => ?_, qB3 hv, fun w hw r hr => ?_, fun r hr => ?_⟩
 ·obtain ⟨a, e⟩ := q43 (v := v) (a := (Ap c).length) hi
  show ((ofW v c.mems.l _).getD i Sl.zz).l.length = _
  rw [e]; exact q4i
 ·obtain ⟨a, e⟩ := q43 (v := v) (a := (Ap c).length) hi
  have hw : w ∈ ((ofW v c.mems.l (Ap c).length).getD i Sl.zz).l := hw
  rw [e] at hw
  obtain ⟨a', rfl⟩ := q1n hw
  exact q42
 ·obtain ⟨a, e⟩ := q5o (v := v) (a := (Ap c).length) hi
  show ((ofR v c.mems.l _).getD i Sl.z).l.length = _
  rw [e]; exact q42
 ·obtain ⟨i, hi, rfl⟩ := W3 Sl.zz hw
  have hi' : i < c.mems.l.length := by have : (q0P v c).words.l.length = c.mems.l.length := q5m; omega
  obtain ⟨a, e⟩ := q43 (v := v) (a := (Ap c).length) hi'
  have hr : r ∈ ((ofW v c.mems.l (Ap c).length).getD i Sl.zz).l := hr
  rw [e] at hr
  obtain ⟨a', rfl⟩ := q1n hr
  exact qB3 hv
 ·obtain ⟨i, hi, rfl⟩ := W3 Sl.z hr
  have hi' : i < c.mems.l.length := by have : (q0P v c).read.l.length = c.mems.l.length := q5n; omega
  obtain ⟨a, e⟩ := q5o (v := v) (a := (Ap c).length) hi'
  have e : (q0P v c).read.l.getD i Sl.z = ⟨Qn v a (c.mems.l.getD i Mm.d).data.l.length, none, none⟩ := e
  rw [e]
  exact qB3 hv
theorem q8a {w : List Int} (h : ∀ v ∈ w, V3 v) (b : Nat) : V3 (Y3 w b) := by
 unfold Y3
 split
 ·have := qEB h b
  unfold Du V3 at *
  split <;> omega
 ·exact ⟨by omega, by omega⟩
theorem qBu {w : List Int} (h : ∀ v ∈ w, V4 v) (b : Nat) : V3 (Y3 w b) := by
 unfold Y3
 split
 ·have := Y1 h b
  unfold Du V3 V4 at *
  split <;> omega
 ·exact ⟨by omega, by omega⟩
theorem qBv {a b : Int} (ha : V3 a) (hb : V3 b) : V3 (q2Q a b) := by
 unfold q2Q
 split
 ·exact ha
 ·exact ⟨by omega, by omega⟩
theorem q82 {w : List Int} {f : Bool} : ∀ {k b : Nat} {o : List Int}, (U5 w f k b o).length = o.length
 | 0, _, _ => rfl
 | k + 1, b, o => by simp only [U5]; rw [q82, List.length_set]
theorem qBw {w : List Int} (hw : ∀ v ∈ w, V3 v) {f : Bool} : ∀ {k b : Nat} {o : List Int}, (∀ v ∈ o, V3 v) → ∀ v ∈ U5 w f k b o, V3 v
 | 0, _, _, h => h
 | k + 1, b, o, h => by
  simp only [U5]
  refine qBw hw fun v hv => ?_
  rcases List.mem_or_eq_of_mem_set hv with hv | rfl
  ·exact h v hv
  ·split
   ·exact q8a hw b
   ·exact qBv (qEB h b) (q8a hw b)
theorem q8b {addr : List Int} : ∀ {ws : List (List Int)} {i : Nat} {s : List Int × Bool}, (∀ w ∈ ws, ∀ v ∈ w, V3 v) → (∀ v ∈ s.1, V3 v) → (q1J addr i ws s).1.length = s.1.length ∧ ∀ v ∈ (q1J addr i ws s).1, V3 v
 | [], _, _, _, h => ⟨rfl, h⟩
 | w :: ws, i, s, hw, h => by
  simp only [q1J]
  have hw' : ∀ x ∈ ws, ∀ v ∈ x, V3 v := fun x hx => hw x (List.mem_cons_of_mem _ hx)
  by_cases hm : Ov i addr = true
  ·rw [if_pos hm]
   have := q8b (addr := addr) (i := i + 1) (s := (U5 w s.2 s.1.length 0 s.1, false)) hw' (qBw (hw w List.mem_cons_self) h)
   exact ⟨this.1.trans q82, this.2⟩
  ·rw [if_neg hm]
   exact q8b (addr := addr) (i := i + 1) hw' h
theorem q9t {words : List (List Int)} {addr : List Int} (hw : ∀ w ∈ words, ∀ v ∈ w, V3 v) : (Vz words addr).length = (words.headD []).length ∧ ∀ v ∈ Vz words addr, V3 v := by
 cases words with
 | nil => exact ⟨rfl, fun v h => by cases h⟩
 | cons w ws =>
  have := q8b (addr := addr) (i := 0) (s := (List.replicate w.length 2, true)) hw (fun v hv => by rw [List.eq_of_mem_replicate hv]; exact ⟨by omega, by omega⟩)
  exact ⟨this.1.trans (by simp), this.2⟩
theorem q3B {addr data : List Int} {en : Int} {r : List Int} : ∀ {ws : List (List Int)} {i : Nat}, r ∈ Eg addr data en i ws → ∃ i' w, w ∈ ws ∧ r = Qm i' addr data en w w.length 0
 | [], _, h => by cases h
 | w :: ws, i, h => by
  rcases List.mem_cons.1 h with rfl | h
  ·exact ⟨i, w, List.mem_cons_self, rfl⟩
  ·obtain ⟨i', w', h1, h2⟩ := q3B h
   exact ⟨i', w', List.mem_cons_of_mem _ h1, h2⟩
theorem qEC {addr data w : List Int} {en : Int} {i : Nat} (hw : ∀ v ∈ w, V3 v) (hd : ∀ v ∈ data, V4 v) : ∀ v ∈ Qm i addr data en w w.length 0, V3 v := by
 intro v hv
 obtain ⟨j, hj, rfl⟩ := W3 0 hv
 rw [Zz] at hj
 rw [q37 hj]
 unfold q1K
 split
 ·exact q8a hw _
 split
 ·exact qBu hd _
 ·exact qBv (q8a hw _) (qBu hd _)
theorem q4j {nets : List Int} {ms : List Mm} {ws : List (Sl (Sl Int))} (h : ws.length = ms.length) : (Js nets ms ws).length = ms.length := by unfold Js; rw [List.length_zipWith, h, Nat.min_self]
theorem q4k {nets : List Int} {ms : List Mm} {ws : List (Sl (Sl Int))} (h : ws.length = ms.length) : (Lp nets ms ws).length = ms.length := by unfold Lp; rw [List.length_zipWith, h, Nat.min_self]
theorem q1o {α : Type} {l : List α} {i : Nat} {d : α} (h : i < l.length) : l.getD i d = l[i] := by simp [List.getD_eq_getElem?_getD, h]
theorem q4l {nets : List Int} {ms : List Mm} {ws : List (Sl (Sl Int))} (h : ws.length = ms.length) {i : Nat} (hi : i < ms.length) :
  (Js nets ms ws).getD i Sl.zz = Gy (Eg (Bf nets (ms.getD i Mm.d).addr.l) (Bf nets (ms.getD i Mm.d).data.l) (nets.getD (ms.getD i Mm.d).write.toNat 0) 0 ((ws.getD i Sl.zz).l.map (·.l))) := by
 have h1 : i < ws.length := by omega
 have h2 : i < (Js nets ms ws).length := by rw [q4j h]; exact hi
 rw [q1o h2, q1o hi, q1o h1]
 simp only [Js, List.getElem_zipWith]
theorem q83 {nets : List Int} {ms : List Mm} {ws : List (Sl (Sl Int))} (h : ws.length = ms.length) {i : Nat} (hi : i < ms.length) :
  (Lp nets ms ws).getD i Sl.z = ⟨Vz ((ws.getD i Sl.zz).l.map (·.l)) (Bf nets (ms.getD i Mm.d).addr.l), none, none⟩ := by
 have h1 : i < ws.length := by omega
 have h2 : i < (Lp nets ms ws).length := by rw [q4k h]; exact hi
 rw [q1o h2, q1o hi, q1o h1]
 simp only [Lp, List.getElem_zipWith]
theorem qED {nets l : List Int} (h : ∀ v ∈ nets, V4 v) : ∀ v ∈ Bf nets l, V4 v := by
 intro v hv
 obtain ⟨q, _, rfl⟩ := List.mem_map.1 hv
 exact Y1 h _
theorem qEE {c : Ax} {nets : List Int} (h : ∀ v ∈ nets, V4 v) : ∀ v ∈ C6 c nets, V3 v := by
 intro v hv
 obtain ⟨n, _, rfl⟩ := List.mem_map.1 hv
 unfold q5A Qh
 split
 ·split
  ·exact ⟨by unfold Du; omega, by unfold Du; omega⟩
  ·have := Y1 h ((G5 c n.toNat).getD 0 0).toNat
   generalize nets.getD ((G5 c n.toNat).getD 0 0).toNat 0 = u at *
   unfold V4 at this
   unfold V3 Du E2
   constructor <;> (split <;> split <;> omega)
 ·exact ⟨by omega, by omega⟩
theorem qEF {c : Ax} (h : MOk c) {s : Stt} (H : Nv c s) {nets : List Int} (hv : ∀ v ∈ nets, V4 v) : Nv c (Sj c s nets) := by
 have hwm : ∀ i, i < c.mems.l.length → ∀ r ∈ ((s.words.l.getD i Sl.zz).l.map (·.l)), ∀ v ∈ r, V3 v := fun i hi r hr v hvv => by
  obtain ⟨x, hx, rfl⟩ := List.mem_map.1 hr
  exact H.vw _ (q1m (by rw [H.w]; exact hi)) x hx v hvv
 have hsw := H.w
 refine ⟨by simp [Sj, C6], q4j hsw, q4k hsw, fun i hi => ?_, fun i hi w hw => ?_, fun i hi => ?_, qEE hv, fun w hw r hr => ?_, fun r hr => ?_⟩
 ·show ((Js nets c.mems.l s.words.l).getD i Sl.zz).l.length = _
  rw [q4l hsw hi]
  simp only [Gy, List.length_map, q39]
  exact H.wl i hi
 ·have hw : w ∈ ((Js nets c.mems.l s.words.l).getD i Sl.zz).l := hw
  rw [q4l hsw hi] at hw
  simp only [Gy] at hw
  obtain ⟨r, hr, rfl⟩ := List.mem_map.1 hw
  obtain ⟨i', w', hw', rfl⟩ := q3B hr
  obtain ⟨x, hx, rfl⟩ := List.mem_map.1 hw'
  show (Qm _ _ _ _ _ _ _).length = _
  rw [Zz]
  exact H.wr i hi x hx
 ·show ((Lp nets c.mems.l s.words.l).getD i Sl.z).l.length = _
  rw [q83 hsw hi]
  simp only
  rw [(q9t (hwm i hi)).1]
  have hlen := H.wl i hi
  have hwr := H.wr i hi
  cases hW : (s.words.l.getD i Sl.zz).l with
  | nil =>
   rw [hW] at hlen
   have := Nat.pow_pos (n := (c.mems.l.getD i Mm.d).addr.l.length) (show 0 < 2 by omega)
   simp only [List.length_nil] at hlen
   omega
  | cons x xs =>
   rw [hW] at hwr
   exact hwr x List.mem_cons_self
 ·obtain ⟨i, hi, rfl⟩ := W3 Sl.zz hw
  have hi' : i < c.mems.l.length := by have : (Sj c s nets).words.l.length = c.mems.l.length := q4j hsw; omega
  have hr : r ∈ ((Js nets c.mems.l s.words.l).getD i Sl.zz).l := hr
  rw [q4l hsw hi'] at hr
  simp only [Gy] at hr
  obtain ⟨q, hq, rfl⟩ := List.mem_map.1 hr
  obtain ⟨i', w', hw', rfl⟩ := q3B hq
  exact qEC (hwm i hi' w' hw') (qED hv)
 ·obtain ⟨i, hi, rfl⟩ := W3 Sl.z hr
  have hi' : i < c.mems.l.length := by have : (Sj c s nets).read.l.length = c.mems.l.length := q4k hsw; omega
  have e : (Sj c s nets).read.l.getD i Sl.z = _ := q83 hsw hi'
  rw [e]
  exact (q9t (hwm i hi')).2
theorem qEG {c : Ax} : ∀ {o nets : List Int}, (∀ v ∈ nets, V4 v) → ∀ v ∈ q2x c o nets, V4 v
 | [], nets, h => h
 | n :: o, nets, h => qEG (o := o) (nets := Nn c nets n) (q8Q h)
theorem qBx {c : Ax} {s : Stt} (H : Nv c s) {inn : List Int} (hv : ∀ v ∈ inn, V4 v) : ∀ v ∈ Si c inn s.dff.l s.rd, V4 v := by
 refine q1i (fun v hvm => ?_) (q1i (fun v h => (show V3 v from H.vd v h).four) (q1i hv fun v hv => by rw [(List.mem_replicate.1 hv).2]; simp [V4]))
 obtain ⟨n, _, rfl⟩ := List.mem_map.1 hvm
 by_cases hm : (nd c n).mem.toNat < s.rd.length
 ·refine Y1 (fun v hv => ?_) _
  have hmem := q1m (d := ([] : List Int)) hm
  obtain ⟨r, hr, e⟩ := List.mem_map.1 hmem
  rw [← e] at hv
  exact (show V3 v from H.vr r hr v hv).four
 ·have e : s.rd.getD (nd c n).mem.toNat [] = [] := by rw [List.getD_eq_getElem?_getD, List.getElem?_eq_none (by omega)]; rfl
  rw [e]
  exact ⟨by simp, by simp⟩
theorem qFF {c : Ax} {s : Stt} (H : Nv c s) {inn : List Int} (hv : ∀ v ∈ inn, V4 v) : ∀ v ∈ B8 c s inn, V4 v := qEG (qBx H hv)
theorem qEH {c : Ax} (h : Cj c = 0) : ∀ x ∈ mems c, 0 ≤ (nd c x).mem ∧ (nd c x).mem < c.mems.l.length ∧ 0 ≤ (nd c x).bit ∧ (nd c x).bit < (c.mems.l.getD (nd c x).mem.toNat Mm.d).data.l.length := by
 intro x hx
 obtain ⟨h0, h1, h2⟩ := Gv x hx
 have hi : x.toNat < c.nodes.l.length := by omega
 have hne := (Eb (Fb h).1).2.2.1 _ (q8P h0 h1)
 have hk : (nd c x).k = 15 := by
  have := q0m [15] c.nodes.l 0 x hx
  simpa [nd] using this.2.2
 unfold Cc at hne
 rw [if_neg (by omega)] at hne
 split at hne
 ·cases hne
 split at hne
 ·cases hne
 split at hne
 ·cases hne
 split at hne
 ·cases hne
 rename_i hb
 simp [Yh, hk] at hb
 exact hb
theorem q9u {Γ : Tables} (hΓ : GOk Γ) {c : Ax} (h : MOk c) (hn : c.nodes.l.length ≤ 19) {s : Stt} (H : Nv c s) (inn : Sl Int) (hi : inn.l.length = (Be c).length) (hv : ∀ v ∈ inn.l, V4 v) :
  Ae Tryz.prog Γ 11 [.agg (tC c), .agg (D6 s), tV inn] (.tup [.agg (D6 (Sj c s (B8 c s inn.l))), .agg [tVs (Vq c (B8 c s inn.l)), tVs (C6 c (B8 c s inn.l))], .sl (Ab (B8 c s inn.l)) (some c.nodes.l.length) none, tI 0]) :=
 qB2 hΓ c h hn s H inn hi hv (qEH h.lev) (qFF H hv) (qBx H hv)
end Go.Lg
namespace Go.Lg
open Go Go.Proofs
variable {Γ : Tables}
theorem qBy (a b : List UInt8) : ByteArray.mk a.toArray ++ ByteArray.mk b.toArray = ByteArray.mk (a ++ b).toArray := by
 apply ByteArray.ext
 simp [ByteArray.data_append]
def q44 (l : List (Sl Int)) : List UInt8 := l.flatMap fun r => q2P r.l ++ [44]
theorem qCn {l : List Int} : (q2P l).length = l.length := by simp [q2P]
theorem qFv {Q : AX → St → Prop} (w : Sl (Sl Int)) (hl : w.l.length ≤ 1000) (hr : ∀ r ∈ w.l, r.l.length ≤ 1000 ∧ ∀ v ∈ r.l, 0 ≤ v) (R : List UInt8)
  (h0 : Q (.exit 0) ⟨[(0, .t (tW w)), (3, .t (tS R)), (4, .t (tI w.l.length)), (8, .t (tB false))], []⟩) :
  ∀ (k i : Nat) (s : List UInt8), k + i = w.l.length → s.length ≤ 2000 * i → s ++ q44 (w.l.drop i) = R →
  run Tryz.prog Γ Ri Q ⟨[(0, .t (tW w)), (3, .t (tS s)), (4, .t (tI i))], []⟩
 | 0, i, s, h, hs, hR => by
  refine Xn fun K hK => ?_
  have h2 : i = w.l.length := by omega
  subst h2
  rw [List.drop_length] at hR
  simp only [q44, List.flatMap_nil, List.append_nil] at hR
  subst hR
  simp [tW] at h0
  simp [tW, A1]
  simpa using h0
 | k + 1, i, s, h, hs, hR => by
  refine Xn fun K hK => ?_
  have h2 : i < w.l.length := by omega
  rw [List.drop_eq_getElem_cons h2] at hR
  simp only [q44, List.flatMap_cons] at hR
  have e1 := gE (f := tV) Sl.z h2
  have e1' := gE' (f := tV) Sl.z h2
  rw [show w.l.getD i Sl.z = w.l[i] by simp [List.getD_eq_getElem?_getD, h2]] at e1 e1'
  obtain ⟨hr1, hr2⟩ := hr _ (List.getElem_mem h2)
  generalize w.l[i] = r at *
  have ht := q7v (Γ := Γ) r (by omega) hr2
  have tl := qCn (l := r.l)
  have ih := qFv w hl hr R h0 k (i + 1) (s ++ q2P r.l ++ [44]) (by omega) (by simp; omega) (by rw [← hR]; simp [q44])
  generalize q2P r.l = tx at *
  have b1 := qBy s tx
  have b2 := qBy (s ++ tx) [44]
  have w1 := Dc (i := i) (by omega)
  simp only [tS, sV] at ht ih
  simp only [tV] at e1 e1' ht
  simp [tW] at ih
  simp [tW, A1, A5, h2, e1, e1', tS, sV]
  refine A0 ht rfl ?_
  simp at b1 b2 ih
  simp [b1, b2, w1, tl]
  refine ⟨by omega, by omega, ?_⟩
  rw [hK]
  simpa using ih
theorem qB4 (w : Sl (Sl Int)) (hl : w.l.length ≤ 1000) (hr : ∀ r ∈ w.l, r.l.length ≤ 1000 ∧ ∀ v ∈ r.l, 0 ≤ v) : A3 Tryz.prog Γ 58 [tW w] (tS (q44 w.l)) := by
 refine A7 q6z rfl ?_
 have g := fun Q h0 => qFv (Γ := Γ) (Q := Q) w hl hr (q44 w.l) h0 w.l.length 0 [] (by omega) (by simp) (by simp)
 generalize q44 w.l = R at *
 simp [tW, tS, sV] at g
 simp [q2Y, tW, tS, sV]
 refine g _ ?_
 simp [q2Z]
theorem qEI {Q : AX → St → Prop} (s : List UInt8) (hl : s.length ≤ 1000) (hs : ∀ b ∈ s, b = 48 ∨ b = 49 ∨ b = 88 ∨ b = 90)
  (h0 : Q (.exit 0) ⟨[(0, .t (tS s)), (4, .ls 9 0 s.length none), (11, .t (tI s.length)), (12, .t (tI s.length)), (13, .t (tB false))], [(9, .sl 61 1 (Ab (s.map Qi)))]⟩) :
  ∀ (k i : Nat), k + i = s.length →
  run Tryz.prog Γ Oq Q ⟨[(0, .t (tS s)), (4, .ls 9 0 s.length none), (11, .t (tI s.length)), (12, .t (tI i))], [(9, .sl 61 1 (Ab ((s.map Qi).take i ++ List.replicate (s.length - i) 0)))]⟩
 | 0, i, h => by
  refine Vt fun K hK => ?_
  have h2 : i = s.length := by omega
  subst h2
  rw [List.take_of_length_le (by simp), Nat.sub_self, List.replicate_zero, List.append_nil]
  simp
  simpa using h0
 | k + 1, i, h => by
  refine Vt fun K hK => ?_
  have h2 : i < s.length := by omega
  have h2R : i < (s.map Qi).length := by simpa using h2
  have ih := qEI s hl hs h0 k (i + 1) (by omega)
  have hb := hs _ (List.getElem_mem h2)
  have hget : (s[i]?.getD 0) = s[i] := by simp [h2]
  have hRi : (s.map Qi)[i] = Qi s[i] := by simp
  have hset : ∀ v : Int, v = Qi s[i] → (Ab ((s.map Qi).take i ++ List.replicate (s.length - i) 0)).set i [tK v] = Ab ((s.map Qi).take (i + 1) ++ List.replicate (s.length - (i + 1)) 0) := by
   rintro v rfl
   rw [show (Ab ((s.map Qi).take i ++ List.replicate (s.length - i) 0)).set i [tK (Qi s[i])] = Ab (((s.map Qi).take i ++ List.replicate (s.length - i) 0).set i (Qi s[i])) from Ep]
   congr 1
   have ht : ((s.map Qi).take i).length = i := by rw [List.length_take]; omega
   rw [List.set_append_right _ _ (by omega), ht, Nat.sub_self, show s.length - i = (s.length - (i + 1)) + 1 by omega, List.replicate_succ, List.set_cons_zero, List.take_add_one, List.getElem?_eq_getElem h2R, hRi]
   simp
  have hel : (Ab ((s.map Qi).take i ++ List.replicate (s.length - i) 0)).length = s.length := by rw [A1]; simp; omega
  generalize Ab ((s.map Qi).take i ++ List.replicate (s.length - i) 0) = E at *
  generalize Ab ((s.map Qi).take (i + 1) ++ List.replicate (s.length - (i + 1)) 0) = E' at *
  generalize hbq : s[i] = b at *
  have hi := q0j (Γ := Γ) (ByteArray.mk #[48, 49, 88, 90]) (b.toNat : Int)
  have hx : Lib.indexByte (ByteArray.mk #[48, 49, 88, 90]).data.toList ((b.toNat : Int)).toNat.toUInt8 = Qi b := by
   rcases hb with rfl | rfl | rfl | rfl <;> rfl
  rw [hx] at hi
  have hp : 0 ≤ Qi b ∧ Qi b ≤ 3 := by rcases hb with rfl | rfl | rfl | rfl <;> decide
  have hset := hset _ rfl
  generalize Qi b = v at *
  have hneg : ¬ v < 0 := by omega
  have wv : IntKind.u8.wrap v = v := by rw [B7] <;> omega
  have w1 := Dc (i := i) (by omega)
  simp [tS, sV] at ih
  simp [tS, sV, h2, hget, hbq]
  refine A0 hi rfl ?_
  simp [hneg, wv, h2, hel, hset, w1]
  rw [hK]
  simpa using ih
theorem qB5 (s : List UInt8) (hl : s.length ≤ 1000) (hs : ∀ b ∈ s, b = 48 ∨ b = 49 ∨ b = 88 ∨ b = 90) : A3 Tryz.prog Γ 108 [tS s] (.tup [.sl (Ab (s.map Qi)) none none, tI 0]) := by
 refine A7 q5X rfl ?_
 have g := fun Q h0 => qEI (Γ := Γ) (Q := Q) s hl hs h0 s.length 0 (by omega)
 have hz : Ab ((s.map Qi).take 0 ++ List.replicate (s.length - 0) 0) = List.replicate s.length [tK 0] := by simp [Af]
 rw [hz] at g
 have vt : (Ab (s.map Qi)).take s.length = Ab (s.map Qi) := List.take_of_length_le (by rw [A1]; simp)
 simp [tS, sV] at g
 simp [q1C, tS, sV]
 refine ⟨by omega, g _ ?_⟩
 simp [q1D, Ag, vt]
theorem q8c (s : List UInt8) (hl : s.length ≤ 1000) (hs : ∀ b ∈ s, b = 48 ∨ b = 49 ∨ b = 88 ∨ b = 90) : Ae Tryz.prog Γ 56 [tS s] (.sl (Ab (s.map Qi)) none none) := by
 refine B5 q4h rfl ?_
 have e := qB5 (Γ := Γ) s hl hs
 generalize Ab (s.map Qi) = E at *
 simp only [tS, sV] at e
 simp [q0D, tS, sV]
 refine A0 e rfl ?_
 simp [q0E]
def ex4 : Sl (Sl Int) := ⟨[⟨[0, 0], none, none⟩, ⟨[0, 1], none, none⟩, ⟨[1, 0], none, none⟩, ⟨[1, 1], none, none⟩], some 4, some false⟩
def qH7 : T := .sl [[.sl (Ab [0, 0]) none none], [.sl (Ab [0, 1]) none none], [.sl (Ab [1, 0]) none none], [.sl (Ab [1, 1]) none none]] (some 4) (some false)
theorem q70 (s : List UInt8) (l : List Int) (hs : ∀ b ∈ s, b = 48 ∨ b = 49 ∨ b = 88 ∨ b = 90) (hl : s.length ≤ 1000) (h : s.map Qi = l) : Ae Tryz.prog Γ 56 [.v (.string ⟨s.toArray⟩)] (.sl (Ab l) none none) := by
 have := q8c (Γ := Γ) s hl hs
 rwa [h] at this
theorem qB6 (a R : List Int) (ha : ∀ v ∈ a, 0 ≤ v) (hl : a.length ≤ 1000) (h : Vz [[0, 0], [0, 1], [1, 0], [1, 1]] a = R) : Ae Tryz.prog Γ 45 [qH7, .sl (Ab a) none none] (.sl (Ab R) none none) := by
 have := q7y (Γ := Γ) ex4 (by decide) (by decide) ⟨a, none, none⟩ (by show a.length ≤ _; omega) ha
 rw [if_neg (by simp [ex4])] at this
 have e : Vz (ex4.l.map (·.l)) a = R := h
 simp only [e] at this
 exact this
theorem q8d (a d : List Int) (en : Int) (R : List (List Int)) (ha : ∀ v ∈ a, 0 ≤ v) (hl : a.length ≤ 1000) (hd : d.length ≤ 1000) (h : Eg a d en 0 [[0, 0], [0, 1], [1, 0], [1, 1]] = R) : Ae Tryz.prog Γ 46 [qH7, .sl (Ab a) none none, .sl (Ab d) none none, tK en] (tW (Gy R)) := by
 have := q6w (Γ := Γ) ex4 (by decide) (by decide) ⟨a, none, none⟩ ⟨d, none, none⟩ (by show a.length ≤ _; omega) ha (by show d.length ≤ _; omega) en
 have e : Eg a d en 0 (ex4.l.map (·.l)) = R := h
 simp only [e] at this
 rw [q9s] at this
 exact this
theorem qEJ (l : List Int) (s : List UInt8) (hl : l.length ≤ 1000) (hv : ∀ v ∈ l, 0 ≤ v) (h : q2P l = s) : A3 Tryz.prog Γ 57 [.sl (Ab l) none none] (.v (.string ⟨s.toArray⟩)) := by
 have := q7v (Γ := Γ) ⟨l, none, none⟩ (by show l.length ≤ _; omega) hv
 simp only [h] at this
 exact this
theorem qFw (R : List (List Int)) (s : List UInt8) (hl : R.length ≤ 1000) (hr : ∀ r ∈ R, r.length ≤ 1000 ∧ ∀ v ∈ r, 0 ≤ v) (h : R.flatMap (fun r => q2P r ++ [44]) = s) : A3 Tryz.prog Γ 58 [tW (Gy R)] (.v (.string ⟨s.toArray⟩)) := by
 have := qB4 (Γ := Γ) (Gy R) (by simp [Gy]; exact hl) (fun r hr' => by
  obtain ⟨x, hx, rfl⟩ := List.mem_map.1 hr'
  exact hr x hx)
 have e : q44 (Gy R).l = s := by
  rw [← h]
  simp [q44, Gy, List.flatMap_map]
 rw [e] at this
 exact this
theorem q8e : Ae Tryz.prog Γ 17 [] (tB true) := by
 refine B5 q5Z rfl ?_
 have v00 := q70 (Γ := Γ) [48, 48] [0, 0] (by decide) (by decide) (by decide)
 have v01 := q70 (Γ := Γ) [48, 49] [0, 1] (by decide) (by decide) (by decide)
 have v10 := q70 (Γ := Γ) [49, 48] [1, 0] (by decide) (by decide) (by decide)
 have v11 := q70 (Γ := Γ) [49, 49] [1, 1] (by decide) (by decide) (by decide)
 have vX0 := q70 (Γ := Γ) [88, 48] [2, 0] (by decide) (by decide) (by decide)
 have vXX := q70 (Γ := Γ) [88, 88] [2, 2] (by decide) (by decide) (by decide)
 have v1X := q70 (Γ := Γ) [49, 88] [1, 2] (by decide) (by decide) (by decide)
 have l1 := qB6 (Γ := Γ) [1, 0] [0, 1] (by decide) (by decide) (by decide)
 have l2 := qB6 (Γ := Γ) [2, 0] [0, 2] (by decide) (by decide) (by decide)
 have l3 := qB6 (Γ := Γ) [2, 2] [2, 2] (by decide) (by decide) (by decide)
 have t1 := qEJ (Γ := Γ) [0, 1] [48, 49] (by decide) (by decide) (by decide)
 have t2 := qEJ (Γ := Γ) [0, 2] [48, 88] (by decide) (by decide) (by decide)
 have t3 := qEJ (Γ := Γ) [2, 2] [88, 88] (by decide) (by decide) (by decide)
 have s1 := q8d (Γ := Γ) [1, 2] [1, 1] 1 [[0, 0], [2, 1], [1, 0], [1, 1]] (by decide) (by decide) (by decide) (by decide)
 have s2 := q8d (Γ := Γ) [1, 0] [1, 1] 1 [[0, 0], [1, 1], [1, 0], [1, 1]] (by decide) (by decide) (by decide) (by decide)
 have s3 := q8d (Γ := Γ) [1, 0] [1, 1] 2 [[0, 0], [2, 1], [1, 0], [1, 1]] (by decide) (by decide) (by decide) (by decide)
 have x1 := qFw (Γ := Γ) [[0, 0], [2, 1], [1, 0], [1, 1]] [48, 48, 44, 88, 49, 44, 49, 48, 44, 49, 49, 44] (by decide) (by decide) (by decide)
 have x2 := qFw (Γ := Γ) [[0, 0], [1, 1], [1, 0], [1, 1]] [48, 48, 44, 49, 49, 44, 49, 48, 44, 49, 49, 44] (by decide) (by decide) (by decide)
 simp [qH7] at l1 l2 l3 s1 s2 s3
 generalize tW (Gy [[0, 0], [2, 1], [1, 0], [1, 1]]) = A at *
 generalize tW (Gy [[0, 0], [1, 1], [1, 0], [1, 1]]) = B at *
 simp [q1O, sV]
 refine A9 v00 rfl ?_
 simp
 refine A9 v01 rfl ?_
 simp
 refine A9 v10 rfl ?_
 simp
 refine A9 v11 rfl ?_
 simp
 refine A9 v10 rfl ?_
 simp
 refine A9 l1 rfl ?_
 simp
 refine A0 t1 rfl ?_
 simp
 refine A9 vX0 rfl ?_
 simp
 refine A9 l2 rfl ?_
 simp
 refine A0 t2 rfl ?_
 simp
 refine A9 vXX rfl ?_
 simp
 refine A9 l3 rfl ?_
 simp
 refine A0 t3 rfl ?_
 simp
 refine A9 v1X rfl ?_
 simp
 refine A9 v11 rfl ?_
 simp
 refine A9 s1 rfl ?_
 simp
 refine A0 x1 rfl ?_
 simp
 refine A9 v10 rfl ?_
 simp
 refine A9 v11 rfl ?_
 simp
 refine A9 s2 rfl ?_
 simp
 refine A0 x2 rfl ?_
 simp
 refine A9 v10 rfl ?_
 simp
 refine A9 v11 rfl ?_
 simp
 refine A9 s3 rfl ?_
 simp
 refine A0 x1 rfl ?_
 simp [q1P]
def q3C (v : Sl Int) (q : PD) : List T := tV v :: tPD q
theorem qCo (v : Sl Int) (q : PD) (hq : q8S q) (c : Ax) (h : MOk c) : Ae Tryz.prog Γ 10 [.agg (q3C v q), .agg (tC c)] (.tup [.agg (D6 (q0P v.l c)), tV (q6q q c).inn]) := by
 refine B5 q3A rfl ?_
 have e1 := q81 (Γ := Γ) v c h.ok h.n h.cm (fun m hm => ⟨(h.mf m hm).1.2, (h.mf m hm).2.1.2⟩)
 have e2 := qCg (Γ := Γ) q hq c h.ok
 generalize q0P v.l c = s at *
 generalize q6q q c = p at *
 simp [tC, A6, A8, Ad, Bl, tPD, tP, tV, D6, tW, tWs] at e1 e2
 simp [Xo, q3C, tC, A6, A8, Ad, Bl, tPD, tV, D6, tW, tWs]
 refine A9 e1 rfl ?_
 simp
 refine A0 e2 rfl ?_
 simp [Xp, Ag, Ak]
theorem qEK {α : Type} {l : List α} (h : l.length = 1) : ∃ a, l = [a] := by
 match l, h with
 | [a], _ => exact ⟨a, rfl⟩
theorem qBz {α : Type} {l : List α} (h : l.length = 2) : ∃ a b, l = [a, b] := by
 match l, h with
 | [a, b], _ => exact ⟨a, b, rfl⟩
theorem st2 {c : Ax} {s : Stt} (H : Nv c s) {m : Mm} (hm : c.mems.l = [m]) (ha : m.addr.l.length = 1) (hd : m.data.l.length = 2) :
  ∃ W r0 r1 a b cc d rd e f, s.words.l = [W] ∧ W.l = [r0, r1] ∧ r0.l = [a, b] ∧ r1.l = [cc, d] ∧ s.read.l = [rd] ∧ rd.l = [e, f] ∧ V3 a ∧ V3 b ∧ V3 cc ∧ V3 d ∧ V3 e ∧ V3 f := by
 have hl : c.mems.l.length = 1 := by rw [hm]; rfl
 obtain ⟨W, hW⟩ := qEK (H.w.trans hl)
 obtain ⟨rd, hr⟩ := qEK (H.r.trans hl)
 have wl := H.wl 0 (by omega)
 have wr := H.wr 0 (by omega)
 have rl := H.rl 0 (by omega)
 have em : c.mems.l.getD 0 Mm.d = m := by rw [hm]; rfl
 have eW : s.words.l.getD 0 Sl.zz = W := by rw [hW]; rfl
 have er : s.read.l.getD 0 Sl.z = rd := by rw [hr]; rfl
 rw [eW, em, ha] at wl
 rw [eW, em, hd] at wr
 rw [er, em, hd] at rl
 obtain ⟨r0, r1, hW2⟩ := qBz (show W.l.length = 2 from wl)
 obtain ⟨e, f, hrd⟩ := qBz rl
 obtain ⟨a, b, h0⟩ := qBz (wr r0 (by rw [hW2]; simp))
 obtain ⟨cc, d, h1⟩ := qBz (wr r1 (by rw [hW2]; simp))
 have v0 := H.vw W (by rw [hW]; simp) r0 (by rw [hW2]; simp)
 have v1 := H.vw W (by rw [hW]; simp) r1 (by rw [hW2]; simp)
 have v2 := H.vr rd (by rw [hr]; simp)
 exact ⟨W, r0, r1, a, b, cc, d, rd, e, f, hW, hW2, h0, h1, hr, hrd, v0 a (by rw [h0]; simp), v0 b (by rw [h0]; simp), v1 cc (by rw [h1]; simp), v1 d (by rw [h1]; simp), v2 e (by rw [hrd]; simp), v2 f (by rw [hrd]; simp)⟩
structure M2 (c : Ax) : Prop where
 m : c.mems.l = [] ∨ ∃ m p p1 p2, c.mems.l = [m] ∧ m.addr.l = [p] ∧ m.data.l = [p1, p2]
 k : ∀ i, i < c.nodes.l.length → 0 ≤ An c i ∧ An c i ≤ 15
 n1 : 1 ≤ c.nodes.l.length
 n2 : c.nodes.l.length ≤ 16
theorem qEL {x : CD} (hx : Yl x) : M2 (Jz x) := by
 have hl := Zn hx
 have h5 := Zo hx
 have hN : (Jz x).nodes.l = Dm x := rfl
 have hv := q1j hx
 refine ⟨?_, fun i hi => ?_, by rw [hN]; omega, by rw [hN]; omega⟩
 ·by_cases hm : x.mem = true
  ·exact .inr ⟨⟨⟨[x.p0.tmod (Bn x).length], some 1, some false⟩, ⟨[x.p1.tmod (Bn x).length, x.p2.tmod (Bn x).length], some 2, some false⟩, x.p3.tmod (Bn x).length⟩, _, _, _, by simp [Jz, q5Q, hm], rfl, rfl⟩
  ·left
   simp [Jz, q5Q, hm]
 ·have hs := (Fb hv).1
  have hn := (Eb hs).2.2.1 _ (List.getElem_mem hi)
  have hk : An (Jz x) i = (Jz x).nodes.l[i].k := by simp [An, hi]
  have hkk := (q8K hx).kind _ (List.getElem_mem hi)
  have hle : ¬ 15 < (Jz x).nodes.l[i].k := fun h => by
   unfold Cc at hn
   rw [if_pos h] at hn; cases hn
  rw [hk]
  omega
theorem qEM {x : CD} (hx : Yl x) : MOk (Jz x) := ⟨q8K hx, q1j hx, by have := (qEL hx).n2; omega⟩
end Go.Lg
namespace Go.Lg
open Go Go.Proofs Go.Proofs.YtjcogpofldkniaaGreatDoor
theorem q8f : Tryz.prog.cellsOf 29 = 1 := by kernel_rfl
theorem qFG : Tryz.prog.cellsOf 33 = 3 := by kernel_rfl
theorem qJX : Rd Tryz.prog 29 fun ts => ∃ s : Sl Int, ts = [tV s] ∧ ∀ b ∈ s.l, Wx b := by
 refine (Yc (l := [(1, fun ts => ∃ s : Sl Int, ts = [tV s] ∧ ∀ b ∈ s.l, Wx b)]) Tryz.underlying29 q8f
  (.cons rfl q1f q8U (.nil _))).mono fun ts h => ?_
 obtain ⟨_, _, rfl, ⟨a, rfl, ha⟩, rfl⟩ := h
 exact ⟨a, rfl, ha⟩
theorem qIm : Rd Tryz.prog 33 fun ts => ∃ v q, ts = q3C v q ∧ (∀ b ∈ v.l, Wx b) ∧ q8S q := by
 refine (Yc (l := [(1, fun ts => ∃ s : Sl Int, ts = [tV s] ∧ ∀ b ∈ s.l, Wx b), (2, fun ts => ∃ q, ts = tPD q ∧ q8S q)]) Tryz.underlying33 qFG
  (.cons rfl q8f qJX (.cons rfl q8T qJU (.nil _)))).mono fun ts h => ?_
 obtain ⟨_, _, rfl, ⟨a, rfl, ha⟩, _, _, rfl, ⟨q, rfl, hq⟩, rfl⟩ := h
 exact ⟨a, q, by simp [q3C], ha, hq⟩
end Go.Lg
namespace Go.Proofs.YtjcogpofldkniaaGreatDoor
open Go Go.Lg Go.ChangeShapes Go.WideShapes Go.ChangeAt Go.RowKit
theorem qFH {H : Type} {enc : TypeId × Value → H} {W : World} {held : Bool} {fuel : Nat} {vs : List Value} {x : DataW H × List MemPlace} {X : Nat → Prop} {q : PD} (hf : DataW.trod enc Tryz.prog W 0 (fun _ => true) held fuel 31 vs = some x)
  (hw : ∀ n ∈ x.1.weights Tryz.prog 31, n ≤ reachBytes) (htr : Eh W X (tPD q) vs) : q.i.l.length ≤ 140737488351232 ∧ q.s.l.length ≤ 140737488351232 := by
 obtain ⟨u, us, rfl, h1, h2⟩ := htr.cons_inv
 obtain ⟨u2, us2, rfl, h3, h4⟩ := h2.cons_inv
 have h5 := h4.nil_inv
 subst h5
 obtain ⟨xs, m, _, hd, _, hxl, hfl⟩ := DataW.trod_struct Tryz.underlying31 hf
 have f0 : DataW.trod enc Tryz.prog W 0 (fun _ => true) held m 25 (([u, u2].drop 0).take (Tryz.prog.cellsOf 25)) = xs[0]? := hfl 0 _ rfl
 have f1 : DataW.trod enc Tryz.prog W 0 (fun _ => true) held m 25 (([u, u2].drop 1).take (Tryz.prog.cellsOf 25)) = xs[1]? := hfl 1 _ rfl
 rw [q1f] at f0 f1
 simp only [List.drop_zero, List.take_succ_cons, List.take_zero, List.drop_succ_cons] at f0 f1
 match xs, hxl with
 | [], hxl => simp at hxl
 | [_], hxl => simp at hxl
 | _ :: _ :: _ :: _, hxl => simp at hxl
 | [y0, y1], _ =>
  have hd1 : x.1 = .agg [y0.1, y1.1] := by simpa using congrArg Prod.fst hd
  rw [hd1] at hw
  obtain ⟨w0, w1⟩ := qAo hw
  exact ⟨q6r f0 w0 h1, q6r f1 w1 h3⟩
theorem qB7 {H : Type} {a : DataW H} (hw : ∀ n ∈ (DataW.agg [a]).weights Tryz.prog 29, n ≤ reachBytes) : ∀ n ∈ a.weights Tryz.prog 25, n ≤ reachBytes := by
 simp only [DataW.weights, Tryz.underlying29] at hw
 exact fun n hn => hw n (List.mem_append_left _ hn)
theorem qH8 {H : Type} {enc : TypeId × Value → H} {W : World} {held : Bool} {fuel : Nat} {vs : List Value} {x : DataW H × List MemPlace} {X : Nat → Prop} {s : Sl Int} (hf : DataW.trod enc Tryz.prog W 0 (fun _ => true) held fuel 29 vs = some x)
  (hw : ∀ n ∈ x.1.weights Tryz.prog 29, n ≤ reachBytes) (htr : Eh W X [tV s] vs) : s.l.length ≤ 140737488351232 := by
 obtain ⟨u, us, rfl, h1, h2⟩ := htr.cons_inv
 have h5 := h2.nil_inv
 subst h5
 obtain ⟨xs, m, _, hd, _, hxl, hfl⟩ := DataW.trod_struct Tryz.underlying29 hf
 have f0 : DataW.trod enc Tryz.prog W 0 (fun _ => true) held m 25 (([u].drop 0).take (Tryz.prog.cellsOf 25)) = xs[0]? := hfl 0 _ rfl
 rw [q1f] at f0
 simp only [List.drop_zero, List.take_succ_cons, List.take_zero] at f0
 match xs, hxl with
 | [], hxl => simp at hxl
 | _ :: _ :: _, hxl => simp at hxl
 | [y0], _ =>
  have hd1 : x.1 = .agg [y0.1] := by simpa using congrArg Prod.fst hd
  rw [hd1] at hw
  exact q6r f0 (qB7 hw) h1
theorem q9v {H : Type} {a b : DataW H} (hw : ∀ n ∈ (DataW.agg [a, b]).weights Tryz.prog 33, n ≤ reachBytes) : (∀ n ∈ a.weights Tryz.prog 29, n ≤ reachBytes) ∧ ∀ n ∈ b.weights Tryz.prog 31, n ≤ reachBytes := by
 simp only [DataW.weights, Tryz.underlying33] at hw
 exact ⟨fun n hn => hw n (List.mem_append_left _ hn), fun n hn => hw n (List.mem_append_right _ (List.mem_append_left _ hn))⟩
theorem qHr {H : Type} {enc : TypeId × Value → H} {W : World} {base : Nat} {v : Value} {d : DataW H} {p : List MemPlace} (hval : Value.okWide Tryz.prog W .any base 33 v) (h : DataW.Trod enc Tryz.prog W 0 (fun _ => true) true 33 v d p)
  (hw : ∀ n ∈ d.weights Tryz.prog 33, n ≤ reachBytes) : ∃ s q, (∀ b ∈ s.l, Wx b) ∧ s.l.length ≤ 140737488351232 ∧ q8S q ∧ (q.i.l.length ≤ 140737488351232 ∧ q.s.l.length ≤ 140737488351232) ∧ TR W (Old W) (.agg (q3C s q)) v := by
 simp only [Value.okWide, Tryz.underlying33] at hval
 obtain ⟨cs, rfl, _, _⟩ := hval
 obtain ⟨fuel, hf⟩ := h
 obtain ⟨ts, ⟨s, q, rfl, h1, h2⟩, htr, ho⟩ := qIm H enc W true fuel _ _ hf
 have ho' := htr
 obtain ⟨u, us, hu, g1, g2⟩ := htr.cons_inv
 have gp : Eh W (Old W) (tPD q) us := g2
 rw [hu] at hf
 obtain ⟨xs, m, _, hd, _, hxl, hfl⟩ := DataW.trod_struct Tryz.underlying33 hf
 have f0 : DataW.trod enc Tryz.prog W 0 (fun _ => true) true m 29 (((u :: us).drop 0).take (Tryz.prog.cellsOf 29)) = xs[0]? := hfl 0 _ rfl
 have f1 : DataW.trod enc Tryz.prog W 0 (fun _ => true) true m 31 (((u :: us).drop 1).take (Tryz.prog.cellsOf 31)) = xs[1]? := hfl 1 _ rfl
 have ul : us.length = 2 := by have := gp.1; simp [tPD] at this; omega
 rw [q8f] at f0
 rw [q8T] at f1
 simp only [List.drop_zero, List.take_succ_cons, List.take_zero, List.drop_succ_cons] at f0 f1
 rw [List.take_of_length_le (by omega)] at f1
 match xs, hxl with
 | [], hxl => simp at hxl
 | [_], hxl => simp at hxl
 | _ :: _ :: _ :: _, hxl => simp at hxl
 | [y0, y1], _ =>
  simp only [Prod.mk.injEq] at hd
  have hd1 := hd.1
  subst hd1
  obtain ⟨w0, w1⟩ := q9v (a := y0.1) (b := y1.1) (by simpa using hw)
  exact ⟨s, q, h1, qH8 f0 w0 (Eh.cons g1 (Eh.nil W _)), h2, qFH f1 w1 gp, qDP ho' ho⟩
end Go.Proofs.YtjcogpofldkniaaGreatDoor
namespace Go.Lg
open Go Go.Proofs
variable {Γ : Tables}
def U6 (x : CD) : CD := { x with bus := false }
theorem qEN {x : CD} (hx : Yl x) : Yl (U6 x) := ⟨hx.i, hx.f, hx.d0, hx.d1, hx.p0, hx.p1, hx.p2, hx.p3, hx.gates, hx.outs⟩
theorem qEO {g : Gd} (hg : q6W g) {a b d : Int} {t : List Int} : (q6X false g a b d t).k ≠ 12 := by
 have h1 : 0 ≤ g.k.tmod 9 ∧ g.k.tmod 9 < 9 := C3 (n := 9) hg.1.1 (by omega)
 have h2 : 0 ≤ g.a.tmod 2 ∧ g.a.tmod 2 < 2 := C3 (n := 2) hg.2.1.1 (by omega)
 unfold q6X
 simp only [Bool.false_eq_true, if_false]
 generalize g.k.tmod 9 = k at *
 generalize g.a.tmod 2 = j at *
 split
 ·show 5 + k ≠ 12; omega
 split
 ·show (4 : Int) ≠ 12; omega
 split
 ·show (11 : Int) ≠ 12; omega
 split
 ·omega
 split
 ·show (13 : Int) ≠ 12; omega
 split
 ·show 1 + j ≠ 12; omega
 ·show (3 : Int) ≠ 12; omega
theorem q84 : ∀ {l : List Gd} {ns : List Nd}, (∀ g ∈ l, q6W g) → (∀ x ∈ ns, x.k ≠ 12) → ∀ x ∈ Oc false l ns, x.k ≠ 12
 | [], ns, _, h => h
 | g :: l, ns, hl, h => by
  refine q84 (l := l) (fun q hq => hl q (List.mem_cons_of_mem _ hq)) fun x hx => ?_
  rcases List.mem_append.1 hx with hx | hx
  ·exact h x hx
  ·rw [List.mem_singleton.1 hx]; exact qEO (hl g List.mem_cons_self)
theorem q9w {ks : List Int} : ∀ {l : List Nd} {i : Nat}, (∀ x ∈ l, ks.contains x.k = false) → Il ks l i = []
 | [], _, _ => rfl
 | x :: l, i, h => by
  simp only [Il]
  rw [if_neg (by rw [h x List.mem_cons_self]; simp)]
  exact q9w fun y hy => h y (List.mem_cons_of_mem _ hy)
theorem qCp {x : CD} (hx : Yl x) : Il [12] (Jz (U6 x)).nodes.l 0 = [] := by
 have h1 : ∀ n ∈ Hg (U6 x), n.k ≠ 12 := fun n hn => by rw [(List.mem_replicate.1 hn).2]; decide
 have h2 : ∀ n ∈ Et (U6 x), n.k ≠ 12 := fun n hn => by
  rcases List.mem_append.1 hn with hn | hn
  ·exact h1 n hn
  ·rw [(List.mem_replicate.1 hn).2]; show (14 : Int) ≠ 12; decide
 have h3 : ∀ n ∈ E1 (U6 x), n.k ≠ 12 := fun n hn => by
  unfold E1 at hn
  split at hn
  ·rcases List.mem_append.1 hn with hn | hn
   ·exact h2 n hn
   ·simp at hn; rcases hn with rfl | rfl <;> (show (15 : Int) ≠ 12; decide)
  ·exact h2 n hn
 have h4 : ∀ n ∈ Bn (U6 x), n.k ≠ 12 := q84 (fun g hg => hx.gates g (List.mem_of_mem_take hg)) h3
 refine q9w fun n hn => ?_
 obtain ⟨q, hq, rfl⟩ := List.getElem_of_mem hn
 have hq5 : q < (Dm (U6 x)).length := hq
 have e : ((Dm (U6 x)).getD q Nd.d).k = ((Bn (U6 x)).getD q Nd.d).k := q6u
 have hl : (Dm (U6 x)).length = (Bn (U6 x)).length := q1e
 rw [List.getD_eq_getElem?_getD, List.getElem?_eq_getElem hq5, List.getD_eq_getElem?_getD, List.getElem?_eq_getElem (by omega)] at e
 simp only [Option.getD_some] at e
 have := h4 _ (List.getElem_mem (show q < (Bn (U6 x)).length by omega))
 rw [← e] at this
 show [12].contains ((Dm (U6 x))[q]).k = false
 simpa using this
def V2 (v : Int) : Prop := 0 ≤ v ∧ v ≤ 1
theorem qH9 {l : List Int} (h0 : l ≠ []) (hl : ∀ v ∈ l, V2 v) (a i : Nat) : V2 (q5a l a i) := by
 unfold q5a
 rw [if_neg h0]
 have hp : 0 < l.length := List.length_pos_iff.2 h0
 have h := hl _ (List.getElem_mem (Nat.mod_lt (a + i) hp))
 rw [Aw (Nat.mod_lt _ hp)]
 have hlt := Nat.mod_lt (a + i) hp
 generalize l[(a + i) % l.length]'hlt = u at *
 unfold V2 at *
 have e : u.tmod 3 = u := by rw [Int.tmod_eq_emod_of_nonneg h.1]; exact Int.emod_eq_of_lt h.1 (by omega)
 rw [e]; exact h
theorem qB8 {l : List Int} (h0 : l ≠ []) (hl : ∀ v ∈ l, V2 v) {a n : Nat} : ∀ v ∈ Qn l a n, V2 v := fun v hv => by
 obtain ⟨i, _, rfl⟩ := List.mem_map.1 hv
 exact qH9 h0 hl _ _
structure qEP (s : Stt) : Prop where
 d : ∀ v ∈ s.dff.l, V2 v
 w : ∀ w ∈ s.words.l, ∀ r ∈ w.l, ∀ v ∈ r.l, V2 v
 r : ∀ r ∈ s.read.l, ∀ v ∈ r.l, V2 v
theorem qHA {v : List Int} (h0 : v ≠ []) (hv : ∀ x ∈ v, V2 x) (c : Ax) : qEP (q0P v c) := by
 refine ⟨qB8 h0 hv, fun w hw r hr => ?_, fun r hr => ?_⟩
 ·obtain ⟨i, hi, rfl⟩ := W3 Sl.zz hw
  have hi' : i < c.mems.l.length := by rw [show (q0P v c).words.l = ofW v c.mems.l (Ap c).length from rfl, q5m] at hi; exact hi
  obtain ⟨a', e⟩ := q43 (v := v) (a := (Ap c).length) hi'
  rw [show (q0P v c).words.l = ofW v c.mems.l (Ap c).length from rfl, e] at hr
  obtain ⟨a2, rfl⟩ := q1n hr
  exact qB8 h0 hv
 ·obtain ⟨i, hi, rfl⟩ := W3 Sl.z hr
  have hi' : i < c.mems.l.length := by rw [show (q0P v c).read.l = ofR v c.mems.l (Ap c).length from rfl, q5n] at hi; exact hi
  obtain ⟨a', e⟩ := q5o (v := v) (a := (Ap c).length) hi'
  rw [show (q0P v c).read.l = ofR v c.mems.l (Ap c).length from rfl, e]
  exact qB8 h0 hv
theorem qFI {c : Ax} (h : D1 c = 0) : ∀ n ∈ c.outs.l, 0 ≤ n ∧ n < c.nodes.l.length := by
 unfold D1 at h
 split at h
 ·cases h
 split at h
 ·cases h
 split at h
 ·rename_i h2; exact absurd h h2
 split at h
 ·rename_i h2; exact absurd h h2
 split at h
 ·rename_i h2; exact absurd h h2
 split at h
 ·cases h
 ·rename_i h2; exact Wm (by simpa using h2)
theorem qEQ {v : Int} (h : V2 v) : E2 v = v := by unfold E2; unfold V2 at h; rw [if_neg (by omega)]
theorem P0 {v : Int} (h : V2 v) : Du v = v := by unfold Du; unfold V2 at h; rw [if_pos (by omega)]
theorem q9x {nets : List Int} (h : ∀ v ∈ nets, V2 v) {n : Int} (h0 : 0 ≤ n) (h1 : n < nets.length) : V2 (Qh nets n) := by
 unfold Qh
 rw [if_neg (by omega), Aw (by omega)]
 have := h _ (List.getElem_mem (show n.toNat < nets.length by omega))
 rw [qEQ this]; exact this
theorem qHB {c : Ax} (h : Cj c = 0) {nets : List Int} (hl : nets.length = c.nodes.l.length) (hv : ∀ v ∈ nets, V2 v) : ∀ v ∈ Vq c nets, V2 v := fun v hv' => by
 obtain ⟨n, hn, rfl⟩ := List.mem_map.1 hv'
 have := qFI (Fb h).1 n hn
 exact q9x hv this.1 (by omega)
theorem qFJ {c : Ax} (h : Cj c = 0) : ∀ x ∈ Ap c, ∃ p, G5 c x.toNat = [p] ∧ 0 ≤ p ∧ p < c.nodes.l.length := by
 intro x hx
 obtain ⟨h0, h1, h2⟩ := Gv x hx
 have hne := (Eb (Fb h).1).2.2.1 _ (q8P h0 h1)
 have hk : (nd c x).k = 14 := h2
 have ef : Q8 14 = (1, 1) := by decide
 unfold Cc at hne
 rw [if_neg (by omega), hk, ef] at hne
 split at hne
 ·cases hne
 rename_i hl
 split at hne
 ·cases hne
 rename_i ho
 have hlen : (nd c x).inn.l.length = 1 := by simp only at hl; omega
 obtain ⟨p, hp⟩ := qEK hlen
 have hin := Wm (c := c) (l := (nd c x).inn.l) (by simpa using ho)
 exact ⟨p, hp, hin p (by rw [hp]; simp)⟩
theorem q9y {c : Ax} (h : Cj c = 0) {nets : List Int} (hl : nets.length = c.nodes.l.length) (hv : ∀ v ∈ nets, V2 v) : ∀ v ∈ C6 c nets, V2 v := fun v hv' => by
 obtain ⟨n, hn, rfl⟩ := List.mem_map.1 hv'
 obtain ⟨p, hp, h0, h1⟩ := qFJ h n hn
 unfold q5A
 rw [hp, if_pos (show [p].length = 1 from rfl)]
 show V2 (Du (Qh nets p))
 have := q9x hv h0 (by omega)
 rw [P0 this]; exact this
theorem q8g {l : List Int} (h : ∀ v ∈ l, V2 v) (i : Nat) : V2 (l.getD i 0) := by
 by_cases hi : i < l.length
 ·rw [Aw hi]; exact h _ (List.getElem_mem hi)
 ·rw [List.getD_eq_getElem?_getD, List.getElem?_eq_none (by omega)]; exact ⟨by decide, by decide⟩
theorem qFK {c : Ax} (h : MOk c) (h12 : Il [12] c.nodes.l 0 = []) {s : Stt} (H : Nv c s) (K : qEP s) {inn : List Int} (hi : inn.length = (Be c).length) (hv : ∀ v ∈ inn, V2 v) : ∀ v ∈ B8 c s inn, V2 v := fun v hv' => by
 obtain ⟨i, hl, rfl⟩ := List.getElem_of_mem hv'
 have hn : (B8 c s inn).length = c.nodes.l.length := q1l
 have := q9j h.lev (by rw [h12]; rfl) hi H.d hv K.d (rd := s.rd) (fun l hl v hv => by
  obtain ⟨r, hr, rfl⟩ := List.mem_map.1 hl
  exact K.r r hr v hv) i (by omega)
 rw [← Aw hl]
 exact this
theorem qFL {c : Ax} (h : MOk c) (M : M2 c) {s : Stt} (H : Nv c s) (K : qEP s) {N : List Int} (hl : N.length = c.nodes.l.length) (hv : ∀ v ∈ N, V2 v) : qEP (Sj c s N) := by
 have hd := q9y h.lev hl hv
 rcases M.m with hm | ⟨m, p, p1, p2, hm, ha, hdd⟩
 ·have e1 : (Sj c s N).words.l = [] := by show Js N c.mems.l s.words.l = []; rw [hm]; rfl
  have e2 : (Sj c s N).read.l = [] := by show Lp N c.mems.l s.words.l = []; rw [hm]; rfl
  exact ⟨hd, fun w hw => by rw [e1] at hw; simp at hw, fun r hr => by rw [e2] at hr; simp at hr⟩
 ·obtain ⟨W, r0, r1, a, b, cc, d, rd, e, f, hW, hW2, hr0, hr1, hr, hrd, va, vb, vc, vd, ve, vf⟩ := st2 H hm (by rw [ha]; rfl) (by rw [hdd]; rfl)
  have w0 := K.w W (by rw [hW]; simp) r0 (by rw [hW2]; simp)
  have w1 := K.w W (by rw [hW]; simp) r1 (by rw [hW2]; simp)
  have ka : V2 a := w0 a (by rw [hr0]; simp)
  have kb : V2 b := w0 b (by rw [hr0]; simp)
  have kc : V2 cc := w1 cc (by rw [hr1]; simp)
  have kd : V2 d := w1 d (by rw [hr1]; simp)
  have hWm : W.l.map (·.l) = [[a, b], [cc, d]] := by rw [hW2]; simp [hr0, hr1]
  have hav : Bf N m.addr.l = [N.getD p.toNat 0] := by rw [ha]; rfl
  have hdv : Bf N m.data.l = [N.getD p1.toNat 0, N.getD p2.toNat 0] := by rw [hdd]; rfl
  have kp := q8g hv p.toNat
  have kx := q8g hv p1.toNat
  have ky := q8g hv p2.toNat
  have ke := q8g hv m.write.toNat
  have n1 : (Sj c s N).read.l = [⟨Vz [[a, b], [cc, d]] [N.getD p.toNat 0], none, none⟩] := by show Lp N c.mems.l s.words.l = _; rw [hm, hW]; simp only [Lp, List.zipWith_cons_cons, List.zipWith_nil_left, hWm, hav]
  have n2 : (Sj c s N).words.l = [Gy (Eg [N.getD p.toNat 0] [N.getD p1.toNat 0, N.getD p2.toNat 0] (N.getD m.write.toNat 0) 0 [[a, b], [cc, d]])] := by show Js N c.mems.l s.words.l = _; rw [hm, hW]; simp only [Js, List.zipWith_cons_cons, List.zipWith_nil_left, hWm, hav, hdv]
  rw [qIe kp.1, P0 ka, P0 kb, P0 kc, P0 kd] at n1
  rw [qH4 kp.1, P0 ka, P0 kb, P0 kc, P0 kd, P0 kx, P0 ky] at n2
  refine ⟨hd, fun w hw r hr v hv' => ?_, fun r hr v hv' => ?_⟩
  ·rw [n2] at hw
   rw [List.mem_singleton.1 hw] at hr
   simp only [Gy, List.map_cons, List.map_nil, List.mem_cons, List.not_mem_nil, or_false] at hr
   rcases hr with rfl | rfl
   ·simp only [List.mem_cons, List.not_mem_nil, or_false] at hv'
    rcases hv' with rfl | rfl
    ·exact Zy kp ke ka kx
    ·exact Zy kp ke kb ky
   ·simp only [List.mem_cons, List.not_mem_nil, or_false] at hv'
    rcases hv' with rfl | rfl
    ·exact Zy kp ke kc kx
    ·exact Zy kp ke kd ky
  ·rw [n1] at hr
   rw [List.mem_singleton.1 hr] at hv'
   simp only [List.mem_cons, List.not_mem_nil, or_false] at hv'
   rcases hv' with rfl | rfl
   ·exact q5E kp ka kc
   ·exact q5E kp kb kd
theorem qIk.refl (s : Stt) : qIk (· = ·) s s := ⟨⟨rfl, fun _ _ => rfl⟩, rfl, fun _ _ => ⟨rfl, fun _ _ => rfl⟩, rfl, fun _ _ => ⟨rfl, fun _ _ => ⟨rfl, fun _ _ => rfl⟩⟩⟩
end Go.Lg
namespace Go.Lg
open Go
section
variable {P : Program} {Γ : Tables} {Q : AX → St → Prop} {s : St}
/- probecard/probecardlaw09.MemoriesPlain (function 3) -/
abbrev P1 : IC := .gh (.seq (.seq (.reg [om 109 18, od 110 (fa 0 3), od 111 (fa 0 110), od 112 (ld 1 111), od 113 (le 0 112), od 114 (.bin .lss (tm 109) (tm 113))] [kp [3, 16, 17, 18, 114] [16, 126]]) (.cond (tm 114) .skip (.exit 0))) (.seq (.block
 1 (.reg [om 117 17, od 118 (fa 0 3), od 119 (fa 0 118), od 120 (ld 1 119), om 121 18, od 122 (ia 1 120 121), od 123 (ld 1 122), od 124 (.bin .rem (tm 123) (ku 2)), od 125 (.bsl true 5 1 [(tm 124)]), od 126 (.appR false 126 5 (tm
 117) (tm 125)), om 17 126] [kp [3, 16, 17, 18] [16, 126]])) (.reg [om 115 18, od 116 (.bin .add (tm 115) (ki 1)), om 18 116] [kp [3, 16, 17, 18] [16, 126]]))) [kp [3, 16, 17, 18] [16, 126]]
def Ey : IC := .loop P1
abbrev P2 : IC := .gh (.seq (.seq (.reg [om 171 26, od 172 (fa 1 20), od 173 (ld 1 172), om 174 25, od 175 (ia 1 173 174), od 176 (ld 1 175), od 177 (le 0 176), od 178 (.bin .lss (tm 171) (tm 177))] [kp [20, 24, 25, 26, 178] [20, 163]]) (.cond (tm
 178) .skip (.exit 4))) (.seq (.block 5 (.reg [om 181 24, od 182 (fa 1 20), od 183 (ld 1 182), om 184 25, od 185 (ia 1 183 184), od 186 (ld 1 185), om 187 26, od 188 (ia 1 186 187), od 189 (ld 1 188), oz 190 (.app false 61 1 (tm
 181) (tm 189)) 163, om 24 190] [kp [20, 24, 25, 26] [20, 163]])) (.reg [om 179 26, od 180 (.bin .add (tm 179) (ki 1)), om 26 180] [kp [20, 24, 25, 26] [20, 163]]))) [kp [20, 24, 25, 26] [20, 163]]
def Ez : IC := .loop P2
abbrev P3 : IC := .gh (.seq (.seq (.reg [om 164 25, od 165 (fa 1 20), od 166 (ld 1 165), od 167 (le 0 166), od 168 (.bin .lss (tm 164) (tm 167))] [kp [20, 24, 25, 168] [20, 163]]) (.cond (tm 168) .skip (.exit 2))) (.seq (.block 3 (.seq (.reg [od 26
 (.mv (ki 0))] [kp [20, 24, 25, 26] [20, 163]]) (.block 4 Ez))) (.reg [om 169 25, od 170 (.bin .add (tm 169) (ki 1)), om 25 170] [kp [20, 24, 25] [20, 163]]))) [kp [20, 24, 25] [20, 163]]
def F2 : IC := .loop P3
abbrev P4 : IC := .gh (.seq (.seq (.reg [om 191 27, od 192 (fa 2 20), od 193 (ld 1 192), od 194 (le 0 193), od 195 (.bin .lss (tm 191) (tm 194))] [kp [20, 24, 27, 195] [20, 163]]) (.cond (tm 195) .skip (.exit 6))) (.seq (.block 7 (.reg [om 198 24,
 od 199 (fa 2 20), od 200 (ld 1 199), om 201 27, od 202 (ia 1 200 201), od 203 (ld 1 202), oz 204 (.app false 61 1 (tm 198) (tm 203)) 163, om 24 204] [kp [20, 24, 27] [20, 163]])) (.reg [om 196 27, od 197 (.bin .add (tm 196) (ki
 1)), om 27 197] [kp [20, 24, 27] [20, 163]]))) [kp [20, 24, 27] [20, 163]]
def F3 : IC := .loop P4
abbrev P5 : IC := .gh (.seq (.seq (.reg [om 205 28, om 206 24, od 207 (le 0 206), od 208 (.bin .lss (tm 205) (tm 207))] [kp [24, 28, 208] [163]]) (.cond (tm 208) .skip (.exit 8))) (.seq (.block 9 (.seq (.reg [om 211 24, om 212 28, od 213 (ia 1 211
 212), od 214 (ld 1 213), od 215 (.call 16 [(tm 214)]), od 216 (.un .not (tm 215))] [kp [24, 28, 216] [163]]) (.cond (tm 216) (.seq (.reg [od 4 (.mv kF)] [kp [4] []]) .ret) .skip))) (.reg [om 209 28, od 210 (.bin .add (tm 209) (ki
 1)), om 28 210] [kp [24, 28] [163]]))) [kp [24, 28] [163]]
def F4 : IC := .loop P5
abbrev P6 : IC := (.seq (.reg [od 2 (.box false (tm 0)), od 3 (.box true (tm 1)), od 4 (.mv kF)] [kp [2, 3] [2]]) (.seq (.reg [od 29 (lG 12 2), od 5 (.alloc false [(.int .u8 0), (.int .u8 0), (.int .u8 0), (.int .u8 0), (.bool false), (.bool false),
 (.int .u8 0), (.int .u8 0), (.int .u8 0), (.int .u8 0), (.slice none 0 0), (.slice none 0 0)]), on (.store 12 (tm 5) (tm 29))] [kp [2, 3, 5] [2, 5]]) (.seq (.reg [od 30 (fa 4 5), on (.store 1 (tm 30) kF)] [kp [2, 3, 5] [2, 5]])
 (.seq (.reg [od 31 (fa 5 2), on (.store 1 (tm 31) kF)] [kp [2, 3, 5] [2, 5]]) (.seq (.reg [od 32 (lG 12 2), od 33 (.call 9 [(tm 32)]), od 6 (.alloc false [(.slice none 0 0), (.slice none 0 0), (.slice none 0 0), (.slice none 0
 0)]), on (.store 4 (tm 6) (tm 33))] [kp [3, 5, 6] [5, 6]]) (.seq (.reg [od 35 (lG 3 3), od 36 (lG 4 6), od 37 (.call 10 [(tm 35), (tm 36)]), om 34 37, od 38 (ex 34 0), od 39 (ex 34 1), od 7 (.alloc false [(.slice none 0 0), (.slice
 none 0 0), (.slice none 0 0)]), on (.store 3 (tm 7) (tm 38)), om 8 39] [kp [3, 5, 6, 7, 8] [5, 6, 7]]) (.seq (.reg [od 41 (lG 4 6), od 42 (lG 3 7), om 43 8, od 44 (.call 11 [(tm 41), (tm 42), (tm 43)]), om 40 44, od 45 (ex 40 0),
 od 46 (ex 40 1), od 47 (ex 40 2), od 48 (ex 40 3), od 9 (.alloc false [(.slice none 0 0), (.slice none 0 0), (.slice none 0 0)]), od 10 (.alloc false [(.slice none 0 0), (.slice none 0 0)]), on (.store 3 (tm 9) (tm 45)), on (.store
 2 (tm 10) (tm 46)), om 11 47, om 12 48] [kp [3, 5, 6, 7, 8, 9, 10, 11, 12] [5, 6, 7, 9, 10]]) (.seq (.reg [od 50 (lG 4 6), om 51 8, od 52 (fa 0 7), od 53 (ld 1 52), od 54 (.build [(1, (tm 51)), (1, (tm 53))]), od 55 (.call 12 [(tm
 50), (tm 54)]), om 49 55, od 56 (ex 49 0), od 57 (ex 49 1), od 58 (ex 49 2), od 13 (.alloc false [(.slice none 0 0), (.slice none 0 0)]), on (.store 2 (tm 13) (tm 56)), om 14 57, om 15 58] [kp [3, 5, 6, 9, 10, 11, 12, 13, 14, 15]
 [5, 6, 9, 10, 13]]) (.seq (.seq (.reg [om 59 12, od 60 (.bin .neq (tm 59) (ki 0)), om 61 60, oF 62 (.mv (tm 15)) 61, oF 63 (.bin .neq (tm 62) (ki 0)) 61, od 64 (.pick (tm 61) kT (tm 63)), om 65 64, oF 66 (.mv (tm 14)) 65, oF 67 (le
 0 66) 65, oF 68 (fa 0 6) 65, oF 69 (ld 1 68) 65, oF 70 (le 0 69) 65, oF 71 (.bin .neq (tm 67) (tm 70)) 65, od 72 (.pick (tm 65) kT (tm 71)), om 73 72, oF 74 (.mv (tm 11)) 73, oF 75 (.mv (tm 14)) 73, oF 76 (.call 13 [(tm 74), (tm
 75)]) 73, oF 77 (fa 0 10) 73, oF 78 (ld 1 77) 73, oF 79 (fa 0 13) 73, oF 80 (ld 1 79) 73, oF 81 (.call 13 [(tm 78), (tm 80)]) 73, oF 82 (.bin .add (tm 76) (tm 81)) 73, oF 83 (fa 1 10) 73, oF 84 (ld 1 83) 73, oF 85 (fa 1 13) 73, oF
 86 (ld 1 85) 73, oF 87 (.call 13 [(tm 84), (tm 86)]) 73, oF 88 (.bin .add (tm 82) (tm 87)) 73, oF 89 (fa 0 9) 73, oF 90 (ld 1 89) 73, oF 91 (fa 1 13) 73, oF 92 (ld 1 91) 73, oF 93 (.call 13 [(tm 90), (tm 92)]) 73, oF 94 (.bin .add
 (tm 88) (tm 93)) 73, oF 95 (.bin .neq (tm 94) (ki 0)) 73, od 96 (.pick (tm 73) kT (tm 95)), om 97 96, oF 98 (fa 1 9) 97, oF 99 (ld 1 98) 97, oF 100 (le 0 99) 97, oF 101 (fa 2 9) 97, oF 102 (ld 1 101) 97, oF 103 (le 0 102) 97, oF
 104 (.bin .add (tm 100) (tm 103)) 97, oF 105 (.bin .neq (tm 104) (ki 0)) 97, od 106 (.pick (tm 97) kT (tm 105))] [kp [3, 5, 106] [5]]) (.cond (tm 106) (.seq (.reg [od 4 (.mv kF)] [kp [4] []]) .ret) .skip)) (.seq (.reg [od 107 (lG
 12 5), od 108 (.call 9 [(tm 107)]), od 16 (.alloc false [(.slice none 0 0), (.slice none 0 0), (.slice none 0 0), (.slice none 0 0)]), on (.store 4 (tm 16) (tm 108))] [.frz 16, kp [3, 16] [16]]) (.seq (.reg [od 17 (.mv kN)] [.nl 17
 126 5 1, kp [3, 16, 17] [16, 126]]) (.seq (.seq (.reg [od 18 (.mv (ki 0))] [kp [3, 16, 17, 18] [16, 126]]) (.block 0 Ey)) (.seq (.reg [om 127 17, od 128 (.bsl true 5 1 [(ku 1)]), od 129 (.appR true 126 5 (tm
 127) (tm 128)), od 130 (.build [(1, (tm 129))]), od 131 (.ldT 4 true (tm 16)), od 132 (.call 14 [(tm 130), (tm 131)]), od 19 (.alloc false [(.slice none 0 0), (.slice none 0 0), (.slice none 0 0)]), on (.stR 19 3 (tm 19) (tm 132))]
 [kp [3, 16, 19] [16, 19]]) (.seq (.reg [od 134 (.ldT 4 true (tm 16)), od 135 (.ldR 19 3 true (tm 19)), od 136 (fa 1 3), od 137 (.ldT 2 true (tm 136)), od 138 (.ldT 4 true (tm 16)), od 139 (.call 15 [(tm 137), (tm 138)]), od 140
 (.fld 0 1 false (tm 139)), od 141 (.call 11 [(tm 134), (tm 135), (tm 140)]), om 133 141, od 142 (ex 133 0), od 143 (ex 133 1), od 144 (ex 133 2), od 145 (ex 133 3), od 20 (.alloc false [(.slice none 0 0), (.slice none 0 0), (.slice
 none 0 0)]), od 21 (.alloc false [(.slice none 0 0), (.slice none 0 0)]), on (.stR 20 3 (tm 20) (tm 142)), on (.stR 21 2 (tm 21) (tm 143)), om 22 144, om 23 145] [kp [16, 20, 21, 22, 23] [16, 20, 21]]) (.seq (.seq (.reg [om 146 23,
 od 147 (.bin .neq (tm 146) (ki 0)), om 148 147, oF 149 (.mv (tm 22)) 148, oF 150 (le 0 149) 148, oF 151 (fa 0 16) 148, oF 152 (ld 1 151) 148, oF 153 (le 0 152) 148, oF 154 (.bin .neq (tm 150) (tm 153)) 148, od 155 (.pick (tm 148)
 kT (tm 154))] [kp [20, 21, 22, 155] [20, 21]]) (.cond (tm 155) (.seq (.reg [od 4 (.mv kF)] [kp [4] []]) .ret) .skip)) (.seq (.reg [od 156 (fa 0 20), od 157 (ld 1 156), od 158 (.appN 61 1 (tm 157)), od 159 (fa 0 21), od 160 (.ldR 21
 1 false (tm 159)), od 161 (.app false 61 1 (tm 158) (tm 160)), om 162 22, od 163 (.app false 61 1 (tm 161) (tm 162)), om 24 163] [kp [20, 24] [20, 163]]) (.seq (.seq (.reg [od 25 (.mv (ki 0))] [kp [20, 24, 25] [20, 163]]) (.block 2
 F2)) (.seq (.seq (.reg [od 27 (.mv (ki 0))] [kp [20, 24, 27] [20, 163]]) (.block 6 F3)) (.seq (.seq (.reg [od 28 (.mv (ki 0))] [kp [24, 28] [163]]) (.block 8 F4)) (.seq
 (.reg [od 217 (.call 17 []), om 4 217] [kp [4] []]) .ret))))))))))))))))))))
theorem Jt (h : ∀ K : St → Prop, K = run P Γ Ey Q → run P Γ P1 (Aq K Q) s) : run P Γ Ey Q s := Ac h
theorem Ju (h : ∀ K : St → Prop, K = run P Γ Ez Q → run P Γ P2 (Aq K Q) s) : run P Γ Ez Q s := Ac h
theorem Jv (h : ∀ K : St → Prop, K = run P Γ F2 Q → run P Γ P3 (Aq K Q) s) : run P Γ F2 Q s := Ac h
theorem Jw (h : ∀ K : St → Prop, K = run P Γ F3 Q → run P Γ P4 (Aq K Q) s) : run P Γ F3 Q s := Ac h
theorem Jx (h : ∀ K : St → Prop, K = run P Γ F4 Q → run P Γ P5 (Aq K Q) s) : run P Γ F4 Q s := Ac h
def P7 : List RV := [.tmp 4]
end
end Go.Lg
namespace Go.Lg
open Go Go.Proofs
theorem Z6 : As Tryz.prog 3 P6 218 2 P7 = true := by kernel_rfl
end Go.Lg
namespace Go.Lg
open Go Go.Proofs
variable {Γ : Tables}
theorem q8h (q : PD) (hq : q8S q) (hl : q.i.l.length ≤ 140737488351232 ∧ q.s.l.length ≤ 140737488351232) (c : Ax) (hc : COk c) : Ae Tryz.prog Γ 15 [.agg (tPD q), .agg (tC c)] (.agg [tV ⟨knI q c, none, none⟩, tV ⟨knS q c, none, none⟩]) := by
 refine B5 q3z rfl ?_
 have h1 := fun cap nl => q5l (Γ := Γ) ⟨0 :: q.i.l, cap, nl⟩ (Be c).length (Nat.le_trans (M6 c) hc.nodes) 2 (by omega)
 have h2 := fun cap nl => q5l (Γ := Γ) ⟨0 :: q.s.l, cap, nl⟩ (Ap c).length (Nat.le_trans (Ef c) hc.nodes) 2 (by omega)
 have w : ∀ l : List Int, [tK 0] :: Ab l = Ab (0 :: l) := fun l => rfl
 have l1 : (knI q c).length = (Be c).length := M8
 have l2 : (knS q c).length = (Ap c).length := M8
 have k1 := B9 (l := knI q c)
 have k2 := B9 (l := knS q c)
 rw [l1] at k1
 rw [l2] at k2
 simp [Z4, tC, A6, A8, Ad, Bl, tPD, tV]
 refine ⟨⟨A5, by rw [A1]; omega⟩, Uk (Zu c hc 0) rfl ?_⟩
 simp
 refine ⟨_, _, h1 none none, ?_⟩
 simp
 refine ⟨⟨A5, by rw [A1]; omega⟩, Uk (Zu c hc 14) rfl ?_⟩
 simp
 refine ⟨_, _, h2 none none, ?_⟩
 simp only [knI, knS] at k1 k2
 simp [Z5, Ag, Ak, tV, k1, k2, knI, knS]
def q1R (v : Int) : Int := v.tmod 2
theorem qFx {Q : AX → St → Prop} (v : Sl Int) (q : PD) (d : T) (n : Nat) (hn : v.l.length = n) (hl : n ≤ 140737488351232) (hv : ∀ x ∈ v.l, Wx x) (R : List Int)
  (h0 : Q (.exit 0) ⟨[(3, .t (.ip (q3C v q) 0)), (16, .t d), (17, .ls 126 0 n none), (18, .t (tI n)), (114, .t (tB false))], [(126, .sl 5 1 (Ab R))]⟩) :
  ∀ (k i : Nat) (out : List Int), k + i = n → out.length = i → out ++ (v.l.drop i).map q1R = R →
  run Tryz.prog Γ Ey Q ⟨[(3, .t (.ip (q3C v q) 0)), (16, .t d), (17, .ls 126 0 i none), (18, .t (tI i))], [(126, .sl 5 1 (Ab out))]⟩
 | 0, i, out, h, ho, hR => by
  refine Jt fun K hK => ?_
  have h2 : i = n := by omega
  subst h2
  rw [← hn, List.drop_length] at hR
  simp only [List.map_nil, List.append_nil] at hR
  subst hR
  have hn' : (v.l.length : Int) = i := by omega
  simp [q3C, tPD, tV] at h0
  simp [q3C, tPD, tV, A1, hn]
  simpa using h0
 | k + 1, i, out, h, ho, hR => by
  refine Jt fun K hK => ?_
  have h2 : i < v.l.length := by omega
  have h2n : i < n := by omega
  rw [List.drop_eq_getElem_cons h2] at hR
  simp only [List.map_cons] at hR
  have e1 := gE (f := tK) 0 h2
  have e1' := gE' (f := tK) 0 h2
  have hb := hv _ (List.getElem_mem h2)
  rw [Aw h2] at e1 e1'
  generalize v.l[i] = x at *
  have ih := qFx v q d n hn hl hv R h0 k (i + 1) (out ++ [q1R x]) (by omega) (by simp [ho]) (by rw [← hR]; simp)
  have vs := Ns (l := out) (v := q1R x)
  have vt : (Ab out).take i = Ab out := by rw [← ho]; exact B9
  have w1 : IntKind.i64.wrap ((i : Int) + 1) = ((i + 1 : Nat) : Int) := by rw [A4] <;> omega
  have h3 : (i : Int) < n := by omega
  unfold q1R at ih vs
  simp [q3C, tPD, tV] at ih
  simp [q3C, tPD, tV, A1, A5, hn, h2, h2n, h3, e1, e1', vt, vs, ho, w1]
  refine ⟨by omega, ?_⟩
  rw [hK]
  simpa using ih
theorem qFy {Q : AX → St → Prop} (S : Stt) (i : Nat) (hi : i < S.words.l.length) (hi0 : i ≤ 1000000) (W : Sl (Sl Int)) (hW : S.words.l.getD i Sl.zz = W) (hw : W.l.length ≤ 1000000) (R : List Int) (hR0 : R.length ≤ 2000000000)
  (h0 : Q (.exit 4) ⟨[(20, .lp 20 0 0), (24, .ls 163 0 R.length none), (25, .t (tI i)), (26, .t (tI W.l.length)), (178, .t (tB false))], [(20, .bx ((D6 S).map .t)), (163, .sl 61 1 (Ab R))]⟩) :
  ∀ (k j : Nat) (out : List Int), k + j = W.l.length → out ++ (W.l.drop j).flatMap (·.l) = R →
  run Tryz.prog Γ Ez Q ⟨[(20, .lp 20 0 0), (24, .ls 163 0 out.length none), (25, .t (tI i)), (26, .t (tI j))], [(20, .bx ((D6 S).map .t)), (163, .sl 61 1 (Ab out))]⟩
 | 0, j, out, h, hR => by
  refine Ju fun K hK => ?_
  have h2 : j = W.l.length := by omega
  subst h2
  rw [List.drop_length] at hR
  simp only [List.flatMap_nil, List.append_nil] at hR
  subst hR
  have e1 := gE (f := tW) Sl.zz hi
  have e1' := gE' (f := tW) Sl.zz hi
  rw [hW] at e1 e1'
  have h3 : (i : Int) < S.words.l.length := by omega
  simp only [tW] at e1 e1'
  simp [D6, tWs, tW] at h0
  simp [D6, tWs, tW, A1, A5, hi, h3, e1, e1']
  simpa using h0
 | k + 1, j, out, h, hR => by
  refine Ju fun K hK => ?_
  have h2 : j < W.l.length := by omega
  rw [List.drop_eq_getElem_cons h2] at hR
  simp only [List.flatMap_cons] at hR
  have e1 := gE (f := tW) Sl.zz hi
  have e1' := gE' (f := tW) Sl.zz hi
  rw [hW] at e1 e1'
  have e2 := gE (f := tV) Sl.z h2
  have e2' := gE' (f := tV) Sl.z h2
  rw [show W.l.getD j Sl.z = W.l[j] by simp [List.getD_eq_getElem?_getD, h2]] at e2 e2'
  generalize W.l[j] = r at *
  have ih := qFy S i hi hi0 W hW hw R hR0 h0 k (j + 1) (out ++ r.l) (by omega) (by rw [← hR, List.append_assoc])
  have hlen : out.length + r.l.length ≤ 2000000000 := by rw [← hR] at hR0; simp only [List.length_append] at hR0; omega
  have h3 : (i : Int) < S.words.l.length := by omega
  have h4 : (j : Int) < W.l.length := by omega
  have va : Ab out ++ Ab r.l = Ab (out ++ r.l) := by simp [Af]
  have vt : (Ab out).take out.length = Ab out := B9
  have w1 := Dc (i := j) (by omega)
  simp only [tW] at e1 e1'
  simp only [tV] at e2 e2'
  simp [D6, tWs, tW, tV] at ih
  simp [D6, tWs, tW, tV, A1, A5, hi, h3, h2, h4, e1, e1', e2, e2', vt, va, w1]
  refine ⟨by omega, ?_⟩
  rw [hK]
  simpa using ih
theorem qFz {Q : AX → St → Prop} (S : Stt) (hS : S.words.l.length ≤ 1000000) (hw : ∀ W ∈ S.words.l, W.l.length ≤ 1000000) (R : List Int) (hR0 : R.length ≤ 2000000000)
  (h0 : Q (.exit 2) ⟨[(20, .lp 20 0 0), (24, .ls 163 0 R.length none), (25, .t (tI S.words.l.length)), (168, .t (tB false))], [(20, .bx ((D6 S).map .t)), (163, .sl 61 1 (Ab R))]⟩) :
  ∀ (k i : Nat) (out : List Int), k + i = S.words.l.length → out ++ (S.words.l.drop i).flatMap (fun W => W.l.flatMap (·.l)) = R →
  run Tryz.prog Γ F2 Q ⟨[(20, .lp 20 0 0), (24, .ls 163 0 out.length none), (25, .t (tI i))], [(20, .bx ((D6 S).map .t)), (163, .sl 61 1 (Ab out))]⟩
 | 0, i, out, h, hR => by
  refine Jv fun K hK => ?_
  have h2 : i = S.words.l.length := by omega
  subst h2
  rw [List.drop_length] at hR
  simp only [List.flatMap_nil, List.append_nil] at hR
  subst hR
  simp [D6, tWs] at h0
  simp [D6, tWs, A1]
  simpa using h0
 | k + 1, i, out, h, hR => by
  refine Jv fun K hK => ?_
  have h2 : i < S.words.l.length := by omega
  rw [List.drop_eq_getElem_cons h2] at hR
  simp only [List.flatMap_cons] at hR
  have hW : S.words.l.getD i Sl.zz = S.words.l[i] := by simp [List.getD_eq_getElem?_getD, h2]
  have hwl := hw _ (List.getElem_mem h2)
  generalize S.words.l[i] = W at *
  have hlen : (out ++ W.l.flatMap (·.l)).length ≤ 2000000000 := by rw [← hR] at hR0; simp only [List.length_append] at hR0 ⊢; omega
  have g := fun Q h0 => qFy (Γ := Γ) (Q := Q) S i h2 (by omega) W hW hwl (out ++ W.l.flatMap (·.l)) hlen h0 W.l.length 0 out (by omega) (by simp)
  have ih := qFz S hS hw R hR0 h0 k (i + 1) (out ++ W.l.flatMap (·.l)) (by omega) (by rw [← hR, List.append_assoc])
  have h3 : (i : Int) < S.words.l.length := by omega
  have w1 := Dc (i := i) (by omega)
  simp [D6, tWs] at g ih
  simp [D6, tWs, A1, h2, h3]
  refine g _ ?_
  simp [w1]
  rw [hK]
  simpa using ih
theorem qG0 {Q : AX → St → Prop} (S : Stt) (hS : S.read.l.length ≤ 1000000) (R : List Int) (hR0 : R.length ≤ 2000000000)
  (h0 : Q (.exit 6) ⟨[(20, .lp 20 0 0), (24, .ls 163 0 R.length none), (27, .t (tI S.read.l.length)), (195, .t (tB false))], [(20, .bx ((D6 S).map .t)), (163, .sl 61 1 (Ab R))]⟩) :
  ∀ (k i : Nat) (out : List Int), k + i = S.read.l.length → out ++ (S.read.l.drop i).flatMap (·.l) = R →
  run Tryz.prog Γ F3 Q ⟨[(20, .lp 20 0 0), (24, .ls 163 0 out.length none), (27, .t (tI i))], [(20, .bx ((D6 S).map .t)), (163, .sl 61 1 (Ab out))]⟩
 | 0, i, out, h, hR => by
  refine Jw fun K hK => ?_
  have h2 : i = S.read.l.length := by omega
  subst h2
  rw [List.drop_length] at hR
  simp only [List.flatMap_nil, List.append_nil] at hR
  subst hR
  simp [D6, tW] at h0
  simp [D6, tW, A1]
  simpa using h0
 | k + 1, i, out, h, hR => by
  refine Jw fun K hK => ?_
  have h2 : i < S.read.l.length := by omega
  rw [List.drop_eq_getElem_cons h2] at hR
  simp only [List.flatMap_cons] at hR
  have e2 := gE (f := tV) Sl.z h2
  have e2' := gE' (f := tV) Sl.z h2
  rw [show S.read.l.getD i Sl.z = S.read.l[i] by simp [List.getD_eq_getElem?_getD, h2]] at e2 e2'
  generalize S.read.l[i] = r at *
  have ih := qG0 S hS R hR0 h0 k (i + 1) (out ++ r.l) (by omega) (by rw [← hR, List.append_assoc])
  have hlen : out.length + r.l.length ≤ 2000000000 := by rw [← hR] at hR0; simp only [List.length_append] at hR0; omega
  have h3 : (i : Int) < S.read.l.length := by omega
  have va : Ab out ++ Ab r.l = Ab (out ++ r.l) := by simp [Af]
  have vt : (Ab out).take out.length = Ab out := B9
  have w1 := Dc (i := i) (by omega)
  simp only [tV] at e2 e2'
  simp [D6, tW, tV] at ih
  simp [D6, tW, tV, A1, A5, h2, h3, e2, e2', vt, va, w1]
  refine ⟨by omega, ?_⟩
  rw [hK]
  simpa using ih
theorem qG1 {Q : AX → St → Prop} (R : List Int) (hR0 : R.length ≤ 2000000000) (hk : ∀ v ∈ R, V2 v)
  (h0 : Q (.exit 8) ⟨[(24, .ls 163 0 R.length none), (28, .t (tI R.length)), (208, .t (tB false))], [(163, .sl 61 1 (Ab R))]⟩) :
  ∀ (k i : Nat), k + i = R.length →
  run Tryz.prog Γ F4 Q ⟨[(24, .ls 163 0 R.length none), (28, .t (tI i))], [(163, .sl 61 1 (Ab R))]⟩
 | 0, i, h => by
  refine Jx fun K hK => ?_
  have h2 : i = R.length := by omega
  subst h2
  simp
  simpa using h0
 | k + 1, i, h => by
  refine Jx fun K hK => ?_
  have h2 : i < R.length := by omega
  have h3 : (i : Int) < R.length := by omega
  have e1 := gE (f := tK) 0 h2
  have e1' := gE' (f := tK) 0 h2
  have hv := hk _ (List.getElem_mem h2)
  rw [Aw h2] at e1 e1'
  generalize R[i] = v at *
  have hkn := Qg (Γ := Γ) v
  have e3 : Kz v = true := by unfold Kz; unfold V2 at hv; simp; omega
  rw [e3] at hkn
  have ih := qG1 R hR0 hk h0 k (i + 1) (by omega)
  have w1 : IntKind.i64.wrap ((i : Int) + 1) = ((i + 1 : Nat) : Int) := by rw [A4] <;> omega
  simp [A1, A5, h2, h3, e1, e1']
  refine A0 hkn rfl ?_
  simp [w1]
  rw [hK]
  simpa using ih
theorem qB9 (l : List Int) (c1 c2 : Option Nat) (n1 n2 : Option Bool) (hl : l.length ≤ 1000000000) : A3 Tryz.prog Γ 13 [.sl (Ab l) c1 n1, .sl (Ab l) c2 n2] (tI 0) := by
 have := qCd (Γ := Γ) ⟨l, c1, n1⟩ ⟨l, c2, n2⟩ (by show l.length ≤ _; omega)
 have e : q7s l l = 0 := by unfold q7s; rw [if_pos rfl]
 simpa [tV, e] using this
theorem V2.four {v : Int} (h : V2 v) : V4 v := by unfold V2 V4 at *; omega
theorem q85 {l : List (Sl Int)} {b n : Nat} (h : ∀ r ∈ l, r.l.length ≤ b) (hn : l.length ≤ n) : (l.flatMap (·.l)).length ≤ n * b := by
 induction l generalizing n with
 | nil => simp
 | cons r l ih =>
  simp only [List.flatMap_cons, List.length_append, List.length_cons] at hn ⊢
  have h1 := h r List.mem_cons_self
  obtain ⟨m, rfl⟩ : ∃ m, n = m + 1 := ⟨n - 1, by omega⟩
  have h2 := ih (n := m) (fun x hx => h x (List.mem_cons_of_mem _ hx)) (by omega)
  rw [Nat.add_mul, Nat.one_mul]
  omega
theorem qBA {l : List (Sl (Sl Int))} {b n : Nat} (h : ∀ W ∈ l, (W.l.flatMap (·.l)).length ≤ b) (hn : l.length ≤ n) : (l.flatMap fun W => W.l.flatMap (·.l)).length ≤ n * b := by
 induction l generalizing n with
 | nil => simp
 | cons r l ih =>
  simp only [List.flatMap_cons, List.length_append, List.length_cons] at hn ⊢
  have h1 := h r List.mem_cons_self
  obtain ⟨m, rfl⟩ : ∃ m, n = m + 1 := ⟨n - 1, by omega⟩
  have h2 := ih (n := m) (fun x hx => h x (List.mem_cons_of_mem _ hx)) (by omega)
  rw [Nat.add_mul, Nat.one_mul]
  omega
set_option maxHeartbeats 8000000 in
theorem qER (hΓ : GOk Γ) (x : CD) (hx : Yl x) (v : Sl Int) (hv : ∀ u ∈ v.l, Wx u) (hvl : v.l.length ≤ 140737488351232) (q : PD) (hq : q8S q) (hql : q.i.l.length ≤ 140737488351232 ∧ q.s.l.length ≤ 140737488351232) :
  Ae Tryz.prog Γ 3 [.agg (L8 x), .agg (q3C v q)] (tB true) := by
 refine B5 Z6 rfl ?_
 -- the first half: no memory
 have hm := qDv hx
 have e1 := qBa (Γ := Γ) _ hm
 have hc := qH2 hm rfl
 have h := qEM hm
 have M := qEL hm
 simp [L8, qBp] at e1
 change Ae _ _ _ _ (T.agg (tC (Jz (qBp x)))) at e1
 generalize Jz (qBp x) = c at *
 have hst := qCo (Γ := Γ) v q hq c h
 have H : Nv c (q0P v.l c) := qBt (fun u hu => (hv u hu).1) c
 have hP := qDw hq c
 have hPi : (q6q q c).inn.l.length = (Be c).length := hP.i
 have hPv := hP.vi
 generalize q0P v.l c = s at *
 generalize (q6q q c).inn = inn at *
 have hn2 := M.n2
 have hcyc := q9u hΓ h (by omega) H inn hPi hPv
 have hrun := qH3 hΓ hc (p := ⟨inn, s.dff⟩) ⟨hPi, H.d, hPv, fun u hu => (show V3 u from H.vd u hu).four⟩
 have eN : B8 c s inn.l = Ti c inn.l s.dff.l := q9i hc.m0
 simp only [← eN] at hrun
 have hN : (B8 c s inn.l).length = c.nodes.l.length := q1l
 have hil := M6 c
 have hsl := Ef c
 have ho4 := h.ok.outs
 have hol : (Vq c (B8 c s inn.l)).length ≤ 1000000000 := by unfold Vq; rw [List.length_map]; exact ho4
 have hxl : (C6 c (B8 c s inn.l)).length ≤ 1000000000 := by unfold C6; rw [List.length_map]; omega
 have s1 := fun c1 c2 n1 n2 => qB9 (Γ := Γ) (B8 c s inn.l) c1 c2 n1 n2 (by omega)
 have s2 := fun c1 c2 n1 n2 => qB9 (Γ := Γ) (Vq c (B8 c s inn.l)) c1 c2 n1 n2 hol
 have s3 := fun c1 c2 n1 n2 => qB9 (Γ := Γ) (C6 c (B8 c s inn.l)) c1 c2 n1 n2 hxl
 have hw0 : Js (B8 c s inn.l) c.mems.l s.words.l = [] := by rw [hc.mm]; rfl
 have hr0 : Lp (B8 c s inn.l) c.mems.l s.words.l = [] := by rw [hc.mm]; rfl
 have hm0 : c.mems.l.length = 0 := by rw [hc.mm]; rfl
 simp only [Sj, hw0, hr0, hm0] at hcyc
 generalize Vq c (B8 c s inn.l) = O at *
 generalize C6 c (B8 c s inn.l) = X at *
 generalize B8 c s inn.l = N at *
 -- the second half: no bus
 have hb := qEN hx
 have e2 := qBa (Γ := Γ) _ hb
 have h' := qEM hb
 have M' := qEL hb
 have h12 := qCp hx
 simp [L8, U6] at e2
 change Ae _ _ _ _ (T.agg (tC (Jz (U6 x)))) at e2
 generalize Jz (U6 x) = d at *
 have g1 := fun Q h0 => qFx (Γ := Γ) (Q := Q) v q (.ip (tC d) 0) v.l.length rfl hvl hv (v.l.map q1R) h0 v.l.length 0 [] (by omega) rfl (by simp)
 have ml : (v.l.map q1R).length = v.l.length := by simp
 have hk2 : ∀ u ∈ v.l.map q1R ++ [1], V2 u := fun u hu => by
  rcases List.mem_append.1 hu with hu | hu
  ·obtain ⟨y, hy, rfl⟩ := List.mem_map.1 hu
   have h0 := (hv y hy).1
   unfold q1R
   rw [Int.tmod_eq_emod_of_nonneg h0]
   have := Int.emod_nonneg y (show (2 : Int) ≠ 0 by omega)
   have := Int.emod_lt_of_pos y (show (0 : Int) < 2 by omega)
   unfold V2; omega
  ·rw [List.mem_singleton.1 hu]; unfold V2; omega
 have hmt : (Ab (v.l.map q1R)).take v.l.length = Ab (v.l.map q1R) := by rw [← ml]; exact B9
 have hvs : Ab (v.l.map q1R) ++ [[T.v (Value.int .u8 1)]] = Ab (v.l.map q1R ++ [1]) := by simp [Af]
 have hS := fun cp nl => q81 (Γ := Γ) ⟨v.l.map q1R ++ [1], cp, nl⟩ d h'.ok h'.n h'.cm (fun m hm => ⟨(h'.mf m hm).1.2, (h'.mf m hm).2.1.2⟩)
 have K : qEP (q0P (v.l.map q1R ++ [1]) d) := qHA (by simp) hk2 d
 have H' : Nv d (q0P (v.l.map q1R ++ [1]) d) := qBt (fun u hu => (hk2 u hu).1) d
 simp only at hS
 generalize q0P (v.l.map q1R ++ [1]) d = t at *
 generalize v.l.map q1R = l2 at *
 have hkn := q8h (Γ := Γ) q hq hql d h'.ok
 have bI : (knI q d).length = (Be d).length := M8
 have bI2 : ∀ u ∈ knI q d, V2 u := qFC hq.1
 generalize knI q d = bi at *
 generalize knS q d = bs at *
 have hn2' := M'.n2
 have hcyc2 := q9u hΓ h' (by omega) H' ⟨bi, none, none⟩ bI (fun u hu => (bI2 u hu).four)
 have hNk : ∀ u ∈ B8 d t bi, V2 u := qFK h' h12 H' K bI bI2
 have hNl : (B8 d t bi).length = d.nodes.l.length := q1l
 have hOk := qHB h'.lev hNl hNk
 have hXk := q9y h'.lev hNl hNk
 have KS := qFL h' M' H' K hNl hNk
 have HS : Nv d (Sj d t (B8 d t bi)) := qEF h' H' (fun u hu => (hNk u hu).four)
 have hWs := HS.words h'
 have hRs := HS.reads h'
 have wl := HS.w
 have rl := HS.r
 have hcm := h'.cm
 have ho4' := h'.ok.outs
 have hsl' := Ef d
 have hol' : (Vq d (B8 d t bi)).length ≤ 1000000000 := by unfold Vq; rw [List.length_map]; exact ho4'
 have hxl' : (C6 d (B8 d t bi)).length ≤ 16 := by unfold C6; rw [List.length_map]; omega
 simp only at hcyc2
 have hXd : (Sj d t (B8 d t bi)).dff = ⟨C6 d (B8 d t bi), some (C6 d (B8 d t bi)).length, none⟩ := rfl
 generalize Sj d t (B8 d t bi) = S at *
 generalize Vq d (B8 d t bi) = O' at *
 generalize C6 d (B8 d t bi) = X' at *
 generalize B8 d t bi = N' at *
 have f1 : (S.words.l.flatMap fun W => W.l.flatMap (·.l)).length ≤ 16 * (256 * 32) := qBA (fun W hW => q85 (fun r hr => (hWs W hW).2.2 r hr) (hWs W hW).1) (by omega)
 have f2 : (S.read.l.flatMap (·.l)).length ≤ 16 * 32 := q85 (fun r hr => hRs r hr) (by omega)
 have g5 := fun Q h0 => qFz (Γ := Γ) (Q := Q) S (by omega) (fun W hW => by have := (hWs W hW).1; omega) (X' ++ O' ++ N' ++ (S.words.l.flatMap fun W => W.l.flatMap (·.l))) (by simp only [List.length_append]; omega) h0 S.words.l.length 0 (X' ++ O' ++ N') (by omega) (by simp)
 have g7 := fun Q h0 => qG0 (Γ := Γ) (Q := Q) S (by omega) (X' ++ O' ++ N' ++ (S.words.l.flatMap fun W => W.l.flatMap (·.l)) ++ S.read.l.flatMap (·.l)) (by simp only [List.length_append]; omega) h0 S.read.l.length 0 (X' ++ O' ++ N' ++ (S.words.l.flatMap fun W => W.l.flatMap (·.l))) (by omega) (by simp)
 have hall : ∀ u ∈ X' ++ O' ++ N' ++ (S.words.l.flatMap fun W => W.l.flatMap (·.l)) ++ S.read.l.flatMap (·.l), V2 u := fun u hu => by
  simp only [List.mem_append, List.mem_flatMap] at hu
  rcases hu with (((hu | hu) | hu) | ⟨W, hW, r, hr, hu⟩) | ⟨r, hr, hu⟩
  ·exact hXk u hu
  ·exact hOk u hu
  ·exact hNk u hu
  ·exact KS.w W hW r hr u hu
  ·exact KS.r r hr u hu
 have g9 := fun Q h0 => qG1 (Γ := Γ) (Q := Q) _ (by simp only [List.length_append]; omega) hall h0 _ 0 rfl
 have hA : X'.length + O'.length + N'.length ≤ 2000000000 := by omega
 have lA : (X' ++ O' ++ N').length = X'.length + O'.length + N'.length := by simp [Nat.add_assoc]
 have a1 : Ab X' ++ Ab O' = Ab (X' ++ O') := by simp [Af]
 have a2 : Ab (X' ++ O') ++ Ab N' = Ab (X' ++ O' ++ N') := by simp [Af]
 have lXO : (X' ++ O').length = X'.length + O'.length := by simp
 have t1 : (Ab X').take X'.length = Ab X' := B9
 have t2 : (Ab (X' ++ O')).take (X'.length + O'.length) = Ab (X' ++ O') := by rw [← lXO]; exact B9
 generalize X' ++ O' ++ N' ++ (S.words.l.flatMap fun W => W.l.flatMap (·.l)) ++ S.read.l.flatMap (·.l) = R3 at *
 generalize X' ++ O' ++ N' ++ (S.words.l.flatMap fun W => W.l.flatMap (·.l)) = R2 at *
 have eD : S.dff.l = X' := by rw [hXd]
 have hR1 : X'.length + O'.length + d.nodes.l.length = (X' ++ O' ++ N').length := by rw [← hNl]; exact lA.symm
 generalize hA1 : X' ++ O' ++ N' = R1 at *
 simp [tC, A6, A8, Ad, Bl, tV, tVs, D6, tW, tWs, q3C, tPD, tP, I8] at hst hcyc hrun hS hkn hcyc2
 simp [q3C, tPD, tV, tC, A6, A8, Ad, Bl, I8] at g1
 simp [D6, tV, tW, tWs, eD] at g5 g7
 simp at g9
 simp [P6, L8, q3C, tPD, tV]
 refine A9 e1 rfl ?_
 simp [tC, A6, A8, Ad, Bl]
 refine A9 hst rfl ?_
 simp
 refine A9 hcyc rfl ?_
 simp
 refine A9 hrun rfl ?_
 simp [A1, Aa, hN]
 refine A0 (s1 _ _ _ _) rfl ?_
 simp
 refine A0 (s2 _ _ _ _) rfl ?_
 simp
 refine A0 (s3 _ _ _ _) rfl ?_
 simp
 refine A0 (s3 _ _ _ _) rfl ?_
 have w00 : IntKind.i64.wrap 0 = 0 := by decide
 simp [A1, Aa, w00]
 refine A9 e2 rfl ?_
 simp [tC, A6, A8, Ad, Bl, St.freeze, B0.closed, Dl, frz1, frz0, Im, del, Ag, Ak]
 refine g1 _ ?_
 simp [hmt, hvs, ml, A5]
 refine ⟨by omega, ?_⟩
 refine A9 (hS _ _) rfl ?_
 simp
 refine A9 hkn rfl ?_
 simp
 refine A9 hcyc2 rfl ?_
 simp [A1, Aa, hNl, eD, a1, t2, a2, hA1, hR1]
 refine ⟨⟨A5, by omega⟩, ⟨A5, by omega⟩, ⟨A5, by omega⟩, ?_⟩
 refine g5 _ ?_
 simp
 refine g7 _ ?_
 simp
 refine g9 _ ?_
 simp
 refine A9 q8e rfl ?_
 simp [P7]
end Go.Lg
