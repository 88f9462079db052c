/- The reference of the simulation: value, Observe, Settle, Nets, walked. Conditions: none. -/
import Derived.Test.YthgiocdefejbiaaGreatDoorPkF
import Derived.Test.YthgiocdefejbiaaGreatDoorPkE
import Derived.Test.YthgiocdefejbiaaGreatDoorPkC
import Derived.Test.YthgiocdefejbiaaGreatDoorProg
import Derived.KernelRfl
import Derived.Test.YthgiocdefejbiaaGreatDoorPkD
set_option linter.unusedSimpArgs false
set_option linter.unusedVariables false
set_option maxRecDepth 100000
namespace Go.Lg
open Go Go.Proofs
variable {Γ : Tables}
theorem q9G (nets : Sl Int) (n : Int) (hl : nets.l.length ≤ 1000000000) : A6 Tryz.prog Γ 59 [tV nets, tI n] (tK (Hw nets.l n)) := by
 refine Aa q9W rfl ?_
 generalize hR : Hw nets.l n = R
 unfold Hw at hR
 by_cases h1 : n < 0
 ·rw [if_pos (.inl h1)] at hR
  subst hR
  simp [Md, tV, h1, Me]
 by_cases h2 : (nets.l.length : Int) ≤ n
 ·rw [if_pos (.inr h2)] at hR
  subst hR
  simp [Md, tV, h1, h2, A5, Me]
 rw [if_neg (by omega)] at hR
 have h3 : n.toNat < nets.l.length := by omega
 have e1 := gE (f := tK) 0 h3
 have e1' := Jv (f := tK) 0 h3
 generalize nets.l.getD n.toNat 0 = v at *
 have h4 : n < nets.l.length := by omega
 have h5 : 0 ≤ n := by omega
 by_cases h6 : 3 < v
 ·have hr : R = 2 := by rw [← hR]; unfold Du; rw [if_pos h6]
  subst hr
  simp [Md, tV, h1, h2, h3, h4, h5, h6, A5, A8, e1, e1', Me]
 ·have hr : R = v := by rw [← hR]; unfold Du; rw [if_neg h6]
  subst hr
  simp [Md, tV, h1, h2, h3, h4, h5, h6, A5, A8, e1, e1', Me]
def roE (c : Bd) (nets : Sl Int) : List (Nat × AV) := [(1, .t (tV nets)), (2, .t (.ip (tC c) 0)), (4, .lp 4 0 0), (5, .lp 5 0 0)]
def roH (o s : List Int) : List (Nat × Bn) := [(4, .bx [.t (.sl [] (some 0) (some true)), .t (.sl [] (some 0) (some true))]), (5, .bx [.ls 27 0 o.length none, .ls 67 0 s.length none]), (27, .sl 64 1 (Ai o)), (67, .sl 64 1 (Ai s))]
theorem qJC {Q : AX → St → Prop} (c : Bd) (nets : Sl Int) (hl : nets.l.length ≤ 1000000000) (ho : c.outs.l.length ≤ 1000000000) (R : List Int)
  (h0 : Q (.exit 0) ⟨roE c nets ++ [(6, .t (tI c.outs.l.length)), (14, .t (tB false))], roH R []⟩) :
  ∀ (k i : Nat) (out : List Int), k + i = c.outs.l.length → out.length = i → out ++ (c.outs.l.drop i).map (Hw nets.l) = R →
  run Tryz.prog Γ Np Q ⟨roE c nets ++ [(6, .t (tI i))], roH out []⟩
 | 0, i, out, h, hi, hR => by
  refine Wl fun K hK => ?_
  have h2 : i = c.outs.l.length := by omega
  rw [List.drop_of_length_le (by omega), List.map_nil, List.append_nil] at hR
  subst hR
  subst h2
  simp [roE, roH, tC, Ab, Ad, Ag, Av, tV] at h0
  simp [roE, roH, tC, Ab, Ad, Ag, Av, tV, A5]
  simpa using h0
 | k + 1, i, out, h, hi, hR => by
  refine Wl fun K hK => ?_
  have h2 : i < c.outs.l.length := by omega
  rw [List.drop_eq_getElem_cons h2, List.map_cons] at hR
  have e1 := gE (f := tI) 0 h2
  have e1' := Jv (f := tI) 0 h2
  rw [B5 h2] at e1 e1'
  generalize c.outs.l[i] = n at *
  have ih := qJC c nets hl ho R h0 k (i + 1) (out ++ [Hw nets.l n]) (by omega) (by simp [hi]) (by rw [← hR]; simp)
  have vs := Ha (l := out) (v := Hw nets.l n)
  have vt : (Ai out).take i = Ai out := by rw [← hi]; exact Bh
  have hv := q9G (Γ := Γ) nets n hl
  generalize Hw nets.l n = v at *
  have w1 : IntKind.i64.wrap ((i : Int) + 1) = (i : Int) + 1 := by rw [A9] <;> omega
  simp [tV] at hv
  simp [roE, roH, tC, Ab, Ad, Ag, Av, tV] at ih
  simp [roE, roH, tC, Ab, Ad, Ag, Av, tV, A5, A8, h2, e1, e1', hi]
  refine A4 hv rfl ?_
  simp [vt, vs, A5, A8, hi, w1]
  refine ⟨by omega, ?_⟩
  rw [hK]
  simpa [hi] using ih
theorem qJD {Q : AX → St → Prop} (c : Bd) (hc : COk c) (nets : Sl Int) (hl : nets.l.length ≤ 1000000000) (ns : List Int) (hns : ns.length ≤ 1000000) (hin : ∀ n ∈ ns, 0 ≤ n ∧ n < c.nodes.l.length) (o R : List Int) (sc : Option Nat) (sn : Option Bool)
  (h0 : Q (.exit 2) ⟨roE c nets ++ [(7, .t (.sl (Ak ns) sc sn)), (8, .t (tI ns.length)), (34, .t (tB false))], roH o R⟩) :
  ∀ (k i : Nat) (out : List Int), k + i = ns.length → out.length = i → out ++ (ns.drop i).map (q2q c nets.l) = R →
  run Tryz.prog Γ Nq Q ⟨roE c nets ++ [(7, .t (.sl (Ak ns) sc sn)), (8, .t (tI i))], roH o out⟩
 | 0, i, out, h, hi, hR => by
  refine Wm fun K hK => ?_
  have h2 : i = ns.length := by omega
  rw [List.drop_of_length_le (by omega), List.map_nil, List.append_nil] at hR
  subst hR
  subst h2
  simp [roE, roH, tC, Ab, Ad, Ag, Av, tV] at h0
  simp [roE, roH, tC, Ab, Ad, Ag, Av, tV, A5]
  simpa using h0
 | k + 1, i, out, h, hi, hR => by
  refine Wm fun K hK => ?_
  have h2 : i < ns.length := by omega
  rw [List.drop_eq_getElem_cons h2, List.map_cons] at hR
  have e1 := gE (f := tI) 0 h2
  have e1' := Jv (f := tI) 0 h2
  have hn := hin ns[i] (List.getElem_mem h2)
  rw [B5 h2] at e1 e1'
  generalize ns[i] = n at *
  have ih := qJD c hc nets hl ns hns hin o R sc sn h0 k (i + 1) (out ++ [q2q c nets.l n]) (by omega) (by simp [hi]) (by rw [← hR]; simp)
  have vs := Ha (l := out) (v := q2q c nets.l n)
  have vt : (Ai out).take i = Ai out := by rw [← hi]; exact Bh
  have hget := q2S hn.1 hn.2
  have hget' := q2a hn.1 hn.2
  have hnl : q2q c nets.l n = if (nd c n).inn.l.length = 1 then Dk (Hw nets.l ((nd c n).inn.l.getD 0 0)) else 2 := rfl
  have hnn : n.toNat < c.nodes.l.length := by omega
  generalize nd c n = x at *
  generalize q2q c nets.l n = v at *
  obtain ⟨h3, h4⟩ := hn
  have w1 : IntKind.i64.wrap ((i : Int) + 1) = (i : Int) + 1 := by rw [A9] <;> omega
  simp [roE, roH, tC, Ab, Ad, Ag, Av, tV] at ih
  by_cases h1 : x.inn.l.length = 1
  ·rw [if_pos h1] at hnl
   have h10 : 0 < x.inn.l.length := by omega
   have e0 := gE (f := tI) 0 h10
   have e0' := Jv (f := tI) 0 h10
   have hv := q9G (Γ := Γ) nets (x.inn.l.getD 0 0) hl
   have hv3 : Hw nets.l (x.inn.l.getD 0 0) ≤ 3 := by
    unfold Hw Du
    split
    ·omega
    ·split <;> omega
   generalize x.inn.l.getD 0 0 = m at *
   generalize Hw nets.l m = u at *
   have h1i : (x.inn.l.length : Int) = 1 := by omega
   simp [tV] at hv
   simp [roE, roH, tC, Ab, Ad, Ag, Av, tV, A5, A8, Ac, Bi, h2, e1, e1', h3, h4, hnn, hget, hget', E0, h1, h1i, e0, e0', h10]
   refine A4 hv rfl ?_
   by_cases hu : u = 3
   ·subst hu
    have hv2 : v = 2 := by rw [hnl]; rfl
    subst hv2
    simp [vt, vs, A5, A8, hi, w1]
    refine ⟨by omega, ?_⟩
    rw [hK]
    simpa [hi] using ih
   ·have hv2 : v = u := by rw [hnl]; unfold Dk; split <;> omega
    subst hv2
    simp [hu, vt, vs, A5, A8, hi, w1]
    refine ⟨by omega, ?_⟩
    rw [hK]
    simpa [hi] using ih
  ·rw [if_neg h1] at hnl
   subst hnl
   have h1i : ¬ (x.inn.l.length : Int) = 1 := by omega
   simp [roE, roH, tC, Ab, Ad, Ag, Av, tV, A5, A8, Ac, Bi, h2, e1, e1', h3, h4, hnn, hget, hget', E0, h1, h1i, vt, vs, hi, w1]
   refine ⟨by omega, ?_⟩
   rw [hK]
   simpa [hi] using ih
theorem q9b (c : Bd) (hc : COk c) (nets : Sl Int) (hl : nets.l.length ≤ 1000000000) (ho : c.outs.l.length ≤ 1000000000) (hn : c.nodes.l.length ≤ 1000000) : Ah Tryz.prog Γ 15 [.agg (tC c), tV nets] (.agg [.sl (Ai (X1 c nets.l)) none none, .sl (Ai (D8 c nets.l)) none none]) := by
 refine B7 q7f rfl ?_
 have e1 := qAx (Γ := Γ) c hc 14 hn
 have hsl := Hl c
 have hin : ∀ n ∈ Be c, 0 ≤ n ∧ n < c.nodes.l.length := fun n hn => ⟨(Jw n hn).1, (Jw n hn).2.1⟩
 have g1 := fun Q h0 => qJC (Γ := Γ) (Q := Q) c nets hl ho (X1 c nets.l) h0 c.outs.l.length 0 [] (by omega) rfl (by simp [X1])
 have g3 := fun Q sc sn h0 => qJD (Γ := Γ) (Q := Q) c hc nets hl (Be c) (by omega) hin (X1 c nets.l) (D8 c nets.l) sc sn h0 (Be c).length 0 [] (by omega) rfl (by simp [D8])
 have t1 : (Ai (X1 c nets.l)).take (X1 c nets.l).length = Ai (X1 c nets.l) := Bh
 have t2 : (Ai (D8 c nets.l)).take (D8 c nets.l).length = Ai (D8 c nets.l) := Bh
 have hst : Be c = N5 [14] c.nodes.l 0 := rfl
 rw [← hst] at e1
 generalize X1 c nets.l = O at *
 generalize D8 c nets.l = N at *
 generalize Be c = ns at *
 simp [roE, roH, tC, Ab, Ad, Ag, Av, tV, Cf] at g1 g3
 simp [tC, Ab, Ad, Ag, Av] at e1
 simp [q1w, tC, Ab, Ad, Ag, Av, tV]
 refine g1 _ ?_
 simp
 refine Ae e1 rfl ?_
 simp
 refine g3 _ _ _ ?_
 simp [q1x, Am, t1, t2]
theorem qL7 {Q : AX → St → Prop} (c : Bd) (n : Nat) (hn : n ≤ 1000000) (x : Nd) (hxl : x.inn.l.length ≤ 1000000) (hin : ∀ p ∈ x.inn.l, 0 ≤ p ∧ p < n) (nets : List Int) (hl : nets.length = n) (ord : T) (i : Nat) (R : List Int)
  (h0 : Q (.exit 2) ⟨[(2, .t (.ip (tC c) 0)), (5, .ls 12 0 n none), (6, .t ord), (7, .t (tI i)), (8, .lp 8 0 0), (9, .ls 46 0 x.inn.l.length none), (10, .t (tI x.inn.l.length)), (33, .t (tB false))], [(8, .bx ((E0 x).map .t)), (12, .sl 64 1 (Ai nets)), (46, .sl 64 1 (Ai R))]⟩) :
  ∀ (f j : Nat) (out : List Int), f + j = x.inn.l.length → out.length = j → out ++ (x.inn.l.drop j).map (fun k => nets.getD k.toNat 0) = R →
  run Tryz.prog Γ P6 Q ⟨[(2, .t (.ip (tC c) 0)), (5, .ls 12 0 n none), (6, .t ord), (7, .t (tI i)), (8, .lp 8 0 0), (9, .ls 46 0 j none), (10, .t (tI j))], [(8, .bx ((E0 x).map .t)), (12, .sl 64 1 (Ai nets)), (46, .sl 64 1 (Ai out))]⟩
 | 0, j, out, h, ho, hR => by
  refine Xu fun K hK => ?_
  have h2 : j = x.inn.l.length := by omega
  rw [List.drop_of_length_le (by omega), List.map_nil, List.append_nil] at hR
  subst hR
  subst h2
  simp [E0, Av] at h0
  simp [E0, Av, A5]
  simpa using h0
 | f + 1, j, out, h, ho, hR => by
  refine Xu fun K hK => ?_
  have h2 : j < x.inn.l.length := by omega
  rw [List.drop_eq_getElem_cons h2, List.map_cons] at hR
  have e1 := gE (f := tI) 0 h2
  have e1' := Jv (f := tI) 0 h2
  obtain ⟨p0, p1⟩ := hin _ (List.getElem_mem h2)
  rw [B5 h2] at e1 e1'
  generalize x.inn.l[j] = p at *
  have hq : p.toNat < nets.length := by omega
  have hqn : p.toNat < n := by omega
  have e2 := gE (f := tK) 0 hq
  have e2' := Jv (f := tK) 0 hq
  have ih := qL7 c n hn x hxl hin nets hl ord i R h0 f (j + 1) (out ++ [nets.getD p.toNat 0]) (by omega) (by simp [ho]) (by rw [← hR]; simp)
  generalize nets.getD p.toNat 0 = v at *
  have vs := Ha (l := out) (v := v)
  have vt : (Ai out).take j = Ai out := by rw [← ho]; exact Bh
  have w1 : IntKind.i64.wrap ((j : Int) + 1) = (j : Int) + 1 := by rw [A9] <;> omega
  simp [E0, Av] at ih
  simp [E0, Av, A5, A8, h2, e1, e1', p0, p1, hq, hqn, hl, e2, e2', vt, vs, ho, w1]
  refine ⟨by omega, ?_⟩
  rw [hK]
  simpa using ih
theorem qL8 {Q : AX → St → Prop} (c : Bd) (H : ROk c) (hk : ∀ i, i < c.nodes.l.length → 0 ≤ Ap c i ∧ Ap c i ≤ 15) (hn : c.nodes.l.length ≤ 1000000) (ord : List Int) (oc : Option Nat) (on' : Option Bool) (ho : ord.length ≤ 1000000) (hin : ∀ n ∈ ord, 0 ≤ n ∧ n < c.nodes.l.length) (R : List Int)
  (h0 : Q (.exit 0) ⟨[(2, .t (.ip (tC c) 0)), (5, .ls 12 0 c.nodes.l.length none), (6, .t (.sl (Ak ord) oc on')), (7, .t (tI ord.length)), (18, .t (tB false))], [(12, .sl 64 1 (Ai R))]⟩) :
  ∀ (f i : Nat) (nets : List Int), f + i = ord.length → nets.length = c.nodes.l.length → (∀ v ∈ nets, V4 v) → q55 c (ord.drop i) nets = R →
  run Tryz.prog Γ P7 Q ⟨[(2, .t (.ip (tC c) 0)), (5, .ls 12 0 c.nodes.l.length none), (6, .t (.sl (Ak ord) oc on')), (7, .t (tI i))], [(12, .sl 64 1 (Ai nets))]⟩
 | 0, i, nets, h, hl, hv, hR => by
  refine Xv fun K hK => ?_
  have h2 : i = ord.length := by omega
  subst h2
  rw [List.drop_length] at hR
  have hR' : nets = R := hR
  subst hR'
  simp [tC, Ab, Ad, Ag, Av] at h0
  simp [tC, Ab, Ad, Ag, Av, A5]
  simpa using h0
 | f + 1, i, nets, h, hl, hv, hR => by
  refine Xv fun K hK => ?_
  have h2 : i < ord.length := by omega
  rw [List.drop_eq_getElem_cons h2] at hR
  have hR : q55 c (ord.drop (i + 1)) (Qf c nets ord[i]) = R := hR
  have e1 := gE (f := tI) 0 h2
  have e1' := Jv (f := tI) 0 h2
  have hnn := hin _ (List.getElem_mem h2)
  rw [B5 h2] at e1 e1'
  generalize ord[i] = n at *
  have ih := qL8 c H hk hn ord oc on' ho hin R h0 f (i + 1) (Qf c nets n) (by omega) (by rw [q4s]; exact hl) (qCj hv) hR
  have hget := q2S hnn.1 hnn.2
  have hget' := q2a hnn.1 hnn.2
  have hmem := qCi hnn.1 hnn.2
  have hxi := H.inn _ hmem
  have hn2 : n.toNat < c.nodes.l.length := by omega
  have hkk : 0 ≤ (nd c n).k ∧ (nd c n).k ≤ 15 := hk n.toNat hn2
  have hinv : H6 c nets n.toNat = (nd c n).inn.l.map fun k => nets.getD k.toNat 0 := rfl
  have hlR : (H6 c nets n.toNat).length = (nd c n).inn.l.length := by rw [hinv]; simp
  have hvR : ∀ v ∈ H6 c nets n.toNat, V4 v := fun v hv' => by
   rw [hinv] at hv'
   obtain ⟨q, hq, rfl⟩ := List.mem_map.1 hv'
   exact Ul hv _
  have hev := qCw (Γ := Γ) (nd c n).k hkk ⟨H6 c nets n.toNat, none, none⟩ (by show (H6 c nets n.toNat).length ≤ _; omega)
  have heq := qKA hkk hvR
  simp only [heq] at hev
  have hcb := q2Z (Γ := Γ) (nd c n).k
  have hst : Qf c nets n = if Cd (nd c n).k then nets.set n.toNat (Tz (nd c n).k (H6 c nets n.toNat)) else nets := rfl
  have g := fun Q h0 => qL7 (Γ := Γ) (Q := Q) c c.nodes.l.length hn (nd c n) (by omega) hxi.2 nets hl (.sl (Ak ord) oc on') i (H6 c nets n.toNat) h0 (nd c n).inn.l.length 0 [] (by omega) rfl (by rw [hinv]; simp)
  rw [hst] at ih
  have vt : (Ai (H6 c nets n.toNat)).take (nd c n).inn.l.length = Ai (H6 c nets n.toNat) := by rw [← hlR]; exact Bh
  generalize H6 c nets n.toNat = RV at *
  generalize nd c n = x at *
  obtain ⟨hn0, hn1⟩ := hnn
  have hn3 : n.toNat < nets.length := by omega
  have w1 : IntKind.i64.wrap ((i : Int) + 1) = (i : Int) + 1 := by rw [A9] <;> omega
  simp [tV] at hev
  simp [tC, Ab, Ad, Ag, Av, E0, Cf] at g
  simp [tC, Ab, Ad, Ag, Av, Ac, Bi, A5, A8, h2, e1, e1', hn0, hn1, hn2, hget, hget', E0]
  refine g _ ?_
  simp
  refine A4 hcb rfl ?_
  by_cases hc : Cd x.k = true
  ·rw [if_pos hc] at ih
   have hs : (Ai nets).set n.toNat [tK (Tz x.k RV)] = Ai (nets.set n.toNat (Tz x.k RV)) := Fj
   generalize Tz x.k RV = v at *
   simp [tC, Ab, Ad, Ag, Av] at ih
   simp [hc, A5, A8, h2, e1, e1']
   refine A4 hev (by simp [Am, vt]) ?_
   simp [hn0, hn1, hn2, hn3, A5, hl, hs, w1]
   rw [hK]
   simpa using ih
  ·rw [if_neg hc] at ih
   simp only [Bool.not_eq_true] at hc
   simp [tC, Ab, Ad, Ag, Av] at ih
   simp [hc, w1]
   rw [hK]
   simpa using ih
theorem qB6 (c : Bd) (hc : COk c) (h : E9 c = 0) (hk : ∀ i, i < c.nodes.l.length → 0 ≤ Ap c i ∧ Ap c i ≤ 15) (hn : c.nodes.l.length ≤ 1000000) (hn1 : 1 ≤ c.nodes.l.length) (init : List Int) (hi : init.length = c.nodes.l.length) (hv : ∀ v ∈ init, V4 v) (f : List Int) (hf : qHB c init f) (ic : Option Nat) (inl : Option Bool) : A6 Tryz.prog Γ 58 [.agg (tC c), .sl (Ai init) ic inl] (.sl (Ai f) none none) := by
 refine Aa q8W rfl ?_
 obtain ⟨o, ⟨v, ho, hol⟩, e1⟩ := qBS (Γ := Γ) c hc h hn
 have hL := q8Y h
 have hfo : q55 c o init = f := by
  rw [ho]
  exact qFJ h (qFV h hL (by rw [← ho]; exact hol) hi) hf
 have hoin : ∀ n ∈ o, 0 ≤ n ∧ n < c.nodes.l.length := fun n hn => by
  rw [ho] at hn
  exact Vg.1 (Jd.1 hn).1
 have hole : o.length ≤ c.nodes.l.length := by rw [ho]; exact qAu
 have g := fun Q oc on' h0 => qL8 (Γ := Γ) (Q := Q) c (qCk hc h) hk hn o oc on' (by omega) hoin f h0 o.length 0 init (by omega) hi hv (by rw [List.drop_zero]; exact hfo)
 have ht : (Ai f).take c.nodes.l.length = Ai f := by rw [← hf.1]; exact Bh
 have hne : ¬ init = [] := fun e => by rw [e] at hi; simp at hi; omega
 simp [tC, Ab, Ad, Ag, Av] at e1 g
 simp [q30, tC, Ab, Ad, Ag, Av, A5, A8, hi, hne]
 refine ⟨by omega, ?_⟩
 refine Ae e1 rfl ?_
 simp
 refine g _ _ _ ?_
 simp [q31, Am, ht]
theorem qCL {k : Int} {c : Bd} {i : Nat} (hi : i < c.nodes.l.length) : Ek k c (i + 1) = Ek k c i + if Ap c i = k then 1 else 0 := by
 unfold Ek
 rw [qAi hi]
 by_cases h : Ap c i = k
 ·rw [if_pos (by rw [h]; simp), if_pos h]; simp
 ·rw [if_neg (by simp; exact h), if_neg h]; simp
theorem qGY {k : Int} {c : Bd} {i : Nat} : Ek k c i ≤ i := Nat.le_trans (V9 _ _ _) (by rw [List.length_take]; omega)
theorem qCM {k : Int} {c : Bd} : Ek k c 0 = 0 := rfl
theorem qMG {L : List Int} {n N : Nat} (hL : L.length = N) (h : n < N) : (Ai (L.take n ++ List.replicate (N - n) 0)).set n [tK (L.getD n 0)] = Ai (L.take (n + 1) ++ List.replicate (N - (n + 1)) 0) := by
 have hn : n < L.length := by omega
 rw [show (Ai (L.take n ++ List.replicate (N - n) 0)).set n [tK (L.getD n 0)] = Ai ((L.take n ++ List.replicate (N - n) 0).set n (L.getD n 0)) from Fj]
 congr 1
 have ht : (L.take n).length = n := by rw [List.length_take]; omega
 rw [List.set_append_right _ _ (by omega), ht, Nat.sub_self, show N - n = (N - (n + 1)) + 1 by omega, List.replicate_succ, List.set_cons_zero, show L.take (n + 1) = L.take n ++ [L.getD n 0] by rw [List.take_add_one, List.getElem?_eq_getElem hn, B5 hn]; rfl, List.append_assoc]
 rfl
theorem qKH {L : List Int} {n N : Nat} (hL : L.length = N) (h : n < N) (h0 : L.getD n 0 = 0) : L.take n ++ List.replicate (N - n) 0 = L.take (n + 1) ++ List.replicate (N - (n + 1)) 0 := by
 have hn : n < L.length := by omega
 rw [show N - n = (N - (n + 1)) + 1 by omega, List.replicate_succ, show L.take (n + 1) = L.take n ++ [L.getD n 0] by rw [List.take_add_one, List.getElem?_eq_getElem hn, B5 hn]; rfl, h0, List.append_assoc]
 rfl
theorem qMH {Q : AX → St → Prop} (c : Bd) (h : MOk c) (s : Stt) (H : Ou c s) (inn : Sl Int) (hi : inn.l.length = (E1 c).length) (L : List Int) (hL : L = M4 c inn.l s.dff.l s.rd)
  (h0 : ∀ a b : Nat, Q (.exit 0) ⟨[(1, .t (tV s.dff)), (2, .t (tW s.read)), (3, .t (tV inn)), (4, .t (.ip (tC c) 0)), (9, .ls 16 0 c.nodes.l.length none), (10, .t (tI a)), (11, .t (tI b)), (12, .t (tI c.nodes.l.length)), (21, .t (tB false))], [(16, .sl 64 1 (Ai L))]⟩) :
  ∀ (k n : Nat), k + n = c.nodes.l.length →
  run Tryz.prog Γ Vn Q ⟨[(1, .t (tV s.dff)), (2, .t (tW s.read)), (3, .t (tV inn)), (4, .t (.ip (tC c) 0)), (9, .ls 16 0 c.nodes.l.length none), (10, .t (tI (Ek 0 c n))), (11, .t (tI (Ek 14 c n))), (12, .t (tI n))], [(16, .sl 64 1 (Ai (L.take n ++ List.replicate (c.nodes.l.length - n) 0)))]⟩ := by
 have hLl : L.length = c.nodes.l.length := by rw [hL]; exact Uw
 intro k
 induction k with
 | zero =>
  intro n hn
  refine q0s fun K hK => ?_
  have h2 : n = c.nodes.l.length := by omega
  subst h2
  rw [← hLl, List.take_length, hLl, Nat.sub_self, List.replicate_zero, List.append_nil]
  have := h0 (Ek 0 c c.nodes.l.length) (Ek 14 c c.nodes.l.length)
  simp [tC, Ab, Ad, Ag, Av] at this
  simp [tC, Ab, Ad, Ag, Av, Ac]
  simpa using this
 | succ k ih =>
  intro n hn
  refine q0s fun K hK => ?_
  have h2 : n < c.nodes.l.length := by omega
  have hN := h.n
  have ih := ih (n + 1) (by omega)
  have hget := q2S (c := c) (n := (n : Int)) (by omega) (by omega)
  have hget' := q2a (c := c) (n := (n : Int)) (by omega) (by omega)
  simp only [Int.toNat_natCast] at hget hget'
  have hk : (nd c n).k = Ap c n := by simp [nd, Ap]
  have hr0 := qCL (k := 0) h2
  have hr14 := qCL (k := 14) h2
  have hb0 : Ek 0 c n ≤ n := qGY
  have hb14 : Ek 14 c n ≤ n := qGY
  have r0 : Ap c n = 0 → Ek 0 c n < inn.l.length := fun e => by rw [hi]; exact (q4t h2 e).1
  have r14 : Ap c n = 14 → Ek 14 c n < s.dff.l.length := fun e => by rw [H.d]; exact (q4t h2 e).1
  have hLn : L.getD n 0 = if Ap c n = 15 then (s.rd.getD (nd c n).mem.toNat []).getD (nd c n).bit.toNat 0 else if Ap c n = 0 then inn.l.getD (Ek 0 c n) 0 else if Ap c n = 14 then s.dff.l.getD (Ek 14 c n) 0 else 0 := by
   rw [hL, qIZ h2]
   by_cases h15 : Ap c n = 15
   ·rw [if_pos h15, if_pos h15, qFO h2 h15]
   ·rw [if_neg h15, if_neg h15, qK2 hi H.d h2]
  have hbits : Ap c n = 15 → 0 ≤ (nd c n).mem ∧ (nd c n).mem < s.read.l.length ∧ 0 ≤ (nd c n).bit ∧ (nd c n).bit < (s.read.l.getD (nd c n).mem.toNat Sl.z).l.length := fun e => by
   obtain ⟨a1, a2, a3, a4⟩ := qEW h.lev (n : Int) ((q9n h2).2 e)
   exact ⟨a1, by rw [H.r]; exact a2, a3, by rw [H.rl _ (by omega)]; exact a4⟩
  have hset := qMG hLl h2
  have hzero := fun h0 => qKH hLl h2 h0
  have hlen : (Ai (L.take n ++ List.replicate (c.nodes.l.length - n) 0)).length = c.nodes.l.length := by rw [A5]; simp; omega
  rw [hr0, hr14] at ih
  rw [← hk] at hr0 hr14 r0 r14 hLn hbits ih
  clear hr0 hr14 h0 hL
  generalize hEq : L.take n ++ List.replicate (c.nodes.l.length - n) 0 = E at *
  generalize L.take (n + 1) ++ List.replicate (c.nodes.l.length - (n + 1)) 0 = E' at *
  generalize L.getD n 0 = v at *
  generalize Ek 0 c n = q0 at *
  generalize Ek 14 c n = q1 at *
  generalize nd c n = x at *
  have hEl := hlen
  rw [A5] at hEl
  have hni : (n : Int) < c.nodes.l.length := by omega
  have w1 := Bl (i := n) (by omega)
  have w2 := Bl (i := q0) (by omega)
  have w3 := Bl (i := q1) (by omega)
  simp only [E0, Av] at hget hget'
  by_cases k0 : x.k = 0
  ·have hq0 := r0 k0
   rw [if_neg (by omega), if_pos k0] at hLn
   have e1 := gE (f := tK) 0 hq0
   have e1' := Jv (f := tK) 0 hq0
   rw [← hLn] at e1 e1'
   simp only [k0, if_true, if_neg (show ¬ (0 : Int) = 14 by omega), Nat.add_zero] at ih
   simp [tC, Ab, Ad, Ag, Av, tV, tW] at ih
   simp [tC, Ab, Ad, Ag, Av, tV, tW, Ac, Bi, h2, hget, hget', k0, hq0, e1, e1', A5, A8]
   simp [hlen, hEl, hset, w1, w2, h2]
   rw [hK]
   simpa using ih
  by_cases k14 : x.k = 14
  ·have hq1 := r14 k14
   rw [if_neg (by omega), if_neg k0, if_pos k14] at hLn
   have e1 := gE (f := tK) 0 hq1
   have e1' := Jv (f := tK) 0 hq1
   rw [← hLn] at e1 e1'
   simp only [k14, if_true, if_neg (show ¬ (14 : Int) = 0 by omega), Nat.add_zero] at ih
   simp [tC, Ab, Ad, Ag, Av, tV, tW] at ih
   simp [tC, Ab, Ad, Ag, Av, tV, tW, Ac, Bi, h2, hget, hget', k14, hq1, e1, e1', A5, A8]
   simp [hlen, hEl, hset, w1, w3, h2]
   rw [hK]
   simpa using ih
  by_cases k15 : x.k = 15
  ·obtain ⟨m0, m1, b0, b1⟩ := hbits k15
   have hm2 : x.mem.toNat < s.read.l.length := by omega
   have e2 := gE (f := tV) Sl.z hm2
   have e2' := Jv (f := tV) Sl.z hm2
   have hrd : s.rd.getD x.mem.toNat [] = (s.read.l.getD x.mem.toNat Sl.z).l := by simp [Stt.rd, List.getD_eq_getElem?_getD, hm2]
   rw [if_pos k15, hrd] at hLn
   generalize s.read.l.getD x.mem.toNat Sl.z = row at *
   have hb2 : x.bit.toNat < row.l.length := by omega
   have e3 := gE (f := tK) 0 hb2
   have e3' := Jv (f := tK) 0 hb2
   rw [← hLn] at e3 e3'
   simp only [k15, if_neg (show ¬ (15 : Int) = 0 by omega), if_neg (show ¬ (15 : Int) = 14 by omega), Nat.add_zero] at ih
   simp only [tV] at e2 e2'
   simp [tC, Ab, Ad, Ag, Av, tV, tW] at ih
   simp [tC, Ab, Ad, Ag, Av, tV, tW, Ac, Bi, h2, hget, hget', k15, m0, m1, hm2, b0, b1, hb2, e2, e2', e3, e3', A5, A8]
   simp [hlen, hEl, hset, w1, h2]
   rw [hK]
   simpa using ih
  ·rw [if_neg k15, if_neg k0, if_neg k14] at hLn
   have hz := hzero hLn
   simp only [k0, k14, if_false, Nat.add_zero] at ih
   rw [← hz] at ih
   simp [tC, Ab, Ad, Ag, Av, tV, tW] at ih
   simp [tC, Ab, Ad, Ag, Av, tV, tW, Ac, Bi, h2, hget, hget', k0, k14, k15]
   simp [w1]
   rw [hK]
   simpa using ih
theorem qBW (c : Bd) (h : MOk c) (hk : ∀ i, i < c.nodes.l.length → 0 ≤ Ap c i ∧ Ap c i ≤ 15) (hn1 : 1 ≤ c.nodes.l.length) (s : Stt) (H : Ou c s) (inn : Sl Int) (hi : inn.l.length = (E1 c).length) (hv : ∀ v ∈ inn.l, V4 v) :
  Ah Tryz.prog Γ 14 [.agg (tC c), tV s.dff, tW s.read, tV inn] (.sl (Ai (Bz c s inn.l)) none none) := by
 refine B7 qB1 rfl ?_
 have g := fun Q h0 => qMH (Γ := Γ) (Q := Q) c h s H inn hi _ rfl h0 c.nodes.l.length 0 (by omega)
 have es := fun ic inl => qB6 (Γ := Γ) c h.ok h.lev hk h.n hn1 (M4 c inn.l s.dff.l s.rd) Uw (qD4 H hv) (Bz c s inn.l) (qHG h.lev inn.l s.dff.l s.rd) ic inl
 have hll : (M4 c inn.l s.dff.l s.rd).length = c.nodes.l.length := Uw
 have ht : (Ai (M4 c inn.l s.dff.l s.rd)).take c.nodes.l.length = Ai (M4 c inn.l s.dff.l s.rd) := by rw [← hll]; exact Bh
 have hz : Ai ((M4 c inn.l s.dff.l s.rd).take 0 ++ List.replicate (c.nodes.l.length - 0) 0) = List.replicate c.nodes.l.length [tK 0] := by simp [Aj]
 rw [hz, qCM, qCM] at g
 have hN := h.n
 generalize M4 c inn.l s.dff.l s.rd = L at *
 generalize Bz c s inn.l = N at *
 simp [tC, Ab, Ad, Ag, Av, tV, tW] at g es
 simp [q5l, tC, Ab, Ad, Ag, Av, tV, tW, Ac]
 refine ⟨by omega, g _ fun a b => ?_⟩
 simp
 refine A4 (es none none) (by simp [Am, ht, As]) ?_
 simp [q5m, Am]
def q9c (w : List Int) (at' v en : Int) (data : List Int) : List Int := (List.range' 0 w.length).map fun b => M5 (Dc w at' (By v false) (By en false) data b)
theorem qD5 (c : Bd) (hn : c.nodes.l.length ≤ 1000000) (i : Nat) (hi : i < c.mems.l.length) (nets : Sl Int) (hl : nets.l.length = c.nodes.l.length) (m : Mm) (hm : c.mems.l.getD i Mm.d = m)
  (p : Int) (hp : m.addr.l = [p]) (hp0 : 0 ≤ p ∧ p < c.nodes.l.length) (hd : m.data.l.length ≤ 32) (hdi : ∀ n ∈ m.data.l, 0 ≤ n ∧ n < c.nodes.l.length) (hw : 0 ≤ m.write ∧ m.write < c.nodes.l.length)
  (words : Sl (Sl Int)) (w0 w1 : Sl Int) (hws : words.l = [w0, w1]) (h0 : w0.l.length ≤ 1000) (h1 : w1.l.length ≤ 1000) :
  Ah Tryz.prog Γ 17 [.agg (tC c), tI i, tW words, tV nets] (.tup [.sl (Ai ((List.range' 0 w0.l.length).map fun b => M5 (Bq [w0.l, w1.l] (By (nets.l.getD p.toNat 0) false) b))) none none,
   .sl (Aj tV [⟨q9c w0.l 0 (nets.l.getD p.toNat 0) (nets.l.getD m.write.toNat 0) (B8 nets.l m.data.l), none, none⟩, ⟨q9c w1.l 1 (nets.l.getD p.toNat 0) (nets.l.getD m.write.toNat 0) (B8 nets.l m.data.l), none, none⟩]) none none]) := by
 refine B7 qB2 rfl ?_
 have e1 : (B1 Ug c.mems.l)[i]?.getD [] = Ug m := by rw [← hm]; simp [B1, hi]
 have e1' : ∀ h, (B1 Ug c.mems.l)[i]'h = Ug m := fun h => by rw [← hm]; simp [B1, hi]
 have hva := q7l (Γ := Γ) nets (by omega) m.addr (by rw [hp]; simp) (fun k hk => by rw [hp] at hk; simp at hk; subst hk; rw [hl]; exact hp0)
 have hvd := q7l (Γ := Γ) nets (by omega) m.data (by omega) (fun k hk => by rw [hl]; exact hdi k hk)
 have hvp : B8 nets.l m.addr.l = [nets.l.getD p.toNat 0] := by rw [hp]; rfl
 have hvl : (B8 nets.l m.data.l).length ≤ 1000 := by simp [B8]; omega
 have hlk := qCx (Γ := Γ) words (by rw [hws]; rfl) (fun w hw => by rw [hws] at hw; simp at hw; rcases hw with rfl | rfl; exact h0; exact h1) (nets.l.getD p.toNat 0) none none
 have hw0 : words.l.getD 0 Sl.z = w0 := by rw [hws]; rfl
 have hwm : words.l.map (·.l) = [w0.l, w1.l] := by rw [hws]; rfl
 rw [hw0, hwm] at hlk
 have hs0 := fun at' => q5s (Γ := Γ) w0 h0 at' (nets.l.getD p.toNat 0) none none ⟨B8 nets.l m.data.l, none, none⟩ hvl (nets.l.getD m.write.toNat 0)
 have hs1 := fun at' => q5s (Γ := Γ) w1 h1 at' (nets.l.getD p.toNat 0) none none ⟨B8 nets.l m.data.l, none, none⟩ hvl (nets.l.getD m.write.toNat 0)
 have f0 : ∀ at', ((List.range' 0 w0.l.length).map fun b => M5 (Dc w0.l at' (By (nets.l.getD p.toNat 0) false) (By (nets.l.getD m.write.toNat 0) false) (B8 nets.l m.data.l) b)) = q9c w0.l at' (nets.l.getD p.toNat 0) (nets.l.getD m.write.toNat 0) (B8 nets.l m.data.l) := fun _ => rfl
 have f1 : ∀ at', ((List.range' 0 w1.l.length).map fun b => M5 (Dc w1.l at' (By (nets.l.getD p.toNat 0) false) (By (nets.l.getD m.write.toNat 0) false) (B8 nets.l m.data.l) b)) = q9c w1.l at' (nets.l.getD p.toNat 0) (nets.l.getD m.write.toNat 0) (B8 nets.l m.data.l) := fun _ => rfl
 simp only [f0] at hs0
 simp only [f1] at hs1
 rw [hvp] at hva
 have hq : m.write.toNat < nets.l.length := by omega
 have e3 := gE (f := tK) 0 hq
 have e3' := Jv (f := tK) 0 hq
 generalize ((List.range' 0 w0.l.length).map fun b => M5 (Bq [w0.l, w1.l] (By (nets.l.getD p.toNat 0) false) b)) = LK at *
 have hs0 := hs0 0
 have hs1 := hs1 1
 generalize q9c w0.l 0 (nets.l.getD p.toNat 0) (nets.l.getD m.write.toNat 0) (B8 nets.l m.data.l) = S0 at *
 generalize q9c w1.l 1 (nets.l.getD p.toNat 0) (nets.l.getD m.write.toNat 0) (B8 nets.l m.data.l) = S1 at *
 generalize nets.l.getD m.write.toNat 0 = en at *
 generalize nets.l.getD p.toNat 0 = av at *
 generalize B8 nets.l m.data.l = vd at *
 clear f0 f1 hm
 have hWT : Aj tV words.l = [[tV w0], [tV w1]] := by rw [hws]; rfl
 have hq1 : m.write < nets.l.length := by omega
 have hw1 : ∀ t : T, E2 1 [[t]] := fun t e he => by simp at he; subst he; rfl
 have hw2 : ∀ t u : T, E2 1 [[t], [u]] := fun t u e he => by simp at he; rcases he with rfl | rfl <;> rfl
 have w01 : IntKind.i64.wrap 1 = 1 := by decide
 have w02 : IntKind.i64.wrap 2 = 2 := by decide
 obtain ⟨hwa, hwb⟩ := hw
 simp only [Ug, Av] at e1 e1'
 simp [tW, hWT] at hlk
 simp only [tV] at hva hvd hlk hs0 hs1
 simp only [Av] at hva hvd
 simp [q5o, tC, Ab, Ad, Ag, Av, tW, hWT, tV, P0, Ac, hi, e1, e1']
 refine A4 hva rfl ?_
 simp
 refine Sr fun K hK => ?_
 simp [hw2]
 refine A4 hvd (by simp [Am, As]) ?_
 simp [hq, hq1, hwa, e3, e3', A5, A8]
 refine Ae hs0 rfl ?_
 simp [hw1, w01]
 rw [hK]
 refine Sr fun K2 hK2 => ?_
 simp [hw2]
 refine A4 hvd (by simp [Am, As]) ?_
 simp [hq, hq1, hwa, e3, e3', A5, A8]
 refine Ae hs1 rfl ?_
 simp [hw1, w02]
 rw [hK2]
 refine Sr fun K3 hK3 => ?_
 simp
 refine Ae hlk rfl ?_
 simp [q5p, Am, Aj, tV]
theorem qGZ (a b : List UInt8) : ByteArray.mk a.toArray ++ ByteArray.mk b.toArray = ByteArray.mk (a ++ b).toArray := by
 apply ByteArray.ext
 simp [ByteArray.data_append]
def q60 (l : List (Sl Int)) : List UInt8 := l.flatMap fun r => q5a r.l ++ [44]
theorem qHO {l : List Int} : (q5a l).length = l.length := by simp [q5a]
theorem qL9 {Q : AX → St → Prop} (w : Sl (Sl Int)) (hl : w.l.length ≤ 1000) (hr : ∀ r ∈ w.l, r.l.length ≤ 1000 ∧ ∀ v ∈ r.l, 0 ≤ v) (R : List UInt8)
  (h0 : Q (.exit 0) ⟨[(0, .t (tW w)), (3, .t (tS R)), (4, .t (tI w.l.length)), (8, .t (tB false))], []⟩) :
  ∀ (k i : Nat) (s : List UInt8), k + i = w.l.length → s.length ≤ 2000 * i → s ++ q60 (w.l.drop i) = R →
  run Tryz.prog Γ Vq Q ⟨[(0, .t (tW w)), (3, .t (tS s)), (4, .t (tI i))], []⟩
 | 0, i, s, h, hs, hR => by
  refine q0x fun K hK => ?_
  have h2 : i = w.l.length := by omega
  subst h2
  rw [List.drop_length] at hR
  simp only [q60, List.flatMap_nil, List.append_nil] at hR
  subst hR
  simp [tW] at h0
  simp [tW, A5]
  simpa using h0
 | k + 1, i, s, h, hs, hR => by
  refine q0x fun K hK => ?_
  have h2 : i < w.l.length := by omega
  rw [List.drop_eq_getElem_cons h2] at hR
  simp only [q60, List.flatMap_cons] at hR
  have e1 := gE (f := tV) Sl.z h2
  have e1' := Jv (f := tV) Sl.z h2
  rw [show w.l.getD i Sl.z = w.l[i] by simp [List.getD_eq_getElem?_getD, h2]] at e1 e1'
  obtain ⟨hr1, hr2⟩ := hr _ (List.getElem_mem h2)
  generalize w.l[i] = r at *
  have ht := qC7 (Γ := Γ) r (by omega) hr2
  have tl := qHO (l := r.l)
  have ih := qL9 w hl hr R h0 k (i + 1) (s ++ q5a r.l ++ [44]) (by omega) (by simp; omega) (by rw [← hR]; simp [q60])
  generalize q5a r.l = tx at *
  have b1 := qGZ s tx
  have b2 := qGZ (s ++ tx) [44]
  have w1 := Bl (i := i) (by omega)
  simp only [tS, sV] at ht ih
  simp only [tV] at e1 e1' ht
  simp [tW] at ih
  simp [tW, A5, A8, h2, e1, e1', tS, sV]
  refine A4 ht rfl ?_
  simp at b1 b2 ih
  simp [b1, b2, w1, tl]
  refine ⟨by omega, by omega, ?_⟩
  rw [hK]
  simpa using ih
theorem qB7 (w : Sl (Sl Int)) (hl : w.l.length ≤ 1000) (hr : ∀ r ∈ w.l, r.l.length ≤ 1000 ∧ ∀ v ∈ r.l, 0 ≤ v) : A6 Tryz.prog Γ 18 [tW w] (tS (q60 w.l)) := by
 refine Aa qB5 rfl ?_
 have g := fun Q h0 => qL9 (Γ := Γ) (Q := Q) w hl hr (q60 w.l) h0 w.l.length 0 [] (by omega) (by simp) (by simp)
 generalize q60 w.l = R at *
 simp [tW, tS, sV] at g
 simp [q5y, tW, tS, sV]
 refine g _ ?_
 simp [q5z]
theorem qJE {Q : AX → St → Prop} (s : List UInt8) (hl : s.length ≤ 1000) (hs : ∀ b ∈ s, b = 48 ∨ b = 49 ∨ b = 88 ∨ b = 90)
  (h0 : Q (.exit 0) ⟨[(0, .t (tS s)), (4, .ls 9 0 s.length none), (11, .t (tI s.length)), (12, .t (tI s.length)), (13, .t (tB false))], [(9, .sl 64 1 (Ai (s.map Ur)))]⟩) :
  ∀ (k i : Nat), k + i = s.length →
  run Tryz.prog Γ Rq Q ⟨[(0, .t (tS s)), (4, .ls 9 0 s.length none), (11, .t (tI s.length)), (12, .t (tI i))], [(9, .sl 64 1 (Ai ((s.map Ur).take i ++ List.replicate (s.length - i) 0)))]⟩
 | 0, i, h => by
  refine Zk fun K hK => ?_
  have h2 : i = s.length := by omega
  subst h2
  rw [List.take_of_length_le (by simp), Nat.sub_self, List.replicate_zero, List.append_nil]
  simp
  simpa using h0
 | k + 1, i, h => by
  refine Zk fun K hK => ?_
  have h2 : i < s.length := by omega
  have h2R : i < (s.map Ur).length := by simpa using h2
  have ih := qJE s hl hs h0 k (i + 1) (by omega)
  have hb := hs _ (List.getElem_mem h2)
  have hget : (s[i]?.getD 0) = s[i] := by simp [h2]
  have hRi : (s.map Ur)[i] = Ur s[i] := by simp
  have hset : ∀ v : Int, v = Ur s[i] → (Ai ((s.map Ur).take i ++ List.replicate (s.length - i) 0)).set i [tK v] = Ai ((s.map Ur).take (i + 1) ++ List.replicate (s.length - (i + 1)) 0) := by
   rintro v rfl
   rw [show (Ai ((s.map Ur).take i ++ List.replicate (s.length - i) 0)).set i [tK (Ur s[i])] = Ai (((s.map Ur).take i ++ List.replicate (s.length - i) 0).set i (Ur s[i])) from Fj]
   congr 1
   have ht : ((s.map Ur).take i).length = i := by rw [List.length_take]; omega
   rw [List.set_append_right _ _ (by omega), ht, Nat.sub_self, show s.length - i = (s.length - (i + 1)) + 1 by omega, List.replicate_succ, List.set_cons_zero, List.take_add_one, List.getElem?_eq_getElem h2R, hRi]
   simp
  have hel : (Ai ((s.map Ur).take i ++ List.replicate (s.length - i) 0)).length = s.length := by rw [A5]; simp; omega
  generalize Ai ((s.map Ur).take i ++ List.replicate (s.length - i) 0) = E at *
  generalize Ai ((s.map Ur).take (i + 1) ++ List.replicate (s.length - (i + 1)) 0) = E' at *
  generalize hbq : s[i] = b at *
  have hi := q3d (Γ := Γ) (ByteArray.mk #[48, 49, 88, 90]) (b.toNat : Int)
  have hx : Lib.indexByte (ByteArray.mk #[48, 49, 88, 90]).data.toList ((b.toNat : Int)).toNat.toUInt8 = Ur b := by
   rcases hb with rfl | rfl | rfl | rfl <;> rfl
  rw [hx] at hi
  have hp : 0 ≤ Ur b ∧ Ur b ≤ 3 := by rcases hb with rfl | rfl | rfl | rfl <;> decide
  have hset := hset _ rfl
  generalize Ur b = v at *
  have hneg : ¬ v < 0 := by omega
  have wv : IntKind.u8.wrap v = v := by rw [Bm] <;> omega
  have w1 := Bl (i := i) (by omega)
  simp [tS, sV] at ih
  simp [tS, sV, h2, hget, hbq]
  refine A4 hi rfl ?_
  simp [hneg, wv, h2, hel, hset, w1]
  rw [hK]
  simpa using ih
theorem qFg (s : List UInt8) (hl : s.length ≤ 1000) (hs : ∀ b ∈ s, b = 48 ∨ b = 49 ∨ b = 88 ∨ b = 90) : A6 Tryz.prog Γ 139 [tS s] (.tup [.sl (Ai (s.map Ur)) none none, tI 0]) := by
 refine Aa q9S rfl ?_
 have g := fun Q h0 => qJE (Γ := Γ) (Q := Q) s hl hs h0 s.length 0 (by omega)
 have hz : Ai ((s.map Ur).take 0 ++ List.replicate (s.length - 0) 0) = List.replicate s.length [tK 0] := by simp [Aj]
 rw [hz] at g
 have vt : (Ai (s.map Ur)).take s.length = Ai (s.map Ur) := List.take_of_length_le (by rw [A5]; simp)
 simp [tS, sV] at g
 simp [q47, tS, sV]
 refine ⟨by omega, g _ ?_⟩
 simp [q48, Am, vt]
theorem qD6 (s : List UInt8) (hl : s.length ≤ 1000) (hs : ∀ b ∈ s, b = 48 ∨ b = 49 ∨ b = 88 ∨ b = 90) : Ah Tryz.prog Γ 73 [tS s] (.sl (Ai (s.map Ur)) none none) := by
 refine B7 q8e rfl ?_
 have e := qFg (Γ := Γ) s hl hs
 generalize Ai (s.map Ur) = E at *
 simp only [tS, sV] at e
 simp [q35, tS, sV]
 refine A4 e rfl ?_
 simp [q36]
def ex4 : Sl (Sl Int) := ⟨[⟨[0, 0], none, none⟩, ⟨[0, 1], none, none⟩, ⟨[1, 0], none, none⟩, ⟨[1, 1], none, none⟩], some 4, some false⟩
def qMI : T := .sl [[.sl (Ai [0, 0]) none none], [.sl (Ai [0, 1]) none none], [.sl (Ai [1, 0]) none none], [.sl (Ai [1, 1]) none none]] (some 4) (some false)
theorem qB8 (s : List UInt8) (l : List Int) (hs : ∀ b ∈ s, b = 48 ∨ b = 49 ∨ b = 88 ∨ b = 90) (hl : s.length ≤ 1000) (h : s.map Ur = l) : Ah Tryz.prog Γ 73 [.v (.string ⟨s.toArray⟩)] (.sl (Ai l) none none) := by
 have := qD6 (Γ := Γ) s hl hs
 rwa [h] at this
theorem qFh (a R : List Int) (ha : ∀ v ∈ a, 0 ≤ v) (hl : a.length ≤ 1000) (h : Qk [[0, 0], [0, 1], [1, 0], [1, 1]] a = R) : Ah Tryz.prog Γ 54 [qMI, .sl (Ai a) none none] (.sl (Ai R) none none) := by
 have := qCD (Γ := Γ) ex4 (by decide) (by decide) ⟨a, none, none⟩ (by show a.length ≤ _; omega) ha
 rw [if_neg (by simp [ex4])] at this
 have e : Qk (ex4.l.map (·.l)) a = R := h
 simp only [e] at this
 exact this
theorem qD7 (a d : List Int) (en : Int) (R : List (List Int)) (ha : ∀ v ∈ a, 0 ≤ v) (hl : a.length ≤ 1000) (hd : d.length ≤ 1000) (h : En a d en 0 [[0, 0], [0, 1], [1, 0], [1, 1]] = R) : Ah Tryz.prog Γ 55 [qMI, .sl (Ai a) none none, .sl (Ai d) none none, tK en] (tW (H8 R)) := by
 have := qAr (Γ := Γ) ex4 (by decide) (by decide) ⟨a, none, none⟩ ⟨d, none, none⟩ (by show a.length ≤ _; omega) ha (by show d.length ≤ _; omega) en
 have e : En a d en 0 (ex4.l.map (·.l)) = R := h
 simp only [e] at this
 rw [qEU] at this
 exact this
theorem qJF (l : List Int) (s : List UInt8) (hl : l.length ≤ 1000) (hv : ∀ v ∈ l, 0 ≤ v) (h : q5a l = s) : A6 Tryz.prog Γ 64 [.sl (Ai l) none none] (.v (.string ⟨s.toArray⟩)) := by
 have := qC7 (Γ := Γ) ⟨l, none, none⟩ (by show l.length ≤ _; omega) hv
 simp only [h] at this
 exact this
theorem qLA (R : List (List Int)) (s : List UInt8) (hl : R.length ≤ 1000) (hr : ∀ r ∈ R, r.length ≤ 1000 ∧ ∀ v ∈ r, 0 ≤ v) (h : R.flatMap (fun r => q5a r ++ [44]) = s) : A6 Tryz.prog Γ 18 [tW (H8 R)] (.v (.string ⟨s.toArray⟩)) := by
 have := qB7 (Γ := Γ) (H8 R) (by simp [H8]; exact hl) (fun r hr' => by
  obtain ⟨x, hx, rfl⟩ := List.mem_map.1 hr'
  exact hr x hx)
 have e : q60 (H8 R).l = s := by
  rw [← h]
  simp [q60, H8, List.flatMap_map]
 rw [e] at this
 exact this
theorem qD8 : Ah Tryz.prog Γ 21 [] (tB true) := by
 refine B7 q9a rfl ?_
 have v00 := qB8 (Γ := Γ) [48, 48] [0, 0] (by decide) (by decide) (by decide)
 have v01 := qB8 (Γ := Γ) [48, 49] [0, 1] (by decide) (by decide) (by decide)
 have v10 := qB8 (Γ := Γ) [49, 48] [1, 0] (by decide) (by decide) (by decide)
 have v11 := qB8 (Γ := Γ) [49, 49] [1, 1] (by decide) (by decide) (by decide)
 have vX0 := qB8 (Γ := Γ) [88, 48] [2, 0] (by decide) (by decide) (by decide)
 have vXX := qB8 (Γ := Γ) [88, 88] [2, 2] (by decide) (by decide) (by decide)
 have v1X := qB8 (Γ := Γ) [49, 88] [1, 2] (by decide) (by decide) (by decide)
 have l1 := qFh (Γ := Γ) [1, 0] [0, 1] (by decide) (by decide) (by decide)
 have l2 := qFh (Γ := Γ) [2, 0] [0, 2] (by decide) (by decide) (by decide)
 have l3 := qFh (Γ := Γ) [2, 2] [2, 2] (by decide) (by decide) (by decide)
 have t1 := qJF (Γ := Γ) [0, 1] [48, 49] (by decide) (by decide) (by decide)
 have t2 := qJF (Γ := Γ) [0, 2] [48, 88] (by decide) (by decide) (by decide)
 have t3 := qJF (Γ := Γ) [2, 2] [88, 88] (by decide) (by decide) (by decide)
 have s1 := qD7 (Γ := Γ) [1, 2] [1, 1] 1 [[0, 0], [2, 1], [1, 0], [1, 1]] (by decide) (by decide) (by decide) (by decide)
 have s2 := qD7 (Γ := Γ) [1, 0] [1, 1] 1 [[0, 0], [1, 1], [1, 0], [1, 1]] (by decide) (by decide) (by decide) (by decide)
 have s3 := qD7 (Γ := Γ) [1, 0] [1, 1] 2 [[0, 0], [2, 1], [1, 0], [1, 1]] (by decide) (by decide) (by decide) (by decide)
 have x1 := qLA (Γ := Γ) [[0, 0], [2, 1], [1, 0], [1, 1]] [48, 48, 44, 88, 49, 44, 49, 48, 44, 49, 49, 44] (by decide) (by decide) (by decide)
 have x2 := qLA (Γ := Γ) [[0, 0], [1, 1], [1, 0], [1, 1]] [48, 48, 44, 49, 49, 44, 49, 48, 44, 49, 49, 44] (by decide) (by decide) (by decide)
 simp [qMI] at l1 l2 l3 s1 s2 s3
 generalize tW (H8 [[0, 0], [2, 1], [1, 0], [1, 1]]) = A at *
 generalize tW (H8 [[0, 0], [1, 1], [1, 0], [1, 1]]) = B at *
 simp [q4c, sV]
 refine Ae v00 rfl ?_
 simp
 refine Ae v01 rfl ?_
 simp
 refine Ae v10 rfl ?_
 simp
 refine Ae v11 rfl ?_
 simp
 refine Ae v10 rfl ?_
 simp
 refine Ae l1 rfl ?_
 simp
 refine A4 t1 rfl ?_
 simp
 refine Ae vX0 rfl ?_
 simp
 refine Ae l2 rfl ?_
 simp
 refine A4 t2 rfl ?_
 simp
 refine Ae vXX rfl ?_
 simp
 refine Ae l3 rfl ?_
 simp
 refine A4 t3 rfl ?_
 simp
 refine Ae v1X rfl ?_
 simp
 refine Ae v11 rfl ?_
 simp
 refine Ae s1 rfl ?_
 simp
 refine A4 x1 rfl ?_
 simp
 refine Ae v10 rfl ?_
 simp
 refine Ae v11 rfl ?_
 simp
 refine Ae s2 rfl ?_
 simp
 refine A4 x2 rfl ?_
 simp
 refine Ae v10 rfl ?_
 simp
 refine Ae v11 rfl ?_
 simp
 refine Ae s3 rfl ?_
 simp
 refine A4 x1 rfl ?_
 simp [q4d]
end Go.Lg
namespace Go.Lg
open Go
section
variable {P : Program} {Γ : Tables} {Q : AX → St → Prop} {s : St}
/- probecard/netlists.Same (function 20) -/
abbrev q25 : IC := (.seq (.reg [od 2 (.box true (tm 0)), od 3 (.box true (tm 1)), od 4 (.mv kF)] [kp [2, 3] []]) (.seq (.reg [od 5 (.mv (.func 67))] [kp [2, 3, 5] []]) (.seq (.reg [od 6 (.mv (.func 69))] [kp [2, 3, 5, 6] []]) (.seq (.reg [od 7 (fa 0
 2), od 8 (ld 1 7), od 9 (fa 0 3), od 10 (ld 1 9), om 11 5, od 12 (.call 70 [(tm 8), (tm 10), (tm 11)]), om 13 12, oT 14 (fa 1 2) 13, oT 15 (ld 1 14) 13, oT 16 (fa 1 3) 13, oT 17 (ld 1 16) 13, oT 18 (.call 71 [(tm 15), (tm 17)]) 13,
 od 19 (.pick (tm 13) (tm 18) kF), om 20 19, oT 21 (fa 2 2) 20, oT 22 (ld 1 21) 20, oT 23 (fa 2 3) 20, oT 24 (ld 1 23) 20, oT 25 (.mv (tm 6)) 20, oT 26 (.call 72 [(tm 22), (tm 24), (tm 25)]) 20, od 27 (.pick (tm 20) (tm 26) kF), om
 28 27, oT 29 (fa 3 2) 28, oT 30 (ld 1 29) 28, oT 31 (fa 3 3) 28, oT 32 (ld 1 31) 28, oT 33 (.call 68 [(tm 30), (tm 32)]) 28, od 34 (.pick (tm 28) (tm 33) kF), om 4 34] [kp [4] []]) .ret))))
def q26 : List RV := [.tmp 4]
/- probecard/netlists.Same$1 (function 67) -/
abbrev q04 : IC := (.seq (.reg [od 2 (.box true (tm 0)), od 3 (.box true (tm 1)), od 4 (.mv kF)] [kp [2, 3] []]) (.seq (.reg [od 5 (fa 0 2), od 6 (ld 1 5), od 7 (fa 0 3), od 8 (ld 1 7), od 9 (.bin .eql (tm 6) (tm 8)), om 10 9, oT 11 (fa 1 2) 10, oT
 12 (ld 1 11) 10, oT 13 (fa 1 3) 10, oT 14 (ld 1 13) 10, oT 15 (.call 68 [(tm 12), (tm 14)]) 10, od 16 (.pick (tm 10) (tm 15) kF), om 17 16, oT 18 (fa 2 2) 17, oT 19 (ld 1 18) 17, oT 20 (fa 2 3) 17, oT 21 (ld 1 20) 17, oT 22 (.bin
 .eql (tm 19) (tm 21)) 17, od 23 (.pick (tm 17) (tm 22) kF), om 24 23, oT 25 (fa 3 2) 24, oT 26 (ld 1 25) 24, oT 27 (fa 3 3) 24, oT 28 (ld 1 27) 24, oT 29 (.bin .eql (tm 26) (tm 28)) 24, od 30 (.pick (tm 24) (tm 29) kF), om 4 30]
 [kp [4] []]) .ret))
def q05 : List RV := [.tmp 4]
/- probecard/netlists.Same$2 (function 69) -/
abbrev q06 : IC := (.seq (.reg [od 2 (.box true (tm 0)), od 3 (.box true (tm 1)), od 4 (.mv kF)] [kp [2, 3] []]) (.seq (.reg [od 5 (fa 0 2), od 6 (ld 1 5), od 7 (fa 0 3), od 8 (ld 1 7), od 9 (.call 68 [(tm 6), (tm 8)]), om 10 9, oT 11 (fa 1 2) 10, oT
 12 (ld 1 11) 10, oT 13 (fa 1 3) 10, oT 14 (ld 1 13) 10, oT 15 (.call 68 [(tm 12), (tm 14)]) 10, od 16 (.pick (tm 10) (tm 15) kF), om 17 16, oT 18 (fa 2 2) 17, oT 19 (ld 1 18) 17, oT 20 (fa 2 3) 17, oT 21 (ld 1 20) 17, oT 22 (.bin
 .eql (tm 19) (tm 21)) 17, od 23 (.pick (tm 17) (tm 22) kF), om 4 23] [kp [4] []]) .ret))
def q07 : List RV := [.tmp 4]
/- slices.Equal[[]int,int] (function 68) -/
abbrev Y1 : IC := .gh (.seq (.reg [od 14 (.bin .lss (tm 13) (tm 12))] [kp [0, 1, 12, 13, 14] []]) (.seq (.cond (tm 14) .skip (.exit 0)) (.seq (.block 1 (.seq (.reg [om 15 13, om 5 15] [kp [0, 1, 5, 12, 13] []]) (.seq (.reg [om 16 0, om 17 5, od 18
 (ia 1 16 17), od 19 (ld 1 18), om 20 1, om 21 5, od 22 (ia 1 20 21), od 23 (ld 1 22), od 24 (.bin .neq (tm 19) (tm 23))] [kp [0, 1, 12, 13, 24] []]) (.cond (tm 24) (.seq (.reg [od 4 (.mv kF)] [kp [4] []]) .ret) .skip)))) (.reg [od
 25 (.bin .add (tm 13) (ki 1)), om 13 25] [kp [0, 1, 12, 13] []])))) [kp [0, 1, 12, 13] []]
def I5 : IC := .loop Y1
abbrev Y2 : IC := (.seq (.reg [od 4 (.mv kF)] [kp [0, 1] []]) (.seq (.seq (.reg [om 6 0, od 7 (le 0 6), om 8 1, od 9 (le 0 8), od 10 (.bin .neq (tm 7) (tm 9))] [kp [0, 1, 10] []]) (.cond (tm 10) (.seq (.reg [od 4 (.mv kF)] [kp [4] []]) .ret) .skip))
 (.seq (.seq (.reg [om 11 0, od 12 (le 0 11), od 13 (.mv (ki 0))] [kp [0, 1, 12, 13] []]) (.block 0 I5)) (.seq (.reg [od 4 (.mv kT)] [kp [4] []]) .ret))))
theorem Ql (h : ∀ K : St → Prop, K = run P Γ I5 Q → run P Γ Y1 (An K Q) s) : run P Γ I5 Q s := Af h
def Y3 : List RV := [.tmp 4]
/- slices.Equal[[]string,string] (function 71) -/
abbrev Sz : IC := .gh (.seq (.reg [od 14 (.bin .lss (tm 13) (tm 12))] [kp [0, 1, 12, 13, 14] []]) (.seq (.cond (tm 14) .skip (.exit 0)) (.seq (.block 1 (.seq (.reg [om 15 13, om 5 15] [kp [0, 1, 5, 12, 13] []]) (.seq (.reg [om 16 0, om 17 5, od 18
 (ia 1 16 17), od 19 (ld 1 18), om 20 1, om 21 5, od 22 (ia 1 20 21), od 23 (ld 1 22), od 24 (.bin .neq (tm 19) (tm 23))] [kp [0, 1, 12, 13, 24] []]) (.cond (tm 24) (.seq (.reg [od 4 (.mv kF)] [kp [4] []]) .ret) .skip)))) (.reg [od
 25 (.bin .add (tm 13) (ki 1)), om 13 25] [kp [0, 1, 12, 13] []])))) [kp [0, 1, 12, 13] []]
def Fv : IC := .loop Sz
abbrev T0 : IC := (.seq (.reg [od 4 (.mv kF)] [kp [0, 1] []]) (.seq (.seq (.reg [om 6 0, od 7 (le 0 6), om 8 1, od 9 (le 0 8), od 10 (.bin .neq (tm 7) (tm 9))] [kp [0, 1, 10] []]) (.cond (tm 10) (.seq (.reg [od 4 (.mv kF)] [kp [4] []]) .ret) .skip))
 (.seq (.seq (.reg [om 11 0, od 12 (le 0 11), od 13 (.mv (ki 0))] [kp [0, 1, 12, 13] []]) (.block 0 Fv)) (.seq (.reg [od 4 (.mv kT)] [kp [4] []]) .ret))))
theorem N2 (h : ∀ K : St → Prop, K = run P Γ Fv Q → run P Γ Sz (An K Q) s) : run P Γ Fv Q s := Af h
def T8 : List RV := [.tmp 4]
/- slices.EqualFunc[[]probecard/api.Node,[]probecard/api.Node,probecard/api.Node,probecard/api.Node] (function 70) -/
abbrev Js : IC := .gh (.seq (.reg [od 18 (.bin .lss (tm 17) (tm 16))] [kp [1, 2, 15, 16, 17, 18] []]) (.seq (.cond (tm 18) .skip (.exit 0)) (.seq (.block 1 (.seq (.reg [om 19 17, od 20 (ia 4 15 17), od 21 (lG 4 20), od 8 (.alloc false [(.int .u8 0),
 (.slice none 0 0), (.int .i64 0), (.int .i64 0)]), om 7 19, on (.store 4 (tm 8) (tm 21))] [kp [1, 2, 7, 8, 15, 16, 17] [8]]) (.seq (.reg [om 22 1, om 23 7, od 24 (ia 4 22 23), od 25 (lG 4 24), od 9 (.alloc false [(.int .u8 0),
 (.slice none 0 0), (.int .i64 0), (.int .i64 0)]), on (.store 4 (tm 9) (tm 25))] [kp [1, 2, 8, 9, 15, 16, 17] [8, 9]]) (.seq (.reg [om 26 2, od 27 (lG 4 8), od 28 (lG 4 9), od 29 (.callv (tm 26) [(tm 27), (tm 28)]), od 30 (.un .not
 (tm 29))] [kp [1, 2, 15, 16, 17, 30] []]) (.cond (tm 30) (.seq (.reg [od 6 (.mv kF)] [kp [6] []]) .ret) .skip))))) (.reg [od 31 (.bin .add (tm 17) (ki 1)), om 17 31] [kp [1, 2, 15, 16, 17] []])))) [kp [1, 2, 15, 16, 17] []]
def Dx : IC := .loop Js
abbrev Jt : IC := (.seq (.reg [od 6 (.mv kF)] [kp [0, 1, 2] []]) (.seq (.seq (.reg [om 10 0, od 11 (le 0 10), om 12 1, od 13 (le 0 12), od 14 (.bin .neq (tm 11) (tm 13))] [kp [0, 1, 2, 14] []]) (.cond (tm 14) (.seq (.reg [od 6 (.mv kF)] [kp [6] []])
 .ret) .skip)) (.seq (.seq (.reg [om 15 0, od 16 (le 0 15), od 17 (.mv (ki 0))] [kp [1, 2, 15, 16, 17] []]) (.block 0 Dx)) (.seq (.reg [od 6 (.mv kT)] [kp [6] []]) .ret))))
theorem Hm (h : ∀ K : St → Prop, K = run P Γ Dx Q → run P Γ Js (An K Q) s) : run P Γ Dx Q s := Af h
def Ju : List RV := [.tmp 6]
/- slices.EqualFunc[[]probecard/api.Memory,[]probecard/api.Memory,probecard/api.Memory,probecard/api.Memory] (function 72) -/
abbrev Im : IC := .gh (.seq (.reg [od 18 (.bin .lss (tm 17) (tm 16))] [kp [1, 2, 15, 16, 17, 18] []]) (.seq (.cond (tm 18) .skip (.exit 0)) (.seq (.block 1 (.seq (.reg [om 19 17, od 20 (ia 3 15 17), od 21 (lG 3 20), od 8 (.alloc false [(.slice none
 0 0), (.slice none 0 0), (.int .i64 0)]), om 7 19, on (.store 3 (tm 8) (tm 21))] [kp [1, 2, 7, 8, 15, 16, 17] [8]]) (.seq (.reg [om 22 1, om 23 7, od 24 (ia 3 22 23), od 25 (lG 3 24), od 9 (.alloc false [(.slice none 0 0), (.slice
 none 0 0), (.int .i64 0)]), on (.store 3 (tm 9) (tm 25))] [kp [1, 2, 8, 9, 15, 16, 17] [8, 9]]) (.seq (.reg [om 26 2, od 27 (lG 3 8), od 28 (lG 3 9), od 29 (.callv (tm 26) [(tm 27), (tm 28)]), od 30 (.un .not (tm 29))] [kp [1, 2,
 15, 16, 17, 30] []]) (.cond (tm 30) (.seq (.reg [od 6 (.mv kF)] [kp [6] []]) .ret) .skip))))) (.reg [od 31 (.bin .add (tm 17) (ki 1)), om 17 31] [kp [1, 2, 15, 16, 17] []])))) [kp [1, 2, 15, 16, 17] []]
def Dh : IC := .loop Im
abbrev Ip : IC := (.seq (.reg [od 6 (.mv kF)] [kp [0, 1, 2] []]) (.seq (.seq (.reg [om 10 0, od 11 (le 0 10), om 12 1, od 13 (le 0 12), od 14 (.bin .neq (tm 11) (tm 13))] [kp [0, 1, 2, 14] []]) (.cond (tm 14) (.seq (.reg [od 6 (.mv kF)] [kp [6] []])
 .ret) .skip)) (.seq (.seq (.reg [om 15 0, od 16 (le 0 15), od 17 (.mv (ki 0))] [kp [1, 2, 15, 16, 17] []]) (.block 0 Dh)) (.seq (.reg [od 6 (.mv kT)] [kp [6] []]) .ret))))
theorem Gv (h : ∀ K : St → Prop, K = run P Γ Dh Q → run P Γ Im (An K Q) s) : run P Γ Dh Q s := Af h
def Iq : List RV := [.tmp 6]
end
end Go.Lg
namespace Go.Lg
open Go Go.Proofs
theorem q7o : Au Tryz.prog 20 q25 35 2 q26 = true := by kernel_rfl
theorem q5E : Au Tryz.prog 67 q04 31 2 q05 = true := by kernel_rfl
theorem q5F : Au Tryz.prog 69 q06 24 2 q07 = true := by kernel_rfl
theorem q4g : Au Tryz.prog 68 Y2 26 2 Y3 = true := by kernel_rfl
theorem q27 : Au Tryz.prog 71 T0 26 2 T8 = true := by kernel_rfl
theorem Wt : Au Tryz.prog 70 Jt 32 3 Ju = true := by kernel_rfl
theorem Tm : Au Tryz.prog 72 Ip 32 3 Iq = true := by kernel_rfl
end Go.Lg
namespace Go.Lg
open Go Go.Proofs
variable {Γ : Tables}
theorem qJG {Q : AX → St → Prop} (s : Sl Int) (hl : s.l.length ≤ 1000000000) (h0 : Q (.exit 0) ⟨[(0, .t (Av s)), (1, .t (Av s)), (12, .t (tI s.l.length)), (13, .t (tI s.l.length)), (14, .t (tB false))], []⟩) :
  ∀ (k i : Nat), k + i = s.l.length → run Tryz.prog Γ I5 Q ⟨[(0, .t (Av s)), (1, .t (Av s)), (12, .t (tI s.l.length)), (13, .t (tI i))], []⟩
 | 0, i, h => by
  refine Ql fun K hK => ?_
  have h2 : i = s.l.length := by omega
  subst h2
  simp [Av] at h0
  simp [Av]
  simpa using h0
 | k + 1, i, h => by
  refine Ql fun K hK => ?_
  have h2 : i < s.l.length := by omega
  have ih := qJG s hl h0 k (i + 1) (by omega)
  have e1 := gE (f := tI) 0 h2
  have e1' := Jv (f := tI) 0 h2
  generalize s.l.getD i 0 = x at *
  have w1 : IntKind.i64.wrap ((i : Int) + 1) = (i : Int) + 1 := by rw [A9] <;> omega
  simp [Av] at ih
  simp [Av, A5, A8, h2, e1, e1', w1]
  rw [hK]
  simpa using ih
theorem q2g (s : Sl Int) (hl : s.l.length ≤ 1000000000) : A6 Tryz.prog Γ 68 [Av s, Av s] (tB true) := by
 refine Aa q4g rfl ?_
 have g := fun Q h0 => qJG (Γ := Γ) (Q := Q) s hl h0 s.l.length 0 (by omega)
 simp [Av] at g
 simp [Y2, Av, A5]
 refine g _ ?_
 simp [Y3]
theorem qJH {Q : AX → St → Prop} (l : List (List UInt8)) (lc : Option Nat) (ln : Option Bool) (hl : l.length ≤ 1000000000) (h0 : Q (.exit 0) ⟨[(0, .t (.sl (Aj tS l) lc ln)), (1, .t (.sl (Aj tS l) lc ln)), (12, .t (tI l.length)), (13, .t (tI l.length)), (14, .t (tB false))], []⟩) :
  ∀ (k i : Nat), k + i = l.length → run Tryz.prog Γ Fv Q ⟨[(0, .t (.sl (Aj tS l) lc ln)), (1, .t (.sl (Aj tS l) lc ln)), (12, .t (tI l.length)), (13, .t (tI i))], []⟩
 | 0, i, h => by
  refine N2 fun K hK => ?_
  have h2 : i = l.length := by omega
  subst h2
  try simp at h0
  simp
  simpa using h0
 | k + 1, i, h => by
  refine N2 fun K hK => ?_
  have h2 : i < l.length := by omega
  have ih := qJH l lc ln hl h0 k (i + 1) (by omega)
  have e1 := gE (f := tS) [] h2
  have e1' := Jv (f := tS) [] h2
  generalize l.getD i [] = x at *
  have w1 : IntKind.i64.wrap ((i : Int) + 1) = (i : Int) + 1 := by rw [A9] <;> omega
  simp only [tS, sV] at e1 e1'
  try simp at ih
  simp [A5, A8, h2, e1, e1', w1]
  rw [hK]
  simpa using ih
theorem qFi (l : List (List UInt8)) (lc : Option Nat) (ln : Option Bool) (hl : l.length ≤ 1000000000) : A6 Tryz.prog Γ 71 [.sl (Aj tS l) lc ln, .sl (Aj tS l) lc ln] (tB true) := by
 refine Aa q27 rfl ?_
 have g := fun Q h0 => qJH (Γ := Γ) (Q := Q) l lc ln hl h0 l.length 0 (by omega)
 try simp at g
 simp [T0, A5]
 refine g _ ?_
 simp [T8]
theorem qEX (x : Nd) (hx : x.inn.l.length ≤ 1000000) : A6 Tryz.prog Γ 67 [.agg (E0 x), .agg (E0 x)] (tB true) := by
 refine Aa q5E rfl ?_
 have e := q2g (Γ := Γ) x.inn (by omega)
 simp [Av] at e
 simp [q04, E0, Av]
 refine A4 e rfl ?_
 simp [q05]
theorem qJI {Q : AX → St → Prop} (l : List Nd) (lc : Option Nat) (ln : Option Bool) (hl : l.length ≤ 1000000) (hx : ∀ x ∈ l, x.inn.l.length ≤ 1000000) (h0 : Q (.exit 0) ⟨[(1, .t (.sl (B1 E0 l) lc ln)), (2, .t (.fn 67 [])), (15, .t (.sl (B1 E0 l) lc ln)), (16, .t (tI l.length)), (17, .t (tI l.length)), (18, .t (tB false))], []⟩) :
  ∀ (k i : Nat), k + i = l.length → run Tryz.prog Γ Dx Q ⟨[(1, .t (.sl (B1 E0 l) lc ln)), (2, .t (.fn 67 [])), (15, .t (.sl (B1 E0 l) lc ln)), (16, .t (tI l.length)), (17, .t (tI i))], []⟩
 | 0, i, h => by
  refine Hm fun K hK => ?_
  have h2 : i = l.length := by omega
  subst h2
  try simp at h0
  simp
  simpa using h0
 | k + 1, i, h => by
  refine Hm fun K hK => ?_
  have h2 : i < l.length := by omega
  have ih := qJI l lc ln hl hx h0 k (i + 1) (by omega)
  have hs := qEX (Γ := Γ) l[i] (hx _ (List.getElem_mem h2))
  have e1 : (B1 E0 l)[i]?.getD [] = E0 l[i] := by simp [B1, h2]
  have e1' : ∀ h, (B1 E0 l)[i]'h = E0 l[i] := fun h => by simp [B1]
  generalize l[i] = x at *
  have w1 : IntKind.i64.wrap ((i : Int) + 1) = (i : Int) + 1 := by rw [A9] <;> omega
  simp only [E0] at e1 e1' hs
  simp only [Av] at e1 e1' hs
  try simp at ih
  simp [Ac, Bi, h2, e1, e1']
  refine A4 hs rfl ?_
  simp [w1]
  rw [hK]
  simpa using ih
theorem qFj (l : List Nd) (lc : Option Nat) (ln : Option Bool) (hl : l.length ≤ 1000000) (hx : ∀ x ∈ l, x.inn.l.length ≤ 1000000) : A6 Tryz.prog Γ 70 [.sl (B1 E0 l) lc ln, .sl (B1 E0 l) lc ln, .fn 67 []] (tB true) := by
 refine Aa Wt rfl ?_
 have g := fun Q h0 => qJI (Γ := Γ) (Q := Q) l lc ln hl hx h0 l.length 0 (by omega)
 try simp at g
 simp [Jt, Ac]
 refine g _ ?_
 simp [Ju]
theorem qEY (m : Mm) (h1 : m.addr.l.length ≤ 1000000) (h2 : m.data.l.length ≤ 1000000) : A6 Tryz.prog Γ 69 [.agg (Ug m), .agg (Ug m)] (tB true) := by
 refine Aa q5F rfl ?_
 have e1 := q2g (Γ := Γ) m.addr (by omega)
 have e2 := q2g (Γ := Γ) m.data (by omega)
 simp [Av] at e1 e2
 simp [q06, Ug, Av]
 refine A4 e1 rfl ?_
 simp
 refine A4 e2 rfl ?_
 simp [q07]
theorem qJJ {Q : AX → St → Prop} (l : List Mm) (lc : Option Nat) (ln : Option Bool) (hl : l.length ≤ 1000000) (hx : ∀ x ∈ l, x.addr.l.length ≤ 1000000 ∧ x.data.l.length ≤ 1000000) (h0 : Q (.exit 0) ⟨[(1, .t (.sl (B1 Ug l) lc ln)), (2, .t (.fn 69 [])), (15, .t (.sl (B1 Ug l) lc ln)), (16, .t (tI l.length)), (17, .t (tI l.length)), (18, .t (tB false))], []⟩) :
  ∀ (k i : Nat), k + i = l.length → run Tryz.prog Γ Dh Q ⟨[(1, .t (.sl (B1 Ug l) lc ln)), (2, .t (.fn 69 [])), (15, .t (.sl (B1 Ug l) lc ln)), (16, .t (tI l.length)), (17, .t (tI i))], []⟩
 | 0, i, h => by
  refine Gv fun K hK => ?_
  have h2 : i = l.length := by omega
  subst h2
  try simp at h0
  simp
  simpa using h0
 | k + 1, i, h => by
  refine Gv fun K hK => ?_
  have h2 : i < l.length := by omega
  have ih := qJJ l lc ln hl hx h0 k (i + 1) (by omega)
  have hs := qEY (Γ := Γ) l[i] (hx _ (List.getElem_mem h2)).1 (hx _ (List.getElem_mem h2)).2
  have e1 : (B1 Ug l)[i]?.getD [] = Ug l[i] := by simp [B1, h2]
  have e1' : ∀ h, (B1 Ug l)[i]'h = Ug l[i] := fun h => by simp [B1]
  generalize l[i] = x at *
  have w1 := Bl (i := i) (by omega)
  simp only [Ug] at e1 e1' hs
  simp only [Av] at e1 e1' hs
  try simp at ih
  simp [Ac, P0, h2, e1, e1']
  refine A4 hs rfl ?_
  simp [w1]
  rw [hK]
  simpa using ih
theorem qHP (l : List Mm) (lc : Option Nat) (ln : Option Bool) (hl : l.length ≤ 1000000) (hx : ∀ x ∈ l, x.addr.l.length ≤ 1000000 ∧ x.data.l.length ≤ 1000000) : A6 Tryz.prog Γ 72 [.sl (B1 Ug l) lc ln, .sl (B1 Ug l) lc ln, .fn 69 []] (tB true) := by
 refine Aa Tm rfl ?_
 have g := fun Q h0 => qJJ (Γ := Γ) (Q := Q) l lc ln hl hx h0 l.length 0 (by omega)
 try simp at g
 simp [Ip, Ac]
 refine g _ ?_
 simp [Iq]
theorem qFk {c : Bd} (h1 : c.nodes.l.length ≤ 1000000) (h2 : ∀ x ∈ c.nodes.l, x.inn.l.length ≤ 1000000) (h3 : c.names.l.length ≤ 1000000000) (h4 : c.outs.l.length ≤ 1000000000) (h5 : c.mems.l.length ≤ 1000000) (h6 : ∀ x ∈ c.mems.l, x.addr.l.length ≤ 1000000 ∧ x.data.l.length ≤ 1000000) : A6 Tryz.prog Γ 20 [.agg (tC c), .agg (tC c)] (tB true) := by
 refine Aa q7o rfl ?_
 have e1 := qFj (Γ := Γ) c.nodes.l c.nodes.cap c.nodes.nl h1 h2
 have e2 := qFi (Γ := Γ) c.names.l c.names.cap c.names.nl h3
 have e3 := qHP (Γ := Γ) c.mems.l c.mems.cap c.mems.nl h5 h6
 have e4 := q2g (Γ := Γ) c.outs h4
 simp [Av] at e4
 simp [q25, tC, Ab, Ad, Ag, Av]
 refine A4 e1 rfl ?_
 simp
 refine A4 e2 rfl ?_
 simp
 refine A4 e3 rfl ?_
 simp
 refine A4 e4 rfl ?_
 simp [q26]
def qBX (v : Sl Int) (q : PD) : List T := tV v :: tPD q
theorem qHQ (v : Sl Int) (q : PD) (hq : qE7 q) (c : Bd) (h : MOk c) : Ah Tryz.prog Γ 12 [.agg (qBX v q), .agg (tC c)] (.tup [.agg (E6 (qBV v.l c)), tV (qAm q c).inn]) := by
 refine B7 q6h rfl ?_
 have e1 := qHN (Γ := Γ) v c h.ok h.n h.cm (fun m hm => ⟨(h.mf m hm).1.2, (h.mf m hm).2.1.2⟩)
 have e2 := qHF (Γ := Γ) q hq c h.ok
 generalize qBV v.l c = s at *
 generalize qAm q c = p at *
 simp [tC, Ab, Ad, Ag, Av, tPD, tP, tV, E6, tW, tWs] at e1 e2
 simp [q0y, qBX, tC, Ab, Ad, Ag, Av, tPD, tV, E6, tW, tWs]
 refine Ae e1 rfl ?_
 simp
 refine A4 e2 rfl ?_
 simp [q0z, Am, As]
theorem qLB {α : Type} {l : List α} (h : l.length = 1) : ∃ a, l = [a] := by
 match l, h with
 | [a], _ => exact ⟨a, rfl⟩
theorem qGa {α : Type} {l : List α} (h : l.length = 2) : ∃ a b, l = [a, b] := by
 match l, h with
 | [a, b], _ => exact ⟨a, b, rfl⟩
theorem st2 {c : Bd} {s : Stt} (H : Ou c s) {m : Mm} (hm : c.mems.l = [m]) (ha : m.addr.l.length = 1) (hd : m.data.l.length = 2) :
  ∃ W r0 r1 a b cc d rd e f, s.words.l = [W] ∧ W.l = [r0, r1] ∧ r0.l = [a, b] ∧ r1.l = [cc, d] ∧ s.read.l = [rd] ∧ rd.l = [e, f] ∧ V3 a ∧ V3 b ∧ V3 cc ∧ V3 d ∧ V3 e ∧ V3 f := by
 have hl : c.mems.l.length = 1 := by rw [hm]; rfl
 obtain ⟨W, hW⟩ := qLB (H.w.trans hl)
 obtain ⟨rd, hr⟩ := qLB (H.r.trans hl)
 have wl := H.wl 0 (by omega)
 have wr := H.wr 0 (by omega)
 have rl := H.rl 0 (by omega)
 have em : c.mems.l.getD 0 Mm.d = m := by rw [hm]; rfl
 have eW : s.words.l.getD 0 Sl.zz = W := by rw [hW]; rfl
 have er : s.read.l.getD 0 Sl.z = rd := by rw [hr]; rfl
 rw [eW, em, ha] at wl
 rw [eW, em, hd] at wr
 rw [er, em, hd] at rl
 obtain ⟨r0, r1, hW2⟩ := qGa (show W.l.length = 2 from wl)
 obtain ⟨e, f, hrd⟩ := qGa rl
 obtain ⟨a, b, h0⟩ := qGa (wr r0 (by rw [hW2]; simp))
 obtain ⟨cc, d, h1⟩ := qGa (wr r1 (by rw [hW2]; simp))
 have v0 := H.vw W (by rw [hW]; simp) r0 (by rw [hW2]; simp)
 have v1 := H.vw W (by rw [hW]; simp) r1 (by rw [hW2]; simp)
 have v2 := H.vr rd (by rw [hr]; simp)
 exact ⟨W, r0, r1, a, b, cc, d, rd, e, f, hW, hW2, h0, h1, hr, hrd, v0 a (by rw [h0]; simp), v0 b (by rw [h0]; simp), v1 cc (by rw [h1]; simp), v1 d (by rw [h1]; simp), v2 e (by rw [hrd]; simp), v2 f (by rw [hrd]; simp)⟩
structure M2 (c : Bd) : Prop where
 m : c.mems.l = [] ∨ ∃ m p p1 p2, c.mems.l = [m] ∧ m.addr.l = [p] ∧ m.data.l = [p1, p2]
 k : ∀ i, i < c.nodes.l.length → 0 ≤ Ap c i ∧ Ap c i ≤ 15
 n1 : 1 ≤ c.nodes.l.length
 n2 : c.nodes.l.length ≤ 16
theorem qLC {x : CD} (hx : q8J x) : M2 (ofC x) := by
 have hl := q6O hx
 have h5 := q6P hx
 have hN : (ofC x).nodes.l = Hr x := rfl
 have hv := qC9 hx
 refine ⟨?_, fun i hi => ?_, by rw [hN]; omega, by rw [hN]; omega⟩
 ·by_cases hm : x.mem = true
  ·exact .inr ⟨⟨⟨[x.p0.tmod (Cc x).length], some 1, some false⟩, ⟨[x.p1.tmod (Cc x).length, x.p2.tmod (Cc x).length], some 2, some false⟩, x.p3.tmod (Cc x).length⟩, _, _, _, by simp [ofC, qBI, hm], rfl, rfl⟩
  ·left
   simp [ofC, qBI, hm]
 ·have hs := (Qe hv).1
  have hn := (Is hs).2.2.1 _ (List.getElem_mem hi)
  have hk : Ap (ofC x) i = (ofC x).nodes.l[i].k := by simp [Ap, hi]
  have hkk := (qI9 hx).kind _ (List.getElem_mem hi)
  have hle : ¬ 15 < (ofC x).nodes.l[i].k := fun h => by
   unfold Dv at hn
   rw [if_pos h] at hn; cases hn
  rw [hk]
  omega
theorem qMJ {x : CD} (hx : q8J x) : MOk (ofC x) := ⟨qI9 hx, qC9 hx, by have := (qLC hx).n2; omega⟩
end Go.Lg
namespace Go.Lg
open Go Go.Proofs Go.Proofs.YthgiocdefejbiaaGreatDoor
theorem qGb : Tryz.prog.cellsOf 29 = 1 := by kernel_rfl
theorem qKI : Tryz.prog.cellsOf 33 = 3 := by kernel_rfl
theorem qOd : Rd Tryz.prog 29 fun ts => ∃ s : Sl Int, ts = [tV s] ∧ ∀ b ∈ s.l, Byt b := by
 refine (q1S (l := [(1, fun ts => ∃ s : Sl Int, ts = [tV s] ∧ ∀ b ∈ s.l, Byt b)]) Tryz.underlying29 qGb
  (.cons rfl q9l qCl (.nil _))).mono fun ts h => ?_
 obtain ⟨_, _, rfl, ⟨a, rfl, ha⟩, rfl⟩ := h
 exact ⟨a, rfl, ha⟩
theorem qNr : Rd Tryz.prog 33 fun ts => ∃ v q, ts = qBX v q ∧ (∀ b ∈ v.l, Byt b) ∧ qE7 q := by
 refine (q1S (l := [(1, fun ts => ∃ s : Sl Int, ts = [tV s] ∧ ∀ b ∈ s.l, Byt b), (2, fun ts => ∃ q, ts = tPD q ∧ qE7 q)]) Tryz.underlying33 qKI
  (.cons rfl qGb qOd (.cons rfl qGH qOa (.nil _)))).mono fun ts h => ?_
 obtain ⟨_, _, rfl, ⟨a, rfl, ha⟩, _, _, rfl, ⟨q, rfl, hq⟩, rfl⟩ := h
 exact ⟨a, q, by simp [qBX], ha, hq⟩
end Go.Lg
namespace Go.Proofs.YthgiocdefejbiaaGreatDoor
open Go Go.Lg Go.ChangeShapes Go.WideShapes Go.ChangeAt Go.RowKit
theorem qNs {H : Type} {enc : TypeId × Value → H} {W : World} {base : Nat} {v : Value} {d : DataW H} {p : List MemPlace} (hval : Value.okWide Tryz.prog W .any base 33 v) (h : DataW.Trod enc Tryz.prog W 0 (fun _ => true) true 33 v d p) : ∃ s q, (∀ b ∈ s.l, Byt b) ∧ qE7 q ∧ TR W (Old W) (.agg (qBX s q)) v := by
 simp only [Value.okWide, Tryz.underlying33] at hval
 obtain ⟨cs, rfl, _, _⟩ := hval
 obtain ⟨fuel, hf⟩ := h
 obtain ⟨ts, ⟨s, q, rfl, h1, h2⟩, htr, ho⟩ := qNr H enc W true fuel _ _ hf
 exact ⟨s, q, h1, h2, qI0 htr ho⟩
end Go.Proofs.YthgiocdefejbiaaGreatDoor
namespace Go.Lg
open Go
section
variable {P : Program} {Γ : Tables} {Q : AX → St → Prop} {s : St}
/- probecard/probecardlaw09.MemoriesMonotone (function 4) -/
abbrev T9 : IC := .gh (.seq (.seq (.reg [om 90 14, od 91 (fa 2 5), od 92 (ld 1 91), od 93 (le 0 92), od 94 (.bin .lss (tm 90) (tm 93))] [kp [2, 3, 5, 6, 8, 12, 14, 94] [5, 6, 8]]) (.cond (tm 94) .skip (.exit 0))) (.seq (.block 1 (.seq (.reg [od 98
 (lG 4 5), om 99 14, od 100 (fa 1 6), od 101 (ld 1 100), om 102 14, od 103 (ia 1 101 102), od 104 (ld 1 103), om 105 12, od 106 (.call 17 [(tm 98), (tm 99), (tm 104), (tm 105)]), om 97 106, od 107 (ex 97 0), od 108 (ex 97 1), om 15
 107, om 16 108] [kp [2, 3, 5, 6, 8, 12, 14, 15, 16] [5, 6, 8]]) (.seq (.reg [od 109 (fa 2 8), od 110 (ld 1 109), om 111 14, od 112 (ia 1 110 111), od 113 (ld 1 112), om 114 15, od 115 (.call 16 [(tm 113), (tm 114)]), od 116 (.bin
 .neq (tm 115) (ki 0)), om 117 116, oF 118 (fa 1 8) 117, oF 119 (ld 1 118) 117, oF 120 (.mv (tm 14)) 117, oF 121 (ia 1 119 120) 117, oF 122 (ld 1 121) 117, oF 123 (le 0 122) 117, oF 124 (.mv (tm 16)) 117, oF 125 (le 0 124) 117, oF
 126 (.bin .neq (tm 123) (tm 125)) 117, od 127 (.pick (tm 117) kT (tm 126)), om 128 127, oF 129 (fa 1 8) 128, oF 130 (ld 1 129) 128, oF 131 (.mv (tm 14)) 128, oF 132 (ia 1 130 131) 128, oF 133 (ld 1 132) 128, oF 134 (.call 18 [(tm
 133)]) 128, oF 135 (.mv (tm 16)) 128, oF 136 (.call 18 [(tm 135)]) 128, oF 137 (.bin .neq (tm 134) (tm 136)) 128, od 138 (.pick (tm 128) kT (tm 137))] [kp [2, 3, 5, 6, 8, 12, 14, 138] [5, 6, 8]]) (.cond (tm 138) (.seq (.reg [od 4
 (.mv kF)] [kp [4] []]) .ret) .skip)))) (.reg [om 95 14, od 96 (.bin .add (tm 95) (ki 1)), om 14 96] [kp [2, 3, 5, 6, 8, 12, 14] [5, 6, 8]]))) [kp [2, 3, 5, 6, 8, 12, 14] [5, 6, 8]]
def Fz : IC := .loop T9
abbrev Ta : IC := (.seq (.reg [od 2 (.box true (tm 0)), od 3 (.box true (tm 1)), od 4 (.mv kF)] [kp [2, 3] []]) (.seq (.reg [od 19 (lG 12 2), od 20 (.call 11 [(tm 19)]), od 5 (.alloc false [(.slice none 0 0), (.slice none 0 0), (.slice none 0 0),
 (.slice none 0 0)]), on (.store 4 (tm 5) (tm 20))] [kp [2, 3, 5] [5]]) (.seq (.reg [od 22 (lG 3 3), od 23 (lG 4 5), od 24 (.call 12 [(tm 22), (tm 23)]), om 21 24, od 25 (ex 21 0), od 26 (ex 21 1), od 6 (.alloc false [(.slice none 0
 0), (.slice none 0 0), (.slice none 0 0)]), on (.store 3 (tm 6) (tm 25)), om 7 26] [kp [2, 3, 5, 6, 7] [5, 6]]) (.seq (.reg [od 28 (lG 4 5), od 29 (lG 3 6), om 30 7, od 31 (.call 13 [(tm 28), (tm 29), (tm 30)]), om 27 31, od 32 (ex
 27 0), od 33 (ex 27 1), od 34 (ex 27 2), od 35 (ex 27 3), od 8 (.alloc false [(.slice none 0 0), (.slice none 0 0), (.slice none 0 0)]), od 9 (.alloc false [(.slice none 0 0), (.slice none 0 0)]), on (.store 3 (tm 8) (tm 32)), on
 (.store 2 (tm 9) (tm 33)), om 10 34, om 11 35] [kp [2, 3, 5, 6, 7, 8, 9, 10, 11] [5, 6, 8, 9]]) (.seq (.reg [od 36 (lG 4 5), od 37 (fa 0 6), od 38 (ld 1 37), od 39 (fa 2 6), od 40 (ld 1 39), om 41 7, od 42 (.call 14 [(tm 36), (tm
 38), (tm 40), (tm 41)]), om 12 42] [kp [2, 3, 5, 6, 8, 9, 10, 11, 12] [5, 6, 8, 9]]) (.seq (.reg [od 43 (lG 4 5), om 44 12, od 45 (.call 15 [(tm 43), (tm 44)]), od 13 (.alloc false [(.slice none 0 0), (.slice none 0 0)]), on
 (.store 2 (tm 13) (tm 45))] [kp [2, 3, 5, 6, 8, 9, 10, 11, 12, 13] [5, 6, 8, 9, 13]]) (.seq (.seq (.reg [om 46 11, od 47 (.bin .neq (tm 46) (ki 0)), om 48 47, oF 49 (.mv (tm 10)) 48, oF 50 (.mv (tm 12)) 48, oF 51 (.call 16 [(tm
 49), (tm 50)]) 48, oF 52 (fa 0 9) 48, oF 53 (ld 1 52) 48, oF 54 (fa 0 13) 48, oF 55 (ld 1 54) 48, oF 56 (.call 16 [(tm 53), (tm 55)]) 48, oF 57 (.bin .add (tm 51) (tm 56)) 48, oF 58 (fa 1 9) 48, oF 59 (ld 1 58) 48, oF 60 (fa 1 13)
 48, oF 61 (ld 1 60) 48, oF 62 (.call 16 [(tm 59), (tm 61)]) 48, oF 63 (.bin .add (tm 57) (tm 62)) 48, oF 64 (fa 0 8) 48, oF 65 (ld 1 64) 48, oF 66 (fa 1 13) 48, oF 67 (ld 1 66) 48, oF 68 (.call 16 [(tm 65), (tm 67)]) 48, oF 69
 (.bin .add (tm 63) (tm 68)) 48, oF 70 (.bin .neq (tm 69) (ki 0)) 48, od 71 (.pick (tm 48) kT (tm 70)), om 72 71, oF 73 (fa 1 8) 72, oF 74 (ld 1 73) 72, oF 75 (le 0 74) 72, oF 76 (fa 2 5) 72, oF 77 (ld 1 76) 72, oF 78 (le 0 77) 72,
 oF 79 (.bin .neq (tm 75) (tm 78)) 72, od 80 (.pick (tm 72) kT (tm 79)), om 81 80, oF 82 (fa 2 8) 81, oF 83 (ld 1 82) 81, oF 84 (le 0 83) 81, oF 85 (fa 2 5) 81, oF 86 (ld 1 85) 81, oF 87 (le 0 86) 81, oF 88 (.bin .neq (tm 84) (tm
 87)) 81, od 89 (.pick (tm 81) kT (tm 88))] [kp [2, 3, 5, 6, 8, 12, 89] [5, 6, 8]]) (.cond (tm 89) (.seq (.reg [od 4 (.mv kF)] [kp [4] []]) .ret) .skip)) (.seq (.seq (.reg [od 14 (.mv (ki 0))] [kp [2, 3, 5, 6, 8, 12, 14] [5, 6, 8]])
 (.block 0 Fz)) (.seq (.reg [od 140 (lG 3 3), od 141 (lG 4 5), od 142 (.call 12 [(tm 140), (tm 141)]), om 139 142, od 143 (ex 139 0), od 144 (ex 139 1), od 17 (.alloc false [(.slice none 0 0), (.slice none 0 0),
 (.slice none 0 0)]), on (.store 3 (tm 17) (tm 143)), om 18 144] [kp [2, 5, 6, 17] [5, 6, 17]]) (.seq (.reg [od 145 (lG 3 6), od 146 (lG 3 17), od 147 (.call 19 [(tm 145), (tm 146)]), om 148 147, oT 149 (lG 4 5) 148, oT 150 (lG 12
 2) 148, oT 151 (.call 11 [(tm 150)]) 148, oT 152 (.call 20 [(tm 149), (tm 151)]) 148, od 153 (.pick (tm 148) (tm 152) kF), om 154 153, oT 155 (.call 21 []) 154, od 156 (.pick (tm 154) (tm 155) kF), om 4 156] [kp [4] []])
 .ret))))))))))
theorem N3 (h : ∀ K : St → Prop, K = run P Γ Fz Q → run P Γ T9 (An K Q) s) : run P Γ Fz Q s := Af h
def Tc : List RV := [.tmp 4]
end
end Go.Lg
namespace Go.Lg
open Go Go.Proofs
theorem q28 : Au Tryz.prog 3 Ta 157 2 Tc = true := by kernel_rfl
end Go.Lg
namespace Go.Lg
open Go Go.Proofs
variable {Γ : Tables}
theorem qJK {a b cc d v : Int} (hv : 0 ≤ v) (ha : V3 a) (hb : V3 b) (hc : V3 cc) (hd : V3 d) :
  (List.range' 0 2).map (fun q => M5 (Bq [[a, b], [cc, d]] (By v false) q)) = Qk [[a, b], [cc, d]] [v] := by
 obtain ⟨e0, e1⟩ := qIb hv ha.four hb.four hc.four hd.four
 rw [qKg hv]
 show [M5 (Bq [[a, b], [cc, d]] (By v false) 0), M5 (Bq [[a, b], [cc, d]] (By v false) 1)] = _
 rw [e0, e1]
theorem qHR {a b cc d v x y en : Int} (hv : 0 ≤ v) (ha : V3 a) (hb : V3 b) (hc : V3 cc) (hd : V3 d) (hx : V4 x) (hy : V4 y) :
  [q9c [a, b] 0 v en [x, y], q9c [cc, d] 1 v en [x, y]] = En [v] [x, y] en 0 [[a, b], [cc, d]] := by
 obtain ⟨e0, e1⟩ := qGO (i := 0) (en := en) (.inl rfl) hv ha.four hb.four hx hy
 obtain ⟨f0, f1⟩ := qGO (i := 1) (en := en) (.inr rfl) hv hc.four hd.four hx hy
 rw [qM8 hv]
 show [[M5 (Dc [a, b] 0 (By v false) (By en false) [x, y] 0), M5 (Dc [a, b] 0 (By v false) (By en false) [x, y] 1)], [M5 (Dc [cc, d] 1 (By v false) (By en false) [x, y] 0), M5 (Dc [cc, d] 1 (By v false) (By en false) [x, y] 1)]] = _
 rw [e0, e1, f0, f1]
def mcE (x : CD) (v : Sl Int) (q : PD) (N : List Int) (i : Int) : List (Nat × AV) := [(2, .t (.ip (Oa x) 0)), (3, .t (.ip (qBX v q) 0)), (5, .lp 5 0 0), (6, .lp 6 0 0), (8, .lp 8 0 0), (12, .t (.sl (Ai N) none none)), (14, .t (tI i))]
def mcH (c : Bd) (s n : Stt) : List (Nat × Bn) := [(5, .bx ((tC c).map .t)), (6, .bx ((E6 s).map .t)), (8, .bx ((E6 n).map .t))]
theorem qNt {Q : AX → St → Prop} (x : CD) (v : Sl Int) (q : PD) (c : Bd) (h : MOk c) (M : M2 c) (s : Stt) (H : Ou c s) (N : List Int) (hN : N.length = c.nodes.l.length) (hv : ∀ u ∈ N, V4 u)
  (h0 : Q (.exit 0) ⟨mcE x v q N c.mems.l.length ++ [(94, .t (tB false))], mcH c s (q0p c s N)⟩) :
  run Tryz.prog Γ Fz Q ⟨mcE x v q N 0, mcH c s (q0p c s N)⟩ := by
 refine N3 fun K hK => ?_
 rcases M.m with hm | ⟨m, p, p1, p2, hm, ha, hd⟩
 ·have hE : B1 Ug c.mems.l = [] := by rw [hm]; rfl
  have hl : c.mems.l.length = 0 := by rw [hm]; rfl
  simp [mcE, mcH, tC, Ab, Ad, Ag, Av, E6, hE, hl] at h0
  simp [mcE, mcH, tC, Ab, Ad, Ag, Av, E6, hE]
  simpa using h0
 ·obtain ⟨W, r0, r1, a, b, cc, d, rd, e, f, hW, hW2, hr0, hr1, hr, hrd, va, vb, vc, vd, ve, vf⟩ := st2 H hm (by rw [ha]; rfl) (by rw [hd]; rfl)
  have hl : c.mems.l.length = 1 := by rw [hm]; rfl
  have hE : B1 Ug c.mems.l = [Ug m] := by rw [hm]; rfl
  have em : c.mems.l.getD 0 Mm.d = m := by rw [hm]; rfl
  have hmf := h.mf m (by rw [hm]; simp)
  have hn := M.n2
  have hpp : 0 ≤ p ∧ p < c.nodes.l.length := hmf.2.2.1 p (by rw [ha]; simp)
  have e1 := qD5 (Γ := Γ) c (by omega) 0 (by omega) ⟨N, none, none⟩ hN m em p ha hpp hmf.2.1.2 hmf.2.2.2.1 hmf.2.2.2.2 W r0 r1 hW2 (by rw [hr0]; simp) (by rw [hr1]; simp)
  have hvp : V4 (N.getD p.toNat 0) := Ul hv _
  have hvx : V4 (N.getD p1.toNat 0) := Ul hv _
  have hvy : V4 (N.getD p2.toNat 0) := Ul hv _
  have hdv : B8 N m.data.l = [N.getD p1.toNat 0, N.getD p2.toNat 0] := by rw [hd]; rfl
  have hav : B8 N m.addr.l = [N.getD p.toNat 0] := by rw [ha]; rfl
  have hWm : W.l.map (·.l) = [[a, b], [cc, d]] := by rw [hW2]; simp [hr0, hr1]
  have nR : N1 N c.mems.l s.words.l = [⟨Qk [[a, b], [cc, d]] [N.getD p.toNat 0], none, none⟩] := by rw [hm, hW]; simp only [N1, List.zipWith_cons_cons, List.zipWith_nil_left, hWm, hav]
  have nW : Jr N c.mems.l s.words.l = [H8 (En [N.getD p.toNat 0] [N.getD p1.toNat 0, N.getD p2.toNat 0] (N.getD m.write.toNat 0) 0 [[a, b], [cc, d]])] := by rw [hm, hW]; simp only [Jr, List.zipWith_cons_cons, List.zipWith_nil_left, hWm, hav, hdv]
  have lr := qJK hvp.1 va vb vc vd
  have sr := qHR (en := N.getD m.write.toNat 0) hvp.1 va vb vc vd hvx hvy
  have l0 : r0.l.length = 2 := by rw [hr0]; rfl
  simp only [hdv] at e1
  rw [l0, hr0, hr1, lr] at e1
  rw [← sr] at nW
  have nxt := qJ9 h H hv
  have v3R : ∀ u ∈ Qk [[a, b], [cc, d]] [N.getD p.toNat 0], V3 u := nxt.vr ⟨Qk [[a, b], [cc, d]] [N.getD p.toNat 0], none, none⟩ (by show _ ∈ N1 N c.mems.l s.words.l; rw [nR]; simp)
  have hnwm : H8 [q9c [a, b] 0 (N.getD p.toNat 0) (N.getD m.write.toNat 0) [N.getD p1.toNat 0, N.getD p2.toNat 0], q9c [cc, d] 1 (N.getD p.toNat 0) (N.getD m.write.toNat 0) [N.getD p1.toNat 0, N.getD p2.toNat 0]] ∈ (q0p c s N).words.l := by show _ ∈ Jr N c.mems.l s.words.l; rw [nW]; simp
  have hrow := nxt.words h _ hnwm
  have hval := nxt.vw _ hnwm
  have hrl : (Qk [[a, b], [cc, d]] [N.getD p.toNat 0]).length = 2 := by rw [qKg hvp.1]; rfl
  generalize Qk [[a, b], [cc, d]] [N.getD p.toNat 0] = LK at *
  generalize q9c [a, b] 0 (N.getD p.toNat 0) (N.getD m.write.toNat 0) [N.getD p1.toNat 0, N.getD p2.toNat 0] = S0 at *
  generalize q9c [cc, d] 1 (N.getD p.toNat 0) (N.getD m.write.toNat 0) [N.getD p1.toNat 0, N.getD p2.toNat 0] = S1 at *
  have hsl : (H8 [S0, S1]).l = [⟨S0, none, none⟩, ⟨S1, none, none⟩] := rfl
  have tx := fun (cp : Option Nat) (nl : Option Bool) => qB7 (Γ := Γ) ⟨[⟨S0, none, none⟩, ⟨S1, none, none⟩], cp, nl⟩ (by simp) (fun r hr => ⟨by have := hrow.2.2 r hr; omega, fun u hu => (hval r hr u hu).1⟩)
  have sm := fun (c1 c2 : Option Nat) (n1 n2 : Option Bool) => qC5 (Γ := Γ) ⟨LK, c1, n1⟩ ⟨LK, c2, n2⟩ (by show LK.length ≤ _; omega)
  have sl0 : q94 LK LK = 0 := by unfold q94; rw [if_pos rfl]
  simp only [sl0, tV] at sm
  simp only [tW, tS, sV] at tx
  generalize q60 [⟨S0, none, none⟩, ⟨S1, none, none⟩] = TX at *
  have hTW : Aj tW s.words.l = [[tW W]] := by rw [hW]; rfl
  have hNW : Aj tW (Jr N c.mems.l s.words.l) = [[.sl (Aj tV [⟨S0, none, none⟩, ⟨S1, none, none⟩]) (some 2) none]] := by rw [nW]; rfl
  have hNR : Aj tV (N1 N c.mems.l s.words.l) = [[.sl (Ai LK) none none]] := by rw [nR]; rfl
  have hw1 : ∀ t : T, E2 1 [[t]] := fun t e he => by simp at he; subst he; rfl
  have w01 : IntKind.i64.wrap 1 = 1 := by decide
  simp [tC, Ab, Ad, Ag, Av, tV, hE] at e1
  simp [mcE, mcH, tC, Ab, Ad, Ag, Av, E6, tWs, hE, hl, hTW, q0p, hNW, hNR, tW] at h0
  simp [mcE, mcH, tC, Ab, Ad, Ag, Av, E6, tWs, hE, hTW, q0p, hNW, hNR, hw1]
  refine Ae e1 rfl ?_
  simp [tW, hNR, hNW, hw1]
  refine A4 (sm _ _ _ _) rfl ?_
  simp [tW, hNR, hNW, hw1, A5]
  refine A4 (tx _ _) rfl ?_
  simp
  refine A4 (tx _ _) rfl ?_
  simp [w01]
  rw [hK]
  refine N3 fun K2 hK2 => ?_
  simp
  simpa [hl] using h0
theorem Ou.small {c : Bd} {s : Stt} (h : MOk c) (H : Ou c s) : qME s := by
 have hsl := Hl c
 have hn := h.n
 have hcm := h.cm
 have hw := H.words h
 have hr := H.reads h
 have h1 := H.d
 have h2 := H.w
 have h3 := H.r
 exact ⟨by omega, ⟨by omega, fun x hx => by have := hr x hx; omega⟩, ⟨by omega, fun x hx => ⟨by have := (hw x hx).1; omega, fun y hy => by have := (hw x hx).2.2 y hy; omega⟩⟩⟩
theorem qJ3.refl (s : Stt) : qJ3 (· = ·) s s := ⟨⟨rfl, fun _ _ => rfl⟩, rfl, fun _ _ => ⟨rfl, fun _ _ => rfl⟩, rfl, fun _ _ => ⟨rfl, fun _ _ => ⟨rfl, fun _ _ => rfl⟩⟩⟩
set_option maxHeartbeats 4000000 in
theorem qJN (hΓ : GOk Γ) (x : CD) (hx : q8J x) (v : Sl Int) (hv : ∀ u ∈ v.l, Byt u) (q : PD) (hq : qE7 q) : Ah Tryz.prog Γ 3 [.agg (Oa x), .agg (qBX v q)] (tB true) := by
 refine B7 q28 rfl ?_
 have h := qMJ hx
 have M := qLC hx
 have hof := qJv (Γ := Γ) x hx
 generalize ofC x = c at *
 have hn2 := M.n2
 have ho4 := h.ok.outs
 have hnm := h.ok.names
 have hst := qHQ (Γ := Γ) v q hq c h
 have H : Ou c (qBV v.l c) := qKG (fun u hu => (hv u hu).1) c
 have hP := qIS hq c
 have hPi : (qAm q c).inn.l.length = (E1 c).length := hP.i
 have hPv := hP.vi
 generalize qBV v.l c = s at *
 generalize (qAm q c).inn = inn at *
 have hil := q2R c
 have hsl := Hl c
 have hcyc := qJB hΓ h (by omega) H inn hPi hPv
 have hnt := qBW (Γ := Γ) c h M.k M.n1 s H inn hPi hPv
 have hN : (Bz c s inn.l).length = c.nodes.l.length := qCB
 have hN4 := qGX H hPv
 have hro := q9b (Γ := Γ) c h.ok ⟨Bz c s inn.l, none, none⟩ (by show (Bz c s inn.l).length ≤ _; omega) ho4 (by omega)
 have hsm := qFe (Γ := Γ) s s (H.small h) (qJ3.refl s)
 have hcs := qFk (Γ := Γ) (c := c) (by omega) (fun y hy => by have := ((qCk h.ok h.lev).inn y hy).1; omega) hnm ho4 (by have := h.cm; omega) (fun m hm => ⟨by have := (h.mf m hm).1.2; omega, by have := (h.mf m hm).2.1.2; omega⟩)
 have hol : (X1 c (Bz c s inn.l)).length ≤ 1000000000 := by unfold X1; rw [List.length_map]; exact ho4
 have hxl : (D8 c (Bz c s inn.l)).length ≤ 1000000000 := by unfold D8; rw [List.length_map]; omega
 have g := fun Q h0 => qNt (Γ := Γ) (Q := Q) x v q c h M s H (Bz c s inn.l) hN hN4 h0
 have lW : (Jr (Bz c s inn.l) c.mems.l s.words.l).length = c.mems.l.length := q4v H.w
 have lR : (N1 (Bz c s inn.l) c.mems.l s.words.l).length = c.mems.l.length := q4w H.w
 simp only at hro
 have sameT : ∀ (l : List Int) (c1 c2 : Option Nat) (n1 n2 : Option Bool), l.length ≤ 1000000000 → A6 Tryz.prog Γ 16 [.sl (Ai l) c1 n1, .sl (Ai l) c2 n2] (tI 0) := fun l c1 c2 n1 n2 hl => by
  have := qC5 (Γ := Γ) ⟨l, c1, n1⟩ ⟨l, c2, n2⟩ (by show l.length ≤ _; omega)
  have e : q94 l l = 0 := by unfold q94; rw [if_pos rfl]
  simpa [tV, e] using this
 have s1 := fun c1 c2 n1 n2 => sameT (Bz c s inn.l) c1 c2 n1 n2 (by omega)
 have s2 := fun c1 c2 n1 n2 => sameT (X1 c (Bz c s inn.l)) c1 c2 n1 n2 hol
 have s3 := fun c1 c2 n1 n2 => sameT (D8 c (Bz c s inn.l)) c1 c2 n1 n2 hxl
 simp only [q0p] at hcyc g
 generalize Jr (Bz c s inn.l) c.mems.l s.words.l = NW at *
 generalize N1 (Bz c s inn.l) c.mems.l s.words.l = NR at *
 generalize X1 c (Bz c s inn.l) = O at *
 generalize D8 c (Bz c s inn.l) = X at *
 generalize Bz c s inn.l = N at *
 simp [tC, Ab, Ad, Ag, Av, tV, tVs, E6, tW, tWs, qBX, tPD] at hst hcyc hnt hro hsm hcs
 simp [mcE, mcH, Oa, qBX, tPD, tC, Ab, Ad, Ag, Av, tV, E6, tW, tWs] at g
 simp [Ta, Oa, qBX, tPD, tV]
 refine Ae hof rfl ?_
 simp [tC, Ab, Ad, Ag, Av]
 refine Ae hst rfl ?_
 simp
 refine Ae hcyc rfl ?_
 simp
 refine Ae hnt rfl ?_
 simp
 refine Ae hro rfl ?_
 simp
 refine A4 (s1 _ _ _ _) rfl ?_
 simp
 refine A4 (s2 _ _ _ _) rfl ?_
 simp
 refine A4 (s3 _ _ _ _) rfl ?_
 simp
 refine A4 (s3 _ _ _ _) rfl ?_
 have w00 : IntKind.i64.wrap 0 = 0 := by decide
 simp [A5, Ac, lW, lR, w00]
 refine g _ ?_
 simp
 refine Ae hst rfl ?_
 simp
 refine Ae hsm rfl ?_
 simp
 refine Ae hof rfl ?_
 simp [tC, Ab, Ad, Ag, Av]
 refine A4 hcs rfl ?_
 simp
 refine Ae qD8 rfl ?_
 simp [Tc]
end Go.Lg
