/- Circuits from plain data: name and gate. Conditions: none. -/
import Derived.Test.YtgnghiijbegacaaDoorPB
set_option linter.unusedSimpArgs false
set_option linter.unusedVariables false
set_option maxRecDepth 100000
namespace Go.Lg
open Go Go.Proofs
variable {Γ : Tables}

structure Gd where
  k : Int
  a : Int
  b : Int
  d : Int
def tGd (g : Gd) : List T := [tK g.k, tK g.a, tK g.b, tK g.d]
structure CD where
  i : Int
  f : Int
  d0 : Int
  d1 : Int
  bus : Bool
  mem : Bool
  p0 : Int
  p1 : Int
  p2 : Int
  p3 : Int
  gates : Sl Gd
  outs : Sl Int
def tCD (x : CD) : List T := [tK x.i, tK x.f, tK x.d0, tK x.d1, tB x.bus, tB x.mem, tK x.p0, tK x.p1, tK x.p2, tK x.p3, .sl (encN tGd x.gates.l) x.gates.cap x.gates.nl, .sl (enc1 tK x.outs.l) x.outs.cap x.outs.nl]

def Byt (n : Int) : Prop := 0 ≤ n ∧ n ≤ 255
def GdOk (g : Gd) : Prop := Byt g.k ∧ Byt g.a ∧ Byt g.b ∧ Byt g.d

def nameL (i : Nat) : List UInt8 := [110, UInt8.ofNat (48 + i / 10), UInt8.ofNat (48 + i % 10)]

theorem name_spec (i : Nat) (hi : i < 100) : FreshCalls Tryd.prog Γ 40 [tI i] (tS (nameL i)) := by
  refine run_freshQ law03_name_chk rfl ?_
  have h1 : (i : Int).tdiv 10 = ((i / 10 : Nat) : Int) := by rw [Int.tdiv_eq_ediv_of_nonneg (by omega)]; omega
  have h2 : (i : Int).tmod 10 = ((i % 10 : Nat) : Int) := by rw [Int.tmod_eq_emod_of_nonneg (by omega)]; omega
  have h3 : i / 10 < 10 := by omega
  have h4 : i % 10 < 10 := by omega
  generalize hq : i / 10 = q at *
  generalize hr : i % 10 = r at *
  have e1 : (48 + (q : Int)).toNat = 48 + q := by omega
  have e2 : (48 + (r : Int)).toNat = 48 + r := by omega
  simp (disch := omega) [law03_name_ic, sV, h1, h2, wrap_i64, wrap_u8, bytesOf]
  simp [law03_name_rv, nameL, hq, hr, tS, sV, e1, e2]

def triL (nodes : List Nd) : List Int := ofL [12] nodes 0
def gateT (bus : Bool) (g : Gd) (a b d : Int) (t : List Int) : Nd :=
  let kind := if bus then g.k.tmod 13 else g.k.tmod 9
  if kind < 6 then ⟨5 + kind, if 128 ≤ g.k then ⟨[a, b, d], none, none⟩ else ⟨[a, b], none, none⟩, 0, 0⟩
  else if kind = 6 then ⟨4, ⟨[a], none, none⟩, 0, 0⟩
  else if kind = 7 then ⟨11, ⟨[a, b, d], none, none⟩, 0, 0⟩
  else if kind = 9 ∨ kind = 10 then ⟨12, ⟨[a, b], none, none⟩, 0, 0⟩
  else if 10 < kind ∧ 0 < t.length then
    let k := g.a.tmod t.length
    ⟨13, if 1 < t.length then ⟨[t.getD k.toNat 0, t.getD ((k + 1).tmod t.length).toNat 0], none, none⟩ else ⟨[t.getD k.toNat 0], none, none⟩, 0, 0⟩
  else if 240 < g.k then ⟨1 + g.a.tmod 2, ⟨[], some 0, some true⟩, 0, 0⟩
  else ⟨3, ⟨[a], none, none⟩, 0, 0⟩

def gateN (bus : Bool) (g : Gd) (nodes : List Nd) : Nd := gateT bus g (g.a.tmod nodes.length) (g.b.tmod nodes.length) (g.d.tmod nodes.length) (triL nodes)

theorem gate_loop {Q : AX → St → Prop} (nodes : List Nd) (cap : Option Nat) (nl : Option Bool) (hl : nodes.length ≤ 100) (a3 a4 a8 a9 a10 : T) (r6 : List T)
    (h0 : Q (.exit 0) ⟨[(2, .t (.sl (encN tNd nodes) cap nl)), (3, .t a3), (4, .t a4), (6, .lp 6 0 0), (7, .t (tI nodes.length)), (8, .t a8), (9, .t a9), (10, .t a10), (11, .ls 51 0 (triL nodes).length none), (12, .t (tI nodes.length)), (39, .t (tB false))], [(6, .bx (r6.map AV.t)), (51, .sl 3 1 (ints (triL nodes)))]⟩) : ∀ (k i : Nat), k + i = nodes.length →
    run Tryd.prog Γ law03_C_gate_l1 Q ⟨[(2, .t (.sl (encN tNd nodes) cap nl)), (3, .t a3), (4, .t a4), (6, .lp 6 0 0), (7, .t (tI nodes.length)), (8, .t a8), (9, .t a9), (10, .t a10), (11, .ls 51 0 (triL (nodes.take i)).length none), (12, .t (tI i))], [(6, .bx (r6.map AV.t)), (51, .sl 3 1 (ints (triL (nodes.take i))))]⟩
  | 0, i, h => by
    refine law03_C_gate_l1_run fun K hK => ?_
    have h2 : ¬ i < nodes.length := by omega
    have h3 : i = nodes.length := by omega
    simp [h2]
    subst h3
    simpa using h0
  | k + 1, i, h => by
    refine law03_C_gate_l1_run fun K hK => ?_
    have h2 : i < nodes.length := by omega
    have ht : nodes.take (i + 1) = nodes.take i ++ [nodes[i]] := by rw [List.take_add_one]; simp [h2]
    have hlen := ofL_len [12] (nodes.take i) 0
    have htl : (nodes.take i).length = i := by simp; omega
    have hal : triL (nodes.take (i + 1)) = if nodes[i].k = 12 then triL (nodes.take i) ++ [(i : Int)] else triL (nodes.take i) := by
      simp only [triL]
      rw [ht, ofL_app, htl]
      simp only [ofL, Nat.zero_add, List.contains_cons, List.contains_nil, Bool.or_false, int_beq, decide_eq_true_eq]
      split <;> simp
    have ih := gate_loop nodes cap nl hl a3 a4 a8 a9 a10 r6 h0 k (i + 1) (by omega)
    rw [hal] at ih
    simp only [triL] at ih ⊢
    by_cases h5 : nodes[i].k = 12
    · rw [if_pos h5] at ih
      have hw : wid 1 [[tI (i : Int)]] := by intro e he; simp at he; subst he; rfl
      simp (disch := omega) [h2, encN_len, encN_get Nd.d, tNd_wid, tNd, tSl, h5, wrap_i64, enc1_len, enc1_wid, hw]
      rw [hK]
      simp at ih
      rw [enc1_snoc (f := tI) (x := (i : Int))]
      exact ⟨by omega, ih⟩
    · rw [if_neg h5] at ih
      simp (disch := omega) [h2, encN_len, encN_get Nd.d, tNd_wid, tNd, tSl, h5, wrap_i64]
      rw [hK]
      simpa using ih

theorem tmod_lt {a : Int} {n : Nat} (h0 : 0 ≤ a) (h1 : 0 < n) : 0 ≤ a.tmod n ∧ a.tmod n < n := by
  rw [Int.tmod_eq_emod_of_nonneg h0]
  exact ⟨Int.emod_nonneg _ (by omega), Int.emod_lt_of_pos _ (by omega)⟩

theorem flatReg_sl {ty s : Nat} {es : List (List T)} : flatReg (.sl ty s es) = ∀ e ∈ es, ∀ t ∈ e, flatT t = true := rfl
set_option maxHeartbeats 4000000 in
theorem gate_spec (x : CD) (g : Gd) (hg : GdOk g) (nodes : List Nd) (cap : Option Nat) (nl : Option Bool) (h0 : 1 ≤ nodes.length) (h1 : nodes.length ≤ 100) :
    FreshCalls Tryd.prog Γ 39 [.agg (tCD x), .agg (tGd g), .sl (encN tNd nodes) cap nl] (.agg (tNd (gateN x.bus g nodes))) := by
  refine run_freshQ law03_C_gate_chk rfl ?_
  obtain ⟨⟨hk0, hk1⟩, ⟨ha0, ha1⟩, ⟨hb0, hb1⟩, ⟨hd0, hd1⟩⟩ := hg
  have hn0 : ¬ (nodes.length : Int) = 0 := by omega
  have hn1 : (nodes.length : Int) ≠ 0 := by omega
  have hne : ¬ nodes = [] := fun e => by subst e; simp at h0
  have hlp := fun Q a3 a4 a8 a9 a10 r6 h0 => gate_loop (Γ := Γ) (Q := Q) nodes cap nl h1 a3 a4 a8 a9 a10 r6 h0 nodes.length 0 (by omega)
  have ht := ofL_len [12] nodes 0
  simp only [triL, List.take_zero, ofL, List.length_nil, enc1_nil] at hlp
  simp (disch := omega) [law03_C_gate_ic, tCD, tGd, encN_len, wrap_i64, hn0]
  refine ⟨hne, hlp _ _ _ _ _ _ [_, _, _, _] ?_⟩
  clear hlp
  unfold gateN
  simp only [triL]
  generalize ofL [12] nodes 0 = t at *
  have m13 : 0 ≤ g.k.tmod 13 ∧ g.k.tmod 13 < 13 := tmod_lt (n := 13) hk0 (by omega)
  have m9 : 0 ≤ g.k.tmod 9 ∧ g.k.tmod 9 < 9 := tmod_lt (n := 9) hk0 (by omega)
  have ma : 0 ≤ g.a.tmod 2 ∧ g.a.tmod 2 < 2 := tmod_lt (n := 2) ha0 (by omega)
  generalize g.a.tmod nodes.length = a
  generalize g.b.tmod nodes.length = b
  generalize g.d.tmod nodes.length = d
  unfold gateT
  cases x.bus
  · generalize hkk : g.k.tmod 9 = kk at *
    by_cases k1 : kk < 6
    · by_cases k2 : 128 ≤ g.k
      · simp (disch := omega) [hkk, k1, k2, wrap_i64, wrap_u8, Later, law03_C_gate_rv, tNd, tSl, enc1, wid, reify, flatReg_sl]
      · simp (disch := omega) [hkk, k1, k2, wrap_i64, wrap_u8, Later, law03_C_gate_rv, tNd, tSl, enc1, wid, reify, flatReg_sl]
    by_cases k3 : kk = 6
    · simp (disch := omega) [hkk, k1, k3, wrap_i64, wrap_u8, Later, law03_C_gate_rv, tNd, tSl, enc1, wid, reify, flatReg_sl]
    by_cases k4 : kk = 7
    · simp (disch := omega) [hkk, k1, k4, wrap_i64, wrap_u8, Later, law03_C_gate_rv, tNd, tSl, enc1, wid, reify, flatReg_sl]
    have k5 : kk = 8 := by omega
    by_cases k6 : 240 < g.k
    · simp (disch := omega) [hkk, k5, k6, wrap_i64, wrap_u8, Later, law03_C_gate_rv, tNd, tSl, enc1, wid, reify, flatReg_sl]
    · simp (disch := omega) [hkk, k5, k6, wrap_i64, wrap_u8, Later, law03_C_gate_rv, tNd, tSl, enc1, wid, reify, flatReg_sl]
  · generalize hkk : g.k.tmod 13 = kk at *
    by_cases k1 : kk < 6
    · by_cases k2 : 128 ≤ g.k
      · simp (disch := omega) [hkk, k1, k2, wrap_i64, wrap_u8, Later, law03_C_gate_rv, tNd, tSl, enc1, wid, reify, flatReg_sl]
      · simp (disch := omega) [hkk, k1, k2, wrap_i64, wrap_u8, Later, law03_C_gate_rv, tNd, tSl, enc1, wid, reify, flatReg_sl]
    by_cases k3 : kk = 6
    · simp (disch := omega) [hkk, k1, k3, wrap_i64, wrap_u8, Later, law03_C_gate_rv, tNd, tSl, enc1, wid, reify, flatReg_sl]
    by_cases k4 : kk = 7
    · simp (disch := omega) [hkk, k1, k4, wrap_i64, wrap_u8, Later, law03_C_gate_rv, tNd, tSl, enc1, wid, reify, flatReg_sl]
    by_cases k8 : kk = 9
    · simp (disch := omega) [hkk, k8, wrap_i64, wrap_u8, Later, law03_C_gate_rv, tNd, tSl, enc1, wid, reify, flatReg_sl]
    by_cases k9 : kk = 10
    · simp (disch := omega) [hkk, k9, wrap_i64, wrap_u8, Later, law03_C_gate_rv, tNd, tSl, enc1, wid, reify, flatReg_sl]
    by_cases k10 : 10 < kk ∧ 0 < t.length
    · obtain ⟨k11, k10⟩ := k10
      have htn : ¬ (t.length : Int) = 0 := by omega
      have htne : ¬ t = [] := fun e => by subst e; simp at k10
      have htp : (0 : Int) < t.length := by omega
      have mt := tmod_lt (n := t.length) ha0 k10
      generalize hq : g.a.tmod t.length = q at *
      have mt2 := tmod_lt (a := q + 1) (n := t.length) (by omega) k10
      have hq0 : q.toNat < t.length := by omega
      generalize hq2 : (q + 1).tmod t.length = q2 at *
      have hq20 : q2.toNat < t.length := by omega
      have e1 := enc1_get (f := tI) 0 hq0
      have e2 := enc1_get (f := tI) 0 hq20
      by_cases k12 : 1 < t.length
      · have k12' : (1 : Int) < t.length := by omega
        simp (disch := omega) [hkk, k1, k3, k4, k8, k9, k11, k10, htp, htn, k12, k12', hq, hq2, e1, e2, hq0, hq20, mt.1, mt.2, mt2.1, mt2.2, htne, enc1_len, enc1_wid, wrap_i64, wrap_u8, Later, tNd, tSl, reify, flatReg_sl, law03_C_gate_rv]
        simp [wid, enc1]
      · have k12' : ¬ (1 : Int) < t.length := by omega
        simp (disch := omega) [hkk, k1, k3, k4, k8, k9, k11, k10, htp, htn, k12, k12', hq, hq2, e1, e2, hq0, hq20, mt.1, mt.2, mt2.1, mt2.2, htne, enc1_len, enc1_wid, wrap_i64, wrap_u8, Later, tNd, tSl, reify, flatReg_sl, law03_C_gate_rv]
        simp [wid, enc1]
    · by_cases k11 : 10 < kk
      · have k10' : t = [] := List.eq_nil_of_length_eq_zero (by omega)
        subst k10'
        by_cases k6 : 240 < g.k
        · simp (disch := omega) [hkk, k1, k3, k4, k8, k9, k11, k6, wrap_i64, wrap_u8, Later, law03_C_gate_rv, tNd, tSl, enc1, wid, reify, flatReg_sl]
        · simp (disch := omega) [hkk, k1, k3, k4, k8, k9, k11, k6, wrap_i64, wrap_u8, Later, law03_C_gate_rv, tNd, tSl, enc1, wid, reify, flatReg_sl]
      · have k5 : kk = 8 := by omega
        by_cases k6 : 240 < g.k
        · simp (disch := omega) [hkk, k5, k6, wrap_i64, wrap_u8, Later, law03_C_gate_rv, tNd, tSl, enc1, wid, reify, flatReg_sl]
        · simp (disch := omega) [hkk, k5, k6, wrap_i64, wrap_u8, Later, law03_C_gate_rv, tNd, tSl, enc1, wid, reify, flatReg_sl]
end Go.Lg

/- Circuits from plain data: Of. Conditions: none. -/
set_option linter.unusedSimpArgs false
set_option linter.unusedVariables false
set_option maxRecDepth 100000
namespace Go.Lg
open Go Go.Proofs
variable {Γ : Tables}

def tNil : T := .sl [] (some 0) (some true)
def hpO (nodes : List Nd) (names : List (List UInt8)) (m : T) (outs : List Int) : List (Nat × Reg) :=
  [(2, .bx [.t tNil, .t tNil, .t tNil, .t tNil]), (3, .bx [.ls 25 0 nodes.length none, .ls 144 0 names.length none, .t m, .ls 168 0 outs.length none]), (25, .sl 48 4 (encN tNd nodes)), (144, .sl 9 1 (enc1 tS names)), (168, .sl 3 1 (ints outs))]

def inpN : Nd := ⟨0, ⟨[], some 0, some true⟩, 0, 0⟩
def dffN (l : Int) : Nd := ⟨14, ⟨[l], some 1, some false⟩, 0, 0⟩
def memN (b : Int) : Nd := ⟨15, ⟨[], some 0, some true⟩, 0, b⟩

theorem of_inputs {Q : AX → St → Prop} (x : CD) (hx : Byt x.i) (R : List Nd)
    (h0 : Q (.exit 0) ⟨[(1, .t (.ip (tCD x) 0)), (2, .lp 2 0 0), (3, .lp 3 0 0), (4, .t (tI (x.i.tmod 4 + 1))), (18, .t (tB false))], hpO R [] tNil []⟩) : ∀ (k : Nat) (i : Int) (ns : List Nd), k + i = x.i.tmod 4 + 1 → ns ++ List.replicate k inpN = R → ns.length + k ≤ 100 →
    run Tryd.prog Γ law03_C_Of_l1 Q ⟨[(1, .t (.ip (tCD x) 0)), (2, .lp 2 0 0), (3, .lp 3 0 0), (4, .t (tI i))], hpO ns [] tNil []⟩
  | 0, i, ns, h, hR, hl => by
    refine law03_C_Of_l1_run fun K hK => ?_
    have m4 : 0 ≤ x.i.tmod 4 ∧ x.i.tmod 4 < 4 := tmod_lt (n := 4) hx.1 (by omega)
    have h2 : ¬ i ≤ x.i.tmod 4 := by omega
    have h3 : i = x.i.tmod 4 + 1 := by omega
    simp only [List.replicate_zero, List.append_nil] at hR
    subst hR
    simp (disch := omega) [h2, tCD, hpO, wrap_i64, wrap_u8]
    subst h3
    simpa [tCD, hpO] using h0
  | k + 1, i, ns, h, hR, hl => by
    refine law03_C_Of_l1_run fun K hK => ?_
    have m4 : 0 ≤ x.i.tmod 4 ∧ x.i.tmod 4 < 4 := tmod_lt (n := 4) hx.1 (by omega)
    have h2 : i ≤ x.i.tmod 4 := by omega
    have ih := of_inputs x hx R h0 k (i + 1) (ns ++ [inpN]) (by omega) (by rw [← hR]; simp [List.replicate_succ]) (by simp; omega)
    have q : encN tNd ns ++ [[tK 0, .sl [] (some 0) (some true), tI 0, tI 0]] = encN tNd (ns ++ [inpN]) := encN_snoc (f := tNd) (x := inpN)
    have hw4 : wid 4 [[tK 0, .sl [] (some 0) (some true), tI 0, tI 0]] := by intro e he; simp at he; subst he; rfl
    have ht : (encN tNd ns).take ns.length = encN tNd ns := List.take_of_length_le (by simp [encN])
    simp (disch := omega) [h2, tCD, hpO, wrap_i64, wrap_u8, encN_len, hw4, tNd_wid, ht, q]
    rw [hK]
    simp [tCD, hpO] at ih
    exact ⟨by omega, ih⟩

theorem of_dffs {Q : AX → St → Prop} (x : CD) (hx : Byt x.f) (first : Int) (R : List Nd)
    (h0 : Q (.exit 2) ⟨[(1, .t (.ip (tCD x) 0)), (2, .lp 2 0 0), (3, .lp 3 0 0), (5, .t (tI first)), (6, .t (tI (x.f.tmod 3))), (7, .t (tI (x.f.tmod 3))), (36, .t (tB false))], hpO R [] tNil []⟩) : ∀ (k : Nat) (i : Int) (ns : List Nd), k + i = x.f.tmod 3 → ns ++ List.replicate k (dffN 0) = R → ns.length + k ≤ 100 →
    run Tryd.prog Γ law03_C_Of_l3 Q ⟨[(1, .t (.ip (tCD x) 0)), (2, .lp 2 0 0), (3, .lp 3 0 0), (5, .t (tI first)), (6, .t (tI (x.f.tmod 3))), (7, .t (tI i))], hpO ns [] tNil []⟩
  | 0, i, ns, h, hR, hl => by
    refine law03_C_Of_l3_run fun K hK => ?_
    have m3 : 0 ≤ x.f.tmod 3 ∧ x.f.tmod 3 < 3 := tmod_lt (n := 3) hx.1 (by omega)
    have h2 : ¬ i < x.f.tmod 3 := by omega
    have h3 : i = x.f.tmod 3 := by omega
    simp only [List.replicate_zero, List.append_nil] at hR
    subst hR
    simp (disch := omega) [h2, tCD, hpO, wrap_i64, wrap_u8]
    subst h3
    simpa [tCD, hpO] using h0
  | k + 1, i, ns, h, hR, hl => by
    refine law03_C_Of_l3_run fun K hK => ?_
    have m3 : 0 ≤ x.f.tmod 3 ∧ x.f.tmod 3 < 3 := tmod_lt (n := 3) hx.1 (by omega)
    have h2 : i < x.f.tmod 3 := by omega
    have ih := of_dffs x hx first R h0 k (i + 1) (ns ++ [dffN 0]) (by omega) (by rw [← hR]; simp [List.replicate_succ]) (by simp; omega)
    have q : encN tNd ns ++ [[tK 14, .sl [[tI 0]] (some 1) (some false), tI 0, tI 0]] = encN tNd (ns ++ [dffN 0]) := encN_snoc (f := tNd) (x := dffN 0)
    have hw4 : wid 4 [[tK 14, .sl [[tI 0]] (some 1) (some false), tI 0, tI 0]] := by intro e he; simp at he; subst he; rfl
    have ht : (encN tNd ns).take ns.length = encN tNd ns := List.take_of_length_le (by simp [encN])
    simp (disch := omega) [h2, tCD, hpO, wrap_i64, wrap_u8, encN_len, hw4, tNd_wid, ht, q]
    rw [hK]
    simp [tCD, hpO] at ih
    exact ⟨by omega, ih⟩

def gatesN (bus : Bool) : List Gd → List Nd → List Nd
  | [], ns => ns
  | g :: l, ns => gatesN bus l (ns ++ [gateN bus g ns])

theorem tGd_wid {l : List Gd} : wid 4 (encN tGd l) := encN_wid fun _ => rfl
def Gd.z : Gd := ⟨0, 0, 0, 0⟩

theorem of_gates {Q : AX → St → Prop} (x : CD) (hx : ∀ g ∈ x.gates.l, GdOk g) (first dffs : Int) (R : List Nd)
    (h0 : Q (.exit 4) ⟨[(1, .t (.ip (tCD x) 0)), (2, .lp 2 0 0), (3, .lp 3 0 0), (5, .t (tI first)), (6, .t (tI dffs)), (8, .t (tI (min x.gates.l.length 8 : Nat))), (63, .t (tB false))], hpO R [] tNil []⟩) : ∀ (k i : Nat) (ns : List Nd), k + i = min x.gates.l.length 8 → gatesN x.bus ((x.gates.l.take 8).drop i) ns = R → 1 ≤ ns.length → ns.length + k ≤ 100 →
    run Tryd.prog Γ law03_C_Of_l5 Q ⟨[(1, .t (.ip (tCD x) 0)), (2, .lp 2 0 0), (3, .lp 3 0 0), (5, .t (tI first)), (6, .t (tI dffs)), (8, .t (tI i))], hpO ns [] tNil []⟩
  | 0, i, ns, h, hR, hl1, hl => by
    refine law03_C_Of_l5_run fun K hK => ?_
    rw [List.drop_of_length_le (by simp; omega)] at hR
    simp only [gatesN] at hR
    subst hR
    have hi : i = min x.gates.l.length 8 := by omega
    by_cases h2 : i < x.gates.l.length
    · have h3 : ¬ (i : Int) < 8 := by omega
      have h3' : ¬ i < 8 := by omega
      simp (disch := omega) [h2, h3, h3', tCD, hpO, encN_len]
      subst hi
      simpa [tCD, hpO] using h0
    · simp (disch := omega) [h2, tCD, hpO, encN_len]
      subst hi
      simpa [tCD, hpO] using h0
  | k + 1, i, ns, h, hR, hl1, hl => by
    refine law03_C_Of_l5_run fun K hK => ?_
    have h2 : i < x.gates.l.length := by omega
    have h3 : i < 8 := by omega
    have h3' : (i : Int) < 8 := by omega
    rw [List.drop_eq_getElem_cons (by simp; omega)] at hR
    simp only [gatesN, List.getElem_take] at hR
    have ih := of_gates x hx first dffs R h0 k (i + 1) (ns ++ [gateN x.bus x.gates.l[i] ns]) (by omega) hR (by simp) (by simp; omega)
    have hg := gate_spec (Γ := Γ) x x.gates.l[i] (hx _ (List.getElem_mem h2)) ns none none hl1 (by omega)
    generalize gateN x.bus x.gates.l[i] ns = gn at *
    have q : encN tNd ns ++ [tNd gn] = encN tNd (ns ++ [gn]) := encN_snoc (f := tNd) (x := gn)
    have hw4 : wid 4 [tNd gn] := by intro e he; simp at he; subst he; rfl
    have ht : (encN tNd ns).take ns.length = encN tNd ns := List.take_of_length_le (by simp [encN])
    have hget := encN_get (f := tGd) Gd.z h2
    simp (disch := omega) [h2, h3, h3', tCD, hpO, wrap_i64, encN_len, hget, tGd_wid, tGd]
    refine callK_fresh hg (by simp [reify, tCD, ht, tGd]) ?_
    simp [tNd] at q hw4
    simp (disch := omega) [tNd, wrap_i64, encN_len, hw4, tNd_wid, ht, q]
    rw [hK]
    simp [tCD, hpO] at ih
    exact ⟨rfl, by omega, ih⟩

def ddN (x : CD) (i : Nat) : Int := if i = 0 then x.d0 else x.d1
def setIn (ns : List Nd) (j : Nat) (v : Int) : List Nd := ns.set j ⟨(ns.getD j Nd.d).k, ⟨[v], some 1, some false⟩, (ns.getD j Nd.d).mem, (ns.getD j Nd.d).bit⟩
def dataN (x : CD) (first : Nat) : Nat → Nat → List Nd → List Nd
  | 0, _, ns => ns
  | k + 1, i, ns => dataN x first k (i + 1) (setIn ns (first + i) ((ddN x i).tmod ns.length))
theorem setIn_len {ns : List Nd} {j : Nat} {v : Int} : (setIn ns j v).length = ns.length := by simp [setIn]
theorem dataN_len {x : CD} {f : Nat} : ∀ {k i : Nat} {ns : List Nd}, (dataN x f k i ns).length = ns.length
  | 0, _, _ => rfl
  | k + 1, i, ns => by simp only [dataN]; rw [dataN_len, setIn_len]

theorem set_in {ns : List Nd} {j : Nat} {v : Int} (hj : j < ns.length) : (encN tNd ns).set j (((encN tNd ns)[j]?.getD []).take 1 ++ T.sl [[tI v]] (some 1) (some false) :: ((encN tNd ns)[j]?.getD []).drop 2) = encN tNd (setIn ns j v) := by
  rw [encN_get (f := tNd) Nd.d hj]
  unfold setIn encN
  rw [List.map_set]
  rfl

theorem of_data {Q : AX → St → Prop} (x : CD) (h0' : Byt x.d0) (h1' : Byt x.d1) (first dn n : Nat) (hdn : dn ≤ 2) (hn : 1 ≤ n ∧ n ≤ 100) (hf : first + dn ≤ n) (R : List Nd)
    (h0 : Q (.exit 6) ⟨[(1, .t (.ip (tCD x) 0)), (2, .lp 2 0 0), (3, .lp 3 0 0), (5, .t (tI first)), (6, .t (tI dn)), (9, .t (tI n)), (10, .t (tI dn)), (85, .t (tB false))], hpO R [] tNil []⟩) : ∀ (k i : Nat) (ns : List Nd), k + i = dn → dataN x first k i ns = R → ns.length = n →
    run Tryd.prog Γ law03_C_Of_l7 Q ⟨[(1, .t (.ip (tCD x) 0)), (2, .lp 2 0 0), (3, .lp 3 0 0), (5, .t (tI first)), (6, .t (tI dn)), (9, .t (tI n)), (10, .t (tI i))], hpO ns [] tNil []⟩
  | 0, i, ns, h, hR, hl => by
    refine law03_C_Of_l7_run fun K hK => ?_
    simp only [dataN] at hR
    subst hR
    have h2 : ¬ i < dn := by omega
    have h3 : i = dn := by omega
    simp (disch := omega) [h2, tCD, hpO]
    subst h3
    simpa [tCD, hpO] using h0
  | k + 1, i, ns, h, hR, hl => by
    refine law03_C_Of_l7_run fun K hK => ?_
    have h2 : i < dn := by omega
    simp only [dataN] at hR
    have ih := of_data x h0' h1' first dn n hdn hn hf R h0 k (i + 1) _ (by omega) hR (by rw [setIn_len]; exact hl)
    have hi : i = 0 ∨ i = 1 := by omega
    have hj : first + i < ns.length := by omega
    have hn0 : ¬ (n : Int) = 0 := by omega
    have hget := encN_get (f := tNd) Nd.d hj
    obtain ⟨h01, h02⟩ := h0'
    obtain ⟨h11, h12⟩ := h1'
    have hs := fun v => set_in (v := v) hj
    have hn' : ¬ n = 0 := by omega
    have hfi : first + i < n := by omega
    rcases hi with rfl | rfl
    · have hdd : ddN x 0 = x.d0 := rfl
      have h2' : (0 : Int) < dn := by omega
      rw [hdd, hl] at ih
      simp only [Nat.add_zero] at hs hfi ih
      simp (disch := omega) [h2, h2', tCD, hpO, wrap_i64, encN_len, tNd_wid, hn0, hl, hs, hn', hfi]
      rw [hK]
      simp [tCD, hpO, setIn_len, hl] at ih
      exact ih
    · have hdd : ddN x 1 = x.d1 := rfl
      have h2' : (1 : Int) < dn := by omega
      rw [hdd, hl] at ih
      have hfn : ((first : Int) + 1).toNat = first + 1 := by omega
      have hfi' : (first : Int) + 1 < n := by omega
      simp (disch := omega) [h2, h2', tCD, hpO, wrap_i64, encN_len, tNd_wid, hn0, hl, hs, hn', hfi, hfn, hfi']
      rw [hK]
      simp [tCD, hpO, setIn_len, hl] at ih
      exact ⟨by omega, ih⟩
theorem of_names {Q : AX → St → Prop} (x : CD) (n : Nat) (hn : n ≤ 100) (ns : List Nd) (m : T) (R : List (List UInt8))
    (h0 : Q (.exit 8) ⟨[(1, .t (.ip (tCD x) 0)), (2, .lp 2 0 0), (3, .lp 3 0 0), (9, .t (tI n)), (11, .t (tI n)), (136, .t (tB false))], hpO ns R m []⟩) : ∀ (k i : Nat) (nms : List (List UInt8)), k + i = n → nms ++ (List.range' i k).map nameL = R → nms.length = i →
    run Tryd.prog Γ law03_C_Of_l9 Q ⟨[(1, .t (.ip (tCD x) 0)), (2, .lp 2 0 0), (3, .lp 3 0 0), (9, .t (tI n)), (11, .t (tI i))], hpO ns nms m []⟩
  | 0, i, nms, h, hR, hl => by
    refine law03_C_Of_l9_run fun K hK => ?_
    simp only [List.range'_zero, List.map_nil, List.append_nil] at hR
    subst hR
    have h2 : ¬ i < n := by omega
    have h3 : i = n := by omega
    simp (disch := omega) [h2, tCD, hpO]
    subst h3
    simpa [tCD, hpO] using h0
  | k + 1, i, nms, h, hR, hl => by
    refine law03_C_Of_l9_run fun K hK => ?_
    have h2 : i < n := by omega
    rw [List.range'_succ, List.map_cons] at hR
    have ih := of_names x n hn ns m R h0 k (i + 1) (nms ++ [nameL i]) (by omega) (by rw [← hR]; simp) (by simp; omega)
    have e := name_spec (Γ := Γ) i (by omega)
    have q : enc1 tS nms ++ [[tS (nameL i)]] = enc1 tS (nms ++ [nameL i]) := enc1_snoc
    have ht : (enc1 tS nms).take i = enc1 tS nms := List.take_of_length_le (by simp [enc1]; omega)
    generalize nameL i = nm at *
    have hw : wid 1 [[tS nm]] := by intro e he; simp at he; subst he; rfl
    simp (disch := omega) [h2, tCD, hpO, wrap_i64, hl]
    refine callK_fresh e rfl ?_
    simp only [tS, sV] at q hw
    simp (disch := omega) [tS, sV, wrap_i64, enc1_len, hw, enc1_wid, ht, q, hl]
    rw [hK]
    simp [tCD, hpO, hl] at ih
    exact ⟨by omega, ih⟩

theorem of_outs {Q : AX → St → Prop} (x : CD) (hx : ∀ b ∈ x.outs.l, Byt b) (n : Nat) (hn : 1 ≤ n ∧ n ≤ 100) (ns : List Nd) (nms : List (List UInt8)) (m : T) (R : List Int)
    (h0 : Q (.exit 10) ⟨[(1, .t (.ip (tCD x) 0)), (2, .lp 2 0 0), (3, .lp 3 0 0), (9, .t (tI n)), (12, .t (tI (min x.outs.l.length 3 : Nat))), (154, .t (tB false))], hpO ns nms m R⟩) : ∀ (k i : Nat) (os : List Int), k + i = min x.outs.l.length 3 → os ++ ((x.outs.l.take 3).drop i).map (fun b => b.tmod n) = R → os.length = i →
    run Tryd.prog Γ law03_C_Of_l11 Q ⟨[(1, .t (.ip (tCD x) 0)), (2, .lp 2 0 0), (3, .lp 3 0 0), (9, .t (tI n)), (12, .t (tI i))], hpO ns nms m os⟩
  | 0, i, os, h, hR, hl => by
    refine law03_C_Of_l11_run fun K hK => ?_
    rw [List.drop_of_length_le (by simp; omega)] at hR
    simp only [List.map_nil, List.append_nil] at hR
    subst hR
    have hi : i = min x.outs.l.length 3 := by omega
    by_cases h2 : i < x.outs.l.length
    · have h3 : ¬ (i : Int) < 3 := by omega
      have h3' : ¬ i < 3 := by omega
      simp (disch := omega) [h2, h3, h3', tCD, hpO, enc1_len]
      subst hi
      simpa [tCD, hpO] using h0
    · simp (disch := omega) [h2, tCD, hpO, enc1_len]
      subst hi
      simpa [tCD, hpO] using h0
  | k + 1, i, os, h, hR, hl => by
    refine law03_C_Of_l11_run fun K hK => ?_
    have h2 : i < x.outs.l.length := by omega
    have h3 : i < 3 := by omega
    have h3' : (i : Int) < 3 := by omega
    rw [List.drop_eq_getElem_cons (by simp; omega)] at hR
    simp only [List.map_cons, List.getElem_take] at hR
    have hb := hx _ (List.getElem_mem h2)
    obtain ⟨hb0, hb1⟩ := hb
    have hget := enc1_get (f := tK) 0 h2
    have hg2 : x.outs.l[i]?.getD 0 = x.outs.l[i] := by simp [h2]
    rw [hg2] at hget
    generalize x.outs.l[i] = b at *
    have hn0 : ¬ (n : Int) = 0 := by omega
    have hn0' : ¬ n = 0 := by omega
    have ih := of_outs x hx n hn ns nms m R h0 k (i + 1) (os ++ [b.tmod n]) (by omega) (by rw [← hR]; simp) (by simp; omega)
    have q : enc1 tI os ++ [[tI (b.tmod n)]] = enc1 tI (os ++ [b.tmod n]) := enc1_snoc
    have ht : (enc1 tI os).take i = enc1 tI os := List.take_of_length_le (by simp [enc1]; omega)
    have hw : wid 1 [[tI (b.tmod n)]] := by intro e he; simp at he; subst he; rfl
    simp (disch := omega) [h2, h3, h3', tCD, hpO, wrap_i64, enc1_len, enc1_wid, hget, hn0, hn0', hw, ht, q, hl]
    rw [hK]
    simp [tCD, hpO, hl] at ih
    exact ⟨by omega, ih⟩

def nodes1 (x : CD) : List Nd := List.replicate (x.i.tmod 4 + 1).toNat inpN
def nodes2 (x : CD) : List Nd := nodes1 x ++ List.replicate (x.f.tmod 3).toNat (dffN 0)
def nodes3 (x : CD) : List Nd := if x.mem then nodes2 x ++ [memN 0, memN 1] else nodes2 x
def nodes4 (x : CD) : List Nd := gatesN x.bus (x.gates.l.take 8) (nodes3 x)
def nodes5 (x : CD) : List Nd := dataN x (nodes1 x).length (x.f.tmod 3).toNat 0 (nodes4 x)
def memM (x : CD) (n : Int) : List Mm := if x.mem then [⟨⟨[x.p0.tmod n], some 1, some false⟩, ⟨[x.p1.tmod n, x.p2.tmod n], some 2, some false⟩, x.p3.tmod n⟩] else []
def ofC (x : CD) : Cir :=
  ⟨⟨nodes5 x, none, none⟩, ⟨(List.range' 0 (nodes4 x).length).map nameL, none, none⟩, ⟨memM x (nodes4 x).length, some (if x.mem then 1 else 0), some (!x.mem)⟩, ⟨(x.outs.l.take 3).map (fun b => b.tmod (nodes4 x).length) ++ [((nodes4 x).length : Int) - 1], none, none⟩⟩

structure CDOk (x : CD) : Prop where
  i : Byt x.i
  f : Byt x.f
  d0 : Byt x.d0
  d1 : Byt x.d1
  p0 : Byt x.p0
  p1 : Byt x.p1
  p2 : Byt x.p2
  p3 : Byt x.p3
  gates : ∀ g ∈ x.gates.l, GdOk g
  outs : ∀ b ∈ x.outs.l, Byt b

theorem gatesN_len {bus : Bool} : ∀ {l : List Gd} {ns : List Nd}, (gatesN bus l ns).length = ns.length + l.length
  | [], ns => rfl
  | g :: l, ns => by simp only [gatesN]; rw [gatesN_len]; simp; omega

set_option maxHeartbeats 4000000 in
theorem Of_spec (x : CD) (hx : CDOk x) : PureCalls Tryd.prog Γ 12 [.agg (tCD x)] (.agg (tC (ofC x))) := by
  refine run_pureQ law03_C_Of_chk rfl ?_
  have m4 : 0 ≤ x.i.tmod 4 ∧ x.i.tmod 4 < 4 := tmod_lt (n := 4) hx.i.1 (by omega)
  have m3 : 0 ≤ x.f.tmod 3 ∧ x.f.tmod 3 < 3 := tmod_lt (n := 3) hx.f.1 (by omega)
  have l1 : (nodes1 x).length = (x.i.tmod 4 + 1).toNat := by simp [nodes1]
  have l2 : (nodes2 x).length = (x.i.tmod 4 + 1).toNat + (x.f.tmod 3).toNat := by simp [nodes2, nodes1]
  have l3 : (nodes2 x).length ≤ (nodes3 x).length ∧ (nodes3 x).length ≤ 8 := by unfold nodes3; split <;> simp <;> omega
  have l4 : (nodes4 x).length = (nodes3 x).length + min 8 x.gates.l.length := by unfold nodes4; rw [gatesN_len]; simp
  have l5 : (nodes5 x).length = (nodes4 x).length := dataN_len
  have e1 := fun Q h0 => of_inputs (Γ := Γ) (Q := Q) x hx.i (nodes1 x) h0 (x.i.tmod 4 + 1).toNat 0 [] (by omega) rfl (by simp; omega)
  have e2 := fun Q h0 => of_dffs (Γ := Γ) (Q := Q) x hx.f (nodes1 x).length (nodes2 x) h0 (x.f.tmod 3).toNat 0 (nodes1 x) (by omega) rfl (by omega)
  have e3 := fun Q h0 => of_gates (Γ := Γ) (Q := Q) x hx.gates (nodes1 x).length (x.f.tmod 3) (nodes4 x) h0 (min x.gates.l.length 8) 0 (nodes3 x) (by omega) rfl (by omega) (by omega)
  have e4 := fun Q h0 => of_data (Γ := Γ) (Q := Q) x hx.d0 hx.d1 (nodes1 x).length (x.f.tmod 3).toNat (nodes4 x).length (by omega) (by omega) (by omega) (nodes5 x) h0 (x.f.tmod 3).toNat 0 (nodes4 x) (by omega) rfl rfl
  have e5 := fun Q m h0 => of_names (Γ := Γ) (Q := Q) x (nodes4 x).length (by omega) (nodes5 x) m _ h0 (nodes4 x).length 0 [] (by omega) rfl rfl
  have e6 := fun Q nms m h0 => of_outs (Γ := Γ) (Q := Q) x hx.outs (nodes4 x).length (by omega) (nodes5 x) nms m _ h0 (min x.outs.l.length 3) 0 [] (by omega) rfl rfl
  have hc : ((x.f.tmod 3).toNat : Int) = x.f.tmod 3 := by omega
  rw [hc] at e4
  have hk1 := fun {s : Nat} {e : List (List T)} {n : Nat} (h : e.length ≤ n) => List.take_of_length_le h
  have a33 : ∀ {os : List Int}, enc1 tI os ++ [[tI (((nodes4 x).length : Int) - 1)]] = enc1 tI (os ++ [((nodes4 x).length : Int) - 1]) := enc1_snoc
  have hw1 : wid 1 [[tI (((nodes4 x).length : Int) - 1)]] := by intro e he; simp at he; subst he; rfl
  have hol : ((x.outs.l.take 3).map (fun b => b.tmod ((nodes4 x).length : Int))).length = min 3 x.outs.l.length := by simp
  have hnl : ((List.range' 0 (nodes4 x).length).map nameL).length = (nodes4 x).length := by simp
  simp only [List.nil_append, List.drop_zero] at e5 e6
  generalize hN : nodes4 x = N4 at *
  generalize hO : (x.outs.l.take 3).map (fun b => b.tmod (N4.length : Int)) = O at *
  generalize hNm : (List.range' 0 N4.length).map nameL = Nm at *
  simp (config := { maxSteps := 2000000 }) [law03_C_Of_ic, tCD]
  refine e1 _ ?_
  simp (config := { maxSteps := 2000000 }) (disch := omega) [tCD, hpO, wrap_i64, wrap_u8, encN_len]
  refine e2 _ ?_
  cases hm : x.mem
  · have h3 : nodes3 x = nodes2 x := by simp [nodes3, hm]
    rw [h3] at e3 l3 l4
    simp only [tCD, hpO, hm] at e3 e4 e5 e6
    simp (config := { maxSteps := 2000000 }) (disch := omega) [tCD, hpO, wrap_i64, wrap_u8, encN_len, enc1_len, encN_app, tNd_wid, enc1_wid, hm]
    refine e3 _ ?_
    simp (config := { maxSteps := 2000000 }) (disch := omega) [tCD, hpO, wrap_i64, wrap_u8, encN_len, enc1_len, encN_app, tNd_wid, enc1_wid, hm]
    refine e4 _ ?_
    simp (config := { maxSteps := 2000000 }) (disch := omega) [tCD, hpO, wrap_i64, wrap_u8, encN_len, enc1_len, encN_app, tNd_wid, enc1_wid, hm]
    refine e5 _ _ ?_
    simp (config := { maxSteps := 2000000 }) (disch := omega) [tCD, hpO, wrap_i64, wrap_u8, encN_len, enc1_len, encN_app, tNd_wid, enc1_wid, hm]
    refine e6 _ _ _ ?_
    have ht : (enc1 tI O).take O.length = enc1 tI O := List.take_of_length_le (by simp [enc1])
    simp (config := { maxSteps := 2000000 }) (disch := omega) [tCD, hpO, wrap_i64, wrap_u8, encN_len, enc1_len, encN_app, tNd_wid, enc1_wid, hm, ht, hw1, a33, law03_C_Of_rv, reify, tNil]
    have ht2 : (enc1 tI (O ++ [(N4.length : Int) - 1])).take (O.length + 1) = enc1 tI (O ++ [(N4.length : Int) - 1]) := List.take_of_length_le (by simp [enc1])
    refine ⟨by omega, ?_⟩
    rw [ht2]
    simp [tC, ofC, memM, hm, tNodes, tNames, tMems, tSl, hN, hO, hNm, encN]
  · have h3 : nodes3 x = nodes2 x ++ [memN 0, memN 1] := by simp [nodes3, hm]
    have l3' : (nodes3 x).length = (nodes2 x).length + 2 := by rw [h3]; simp
    have q : encN tNd (nodes2 x) ++ [[tK 15, .sl [] (some 0) (some true), tI 0, tI 0], [tK 15, .sl [] (some 0) (some true), tI 0, tI 1]] = encN tNd (nodes3 x) := by rw [h3]; simp [encN, memN, tNd, tSl, enc1]
    have hw4 : wid 4 [[tK 15, .sl [] (some 0) (some true), tI 0, tI 0], [tK 15, .sl [] (some 0) (some true), tI 0, tI 1]] := by intro e he; simp at he; rcases he with rfl | rfl <;> rfl
    have ht0 : (encN tNd (nodes2 x)).take (nodes2 x).length = encN tNd (nodes2 x) := List.take_of_length_le (by simp [encN])
    have ht : (enc1 tI O).take O.length = enc1 tI O := List.take_of_length_le (by simp [enc1])
    have hn0 : ¬ (N4.length : Int) = 0 := by omega
    have hn0' : ¬ N4 = [] := fun e => by rw [e] at l4; simp at l4; omega
    obtain ⟨b00, b01⟩ := hx.p0
    obtain ⟨b10, b11⟩ := hx.p1
    obtain ⟨b20, b21⟩ := hx.p2
    obtain ⟨b30, b31⟩ := hx.p3
    simp only [tCD, hpO, hm] at e3 e4 e5 e6
    simp (config := { maxSteps := 2000000 }) (disch := omega) [tCD, hpO, wrap_i64, wrap_u8, encN_len, enc1_len, tNd_wid, enc1_wid, hm, ht, ht0, hw1, hw4, q, hn0, hn0', a33, law03_C_Of_rv, reify, tNil]
    refine ⟨by omega, ?_⟩
    rw [← l3']
    refine e3 _ ?_
    simp (config := { maxSteps := 2000000 }) (disch := omega) [tCD, hpO, wrap_i64, wrap_u8, encN_len, enc1_len, tNd_wid, enc1_wid, hm, ht, ht0, hw1, hw4, q, hn0, hn0', a33, law03_C_Of_rv, reify, tNil]
    refine e4 _ ?_
    simp (config := { maxSteps := 2000000 }) (disch := omega) [tCD, hpO, wrap_i64, wrap_u8, encN_len, enc1_len, tNd_wid, enc1_wid, hm, ht, ht0, hw1, hw4, q, hn0, hn0', a33, law03_C_Of_rv, reify, tNil]
    refine e5 _ _ ?_
    simp (config := { maxSteps := 2000000 }) (disch := omega) [tCD, hpO, wrap_i64, wrap_u8, encN_len, enc1_len, tNd_wid, enc1_wid, hm, ht, ht0, hw1, hw4, q, hn0, hn0', a33, law03_C_Of_rv, reify, tNil]
    refine e6 _ _ _ ?_
    simp (config := { maxSteps := 2000000 }) (disch := omega) [tCD, hpO, wrap_i64, wrap_u8, encN_len, enc1_len, tNd_wid, enc1_wid, hm, ht, ht0, hw1, hw4, q, hn0, hn0', a33, law03_C_Of_rv, reify, tNil]
    have ht2 : (enc1 tI (O ++ [(N4.length : Int) - 1])).take (O.length + 1) = enc1 tI (O ++ [(N4.length : Int) - 1]) := List.take_of_length_le (by simp [enc1])
    refine ⟨by omega, ?_⟩
    rw [ht2]
    simp [tC, ofC, memM, hm, tNodes, tNames, tMems, tSl, hN, hO, hNm, encN, tMm, enc1]
end Go.Lg

/- Circuits from plain data are such as the program may be asked about. Conditions: none. -/
set_option linter.unusedSimpArgs false
set_option linter.unusedVariables false
set_option maxRecDepth 100000
namespace Go.Lg
open Go Go.Proofs
variable {Γ : Tables}

def NdOk (x : Nd) : Prop := (0 ≤ x.k ∧ x.k ≤ 255) ∧ x.inn.l.length ≤ 1000000000

theorem gateT_ok {bus : Bool} {g : Gd} {a b d : Int} {t : List Int} (hg : GdOk g) : NdOk (gateT bus g a b d t) := by
  have m13 : 0 ≤ g.k.tmod 13 ∧ g.k.tmod 13 < 13 := tmod_lt (n := 13) hg.1.1 (by omega)
  have m9 : 0 ≤ g.k.tmod 9 ∧ g.k.tmod 9 < 9 := tmod_lt (n := 9) hg.1.1 (by omega)
  have ma : 0 ≤ g.a.tmod 2 ∧ g.a.tmod 2 < 2 := tmod_lt (n := 2) hg.2.1.1 (by omega)
  have hk : 0 ≤ (if bus then g.k.tmod 13 else g.k.tmod 9) ∧ (if bus then g.k.tmod 13 else g.k.tmod 9) < 13 := by cases bus <;> simp <;> omega
  unfold gateT
  simp only
  generalize (if bus = true then g.k.tmod 13 else g.k.tmod 9) = kk at *
  unfold NdOk
  split
  · refine ⟨⟨by simp; omega, by simp; omega⟩, ?_⟩
    simp only; split <;> simp
  split
  · simp
  split
  · simp
  split
  · simp
  split
  · simp only; split <;> simp
  split
  · simp; omega
  · simp

theorem gatesN_ok {bus : Bool} : ∀ {l : List Gd} {ns : List Nd}, (∀ g ∈ l, GdOk g) → (∀ x ∈ ns, NdOk x) → ∀ x ∈ gatesN bus l ns, NdOk x
  | [], ns, _, h => h
  | g :: l, ns, hg, h => by
    simp only [gatesN]
    refine gatesN_ok (fun y hy => hg y (List.mem_cons_of_mem _ hy)) fun y hy => ?_
    rcases List.mem_append.1 hy with hy | hy
    · exact h y hy
    · simp at hy; subst hy; exact gateT_ok (hg g List.mem_cons_self)

theorem setIn_ok {ns : List Nd} {j : Nat} {v : Int} (h : ∀ x ∈ ns, NdOk x) : ∀ x ∈ setIn ns j v, NdOk x := by
  intro x hx
  unfold setIn at hx
  rcases List.mem_or_eq_of_mem_set hx with hx | rfl
  · exact h x hx
  · refine ⟨?_, by simp⟩
    simp only [List.getD_eq_getElem?_getD]
    by_cases hj : j < ns.length
    · simp only [List.getElem?_eq_getElem hj, Option.getD_some]
      exact (h _ (List.getElem_mem hj)).1
    · simp [List.getElem?_eq_none (Nat.le_of_not_lt hj), Nd.d]
theorem dataN_ok {c : CD} {f : Nat} : ∀ {k i : Nat} {ns : List Nd}, (∀ x ∈ ns, NdOk x) → ∀ x ∈ dataN c f k i ns, NdOk x
  | 0, _, _, h => h
  | k + 1, i, ns, h => by simp only [dataN]; exact dataN_ok (setIn_ok h)

theorem nodes5_ok {x : CD} (hx : CDOk x) : ∀ n ∈ nodes5 x, NdOk n := by
  have h1 : ∀ n ∈ nodes1 x, NdOk n := fun n hn => by rw [(List.mem_replicate.1 hn).2]; simp [NdOk, inpN]
  have h2 : ∀ n ∈ nodes2 x, NdOk n := fun n hn => by
    rcases List.mem_append.1 hn with hn | hn
    · exact h1 n hn
    · rw [(List.mem_replicate.1 hn).2]; simp [NdOk, dffN]
  have h3 : ∀ n ∈ nodes3 x, NdOk n := by
    unfold nodes3
    split
    · intro n hn
      rcases List.mem_append.1 hn with hn | hn
      · exact h2 n hn
      · simp at hn; rcases hn with rfl | rfl <;> simp [NdOk, memN]
    · exact h2
  exact dataN_ok (gatesN_ok (fun g hg => hx.gates g (List.mem_of_mem_take hg)) h3)

theorem nodes4_len {x : CD} (hx : CDOk x) : 1 ≤ (nodes4 x).length ∧ (nodes4 x).length ≤ 16 := by
  have m4 : 0 ≤ x.i.tmod 4 ∧ x.i.tmod 4 < 4 := tmod_lt (n := 4) hx.i.1 (by omega)
  have m3 : 0 ≤ x.f.tmod 3 ∧ x.f.tmod 3 < 3 := tmod_lt (n := 3) hx.f.1 (by omega)
  have l2 : (nodes2 x).length = (x.i.tmod 4 + 1).toNat + (x.f.tmod 3).toNat := by simp [nodes2, nodes1]
  have l3 : (nodes2 x).length ≤ (nodes3 x).length ∧ (nodes3 x).length ≤ 8 := by unfold nodes3; split <;> simp <;> omega
  have l4 : (nodes4 x).length = (nodes3 x).length + min 8 x.gates.l.length := by unfold nodes4; rw [gatesN_len]; simp
  omega
theorem nodes5_len {x : CD} (hx : CDOk x) : (nodes5 x).length = (nodes4 x).length := dataN_len

theorem ofC_ok {x : CD} (hx : CDOk x) : COk (ofC x) := by
  have l := nodes4_len hx
  have l5 := nodes5_len hx
  have hn := nodes5_ok hx
  refine ⟨⟨?_, ?_, ?_, ?_, fun n h => (hn n h).1, fun n h => (hn n h).2, ?_⟩, ?_⟩
  · simp only [ofC]; omega
  · simp [ofC]; omega
  · simp only [ofC, memM]; split <;> simp
  · simp [ofC]; omega
  · intro m hm
    simp only [ofC, memM] at hm
    split at hm
    · simp at hm; subst hm; simp
    · cases hm
  · intro s hs b hb
    simp only [ofC] at hs
    obtain ⟨i, hi, rfl⟩ := List.mem_map.1 hs
    have := (List.mem_range'_1.1 hi).2
    have h1 : i / 10 < 10 := by omega
    have h2 : i % 10 < 10 := by omega
    have key : ∀ q : Nat, q < 10 → UInt8.ofNat (48 + q) < 128 := by decide
    simp only [nameL, List.mem_cons, List.not_mem_nil, or_false] at hb
    rcases hb with rfl | rfl | rfl
    · decide
    · exact key _ h1
    · exact key _ h2
end Go.Lg
