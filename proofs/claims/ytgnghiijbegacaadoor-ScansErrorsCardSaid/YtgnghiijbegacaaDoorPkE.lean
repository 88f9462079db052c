/- Circuits from plain data: name and gate. Conditions: none. -/
import Derived.Test.YtgnghiijbegacaaDoorPkD
import Derived.Test.YtgnghiijbegacaaDoorPkC
import Derived.Test.YtgnghiijbegacaaDoorRows
import Derived.Test.YtgnghiijbegacaaDoorCards
import Derived.Test.YtgnghiijbegacaaDoorTie
import Derived.ProofKit
import Derived.Deep.DeepHandedRow
import Derived.SevenTiedAt
import Derived.Test.YtgnghiijbegacaaDoorProg
import Derived.KernelRfl
set_option linter.unusedSimpArgs false
set_option linter.unusedVariables false
set_option maxRecDepth 100000
namespace Go.Lg
open Go Go.Proofs
variable {Γ : Tables}

structure Gd where
  k : Int
  a : Int
  b : Int
  d : Int
def tGd (g : Gd) : List T := [tK g.k, tK g.a, tK g.b, tK g.d]
structure CD where
  i : Int
  f : Int
  d0 : Int
  d1 : Int
  bus : Bool
  mem : Bool
  p0 : Int
  p1 : Int
  p2 : Int
  p3 : Int
  gates : Sl Gd
  outs : Sl Int
def tCD (x : CD) : List T := [tK x.i, tK x.f, tK x.d0, tK x.d1, tB x.bus, tB x.mem, tK x.p0, tK x.p1, tK x.p2, tK x.p3, .sl (encN tGd x.gates.l) x.gates.cap x.gates.nl, .sl (enc1 tK x.outs.l) x.outs.cap x.outs.nl]

def Byt (n : Int) : Prop := 0 ≤ n ∧ n ≤ 255
def GdOk (g : Gd) : Prop := Byt g.k ∧ Byt g.a ∧ Byt g.b ∧ Byt g.d

def nameL (i : Nat) : List UInt8 := [110, UInt8.ofNat (48 + i / 10), UInt8.ofNat (48 + i % 10)]

theorem name_spec (i : Nat) (hi : i < 100) : FreshCalls Tryd.prog Γ 40 [tI i] (tS (nameL i)) := by
  refine run_freshQ law03_name_chk rfl ?_
  have h1 : (i : Int).tdiv 10 = ((i / 10 : Nat) : Int) := by rw [Int.tdiv_eq_ediv_of_nonneg (by omega)]; omega
  have h2 : (i : Int).tmod 10 = ((i % 10 : Nat) : Int) := by rw [Int.tmod_eq_emod_of_nonneg (by omega)]; omega
  have h3 : i / 10 < 10 := by omega
  have h4 : i % 10 < 10 := by omega
  generalize hq : i / 10 = q at *
  generalize hr : i % 10 = r at *
  have e1 : (48 + (q : Int)).toNat = 48 + q := by omega
  have e2 : (48 + (r : Int)).toNat = 48 + r := by omega
  simp (disch := omega) [law03_name_ic, sV, h1, h2, wrap_i64, wrap_u8, bytesOf]
  simp [law03_name_rv, nameL, hq, hr, tS, sV, e1, e2]

def triL (nodes : List Nd) : List Int := ofL [12] nodes 0
def gateT (bus : Bool) (g : Gd) (a b d : Int) (t : List Int) : Nd :=
  let kind := if bus then g.k.tmod 13 else g.k.tmod 9
  if kind < 6 then ⟨5 + kind, if 128 ≤ g.k then ⟨[a, b, d], none, none⟩ else ⟨[a, b], none, none⟩, 0, 0⟩
  else if kind = 6 then ⟨4, ⟨[a], none, none⟩, 0, 0⟩
  else if kind = 7 then ⟨11, ⟨[a, b, d], none, none⟩, 0, 0⟩
  else if kind = 9 ∨ kind = 10 then ⟨12, ⟨[a, b], none, none⟩, 0, 0⟩
  else if 10 < kind ∧ 0 < t.length then
    let k := g.a.tmod t.length
    ⟨13, if 1 < t.length then ⟨[t.getD k.toNat 0, t.getD ((k + 1).tmod t.length).toNat 0], none, none⟩ else ⟨[t.getD k.toNat 0], none, none⟩, 0, 0⟩
  else if 240 < g.k then ⟨1 + g.a.tmod 2, ⟨[], some 0, some true⟩, 0, 0⟩
  else ⟨3, ⟨[a], none, none⟩, 0, 0⟩

def gateN (bus : Bool) (g : Gd) (nodes : List Nd) : Nd := gateT bus g (g.a.tmod nodes.length) (g.b.tmod nodes.length) (g.d.tmod nodes.length) (triL nodes)

theorem gate_loop {Q : AX → St → Prop} (nodes : List Nd) (cap : Option Nat) (nl : Option Bool) (hl : nodes.length ≤ 100) (a3 a4 a8 a9 a10 : T) (r6 : List T)
    (h0 : Q (.exit 0) ⟨[(2, .t (.sl (encN tNd nodes) cap nl)), (3, .t a3), (4, .t a4), (6, .lp 6 0 0), (7, .t (tI nodes.length)), (8, .t a8), (9, .t a9), (10, .t a10), (11, .ls 51 0 (triL nodes).length none), (12, .t (tI nodes.length)), (39, .t (tB false))], [(6, .bx (r6.map AV.t)), (51, .sl 3 1 (ints (triL nodes)))]⟩) : ∀ (k i : Nat), k + i = nodes.length →
    run Tryd.prog Γ law03_C_gate_l1 Q ⟨[(2, .t (.sl (encN tNd nodes) cap nl)), (3, .t a3), (4, .t a4), (6, .lp 6 0 0), (7, .t (tI nodes.length)), (8, .t a8), (9, .t a9), (10, .t a10), (11, .ls 51 0 (triL (nodes.take i)).length none), (12, .t (tI i))], [(6, .bx (r6.map AV.t)), (51, .sl 3 1 (ints (triL (nodes.take i))))]⟩
  | 0, i, h => by
    refine law03_C_gate_l1_run fun K hK => ?_
    have h2 : ¬ i < nodes.length := by omega
    have h3 : i = nodes.length := by omega
    simp [h2]
    subst h3
    simpa using h0
  | k + 1, i, h => by
    refine law03_C_gate_l1_run fun K hK => ?_
    have h2 : i < nodes.length := by omega
    have ht : nodes.take (i + 1) = nodes.take i ++ [nodes[i]] := by rw [List.take_add_one]; simp [h2]
    have hlen := ofL_len [12] (nodes.take i) 0
    have htl : (nodes.take i).length = i := by simp; omega
    have hal : triL (nodes.take (i + 1)) = if nodes[i].k = 12 then triL (nodes.take i) ++ [(i : Int)] else triL (nodes.take i) := by
      simp only [triL]
      rw [ht, ofL_app, htl]
      simp only [ofL, Nat.zero_add, List.contains_cons, List.contains_nil, Bool.or_false, int_beq, decide_eq_true_eq]
      split <;> simp
    have ih := gate_loop nodes cap nl hl a3 a4 a8 a9 a10 r6 h0 k (i + 1) (by omega)
    rw [hal] at ih
    simp only [triL] at ih ⊢
    by_cases h5 : nodes[i].k = 12
    · rw [if_pos h5] at ih
      have hw : wid 1 [[tI (i : Int)]] := by intro e he; simp at he; subst he; rfl
      simp (disch := omega) [h2, encN_len, encN_get Nd.d, tNd_wid, tNd, tSl, h5, wrap_i64, enc1_len, enc1_wid, hw]
      rw [hK]
      simp at ih
      rw [enc1_snoc (f := tI) (x := (i : Int))]
      exact ⟨by omega, ih⟩
    · rw [if_neg h5] at ih
      simp (disch := omega) [h2, encN_len, encN_get Nd.d, tNd_wid, tNd, tSl, h5, wrap_i64]
      rw [hK]
      simpa using ih

theorem tmod_lt {a : Int} {n : Nat} (h0 : 0 ≤ a) (h1 : 0 < n) : 0 ≤ a.tmod n ∧ a.tmod n < n := by
  rw [Int.tmod_eq_emod_of_nonneg h0]
  exact ⟨Int.emod_nonneg _ (by omega), Int.emod_lt_of_pos _ (by omega)⟩

theorem flatReg_sl {ty s : Nat} {es : List (List T)} : flatReg (.sl ty s es) = ∀ e ∈ es, ∀ t ∈ e, flatT t = true := rfl
set_option maxHeartbeats 4000000 in
theorem gate_spec (x : CD) (g : Gd) (hg : GdOk g) (nodes : List Nd) (cap : Option Nat) (nl : Option Bool) (h0 : 1 ≤ nodes.length) (h1 : nodes.length ≤ 100) :
    FreshCalls Tryd.prog Γ 39 [.agg (tCD x), .agg (tGd g), .sl (encN tNd nodes) cap nl] (.agg (tNd (gateN x.bus g nodes))) := by
  refine run_freshQ law03_C_gate_chk rfl ?_
  obtain ⟨⟨hk0, hk1⟩, ⟨ha0, ha1⟩, ⟨hb0, hb1⟩, ⟨hd0, hd1⟩⟩ := hg
  have hn0 : ¬ (nodes.length : Int) = 0 := by omega
  have hn1 : (nodes.length : Int) ≠ 0 := by omega
  have hne : ¬ nodes = [] := fun e => by subst e; simp at h0
  have hlp := fun Q a3 a4 a8 a9 a10 r6 h0 => gate_loop (Γ := Γ) (Q := Q) nodes cap nl h1 a3 a4 a8 a9 a10 r6 h0 nodes.length 0 (by omega)
  have ht := ofL_len [12] nodes 0
  simp only [triL, List.take_zero, ofL, List.length_nil, enc1_nil] at hlp
  simp (disch := omega) [law03_C_gate_ic, tCD, tGd, encN_len, wrap_i64, hn0]
  refine ⟨hne, hlp _ _ _ _ _ _ [_, _, _, _] ?_⟩
  clear hlp
  unfold gateN
  simp only [triL]
  generalize ofL [12] nodes 0 = t at *
  have m13 : 0 ≤ g.k.tmod 13 ∧ g.k.tmod 13 < 13 := tmod_lt (n := 13) hk0 (by omega)
  have m9 : 0 ≤ g.k.tmod 9 ∧ g.k.tmod 9 < 9 := tmod_lt (n := 9) hk0 (by omega)
  have ma : 0 ≤ g.a.tmod 2 ∧ g.a.tmod 2 < 2 := tmod_lt (n := 2) ha0 (by omega)
  generalize g.a.tmod nodes.length = a
  generalize g.b.tmod nodes.length = b
  generalize g.d.tmod nodes.length = d
  unfold gateT
  cases x.bus
  · generalize hkk : g.k.tmod 9 = kk at *
    by_cases k1 : kk < 6
    · by_cases k2 : 128 ≤ g.k
      · simp (disch := omega) [hkk, k1, k2, wrap_i64, wrap_u8, Later, law03_C_gate_rv, tNd, tSl, enc1, wid, reify, flatReg_sl]
      · simp (disch := omega) [hkk, k1, k2, wrap_i64, wrap_u8, Later, law03_C_gate_rv, tNd, tSl, enc1, wid, reify, flatReg_sl]
    by_cases k3 : kk = 6
    · simp (disch := omega) [hkk, k1, k3, wrap_i64, wrap_u8, Later, law03_C_gate_rv, tNd, tSl, enc1, wid, reify, flatReg_sl]
    by_cases k4 : kk = 7
    · simp (disch := omega) [hkk, k1, k4, wrap_i64, wrap_u8, Later, law03_C_gate_rv, tNd, tSl, enc1, wid, reify, flatReg_sl]
    have k5 : kk = 8 := by omega
    by_cases k6 : 240 < g.k
    · simp (disch := omega) [hkk, k5, k6, wrap_i64, wrap_u8, Later, law03_C_gate_rv, tNd, tSl, enc1, wid, reify, flatReg_sl]
    · simp (disch := omega) [hkk, k5, k6, wrap_i64, wrap_u8, Later, law03_C_gate_rv, tNd, tSl, enc1, wid, reify, flatReg_sl]
  · generalize hkk : g.k.tmod 13 = kk at *
    by_cases k1 : kk < 6
    · by_cases k2 : 128 ≤ g.k
      · simp (disch := omega) [hkk, k1, k2, wrap_i64, wrap_u8, Later, law03_C_gate_rv, tNd, tSl, enc1, wid, reify, flatReg_sl]
      · simp (disch := omega) [hkk, k1, k2, wrap_i64, wrap_u8, Later, law03_C_gate_rv, tNd, tSl, enc1, wid, reify, flatReg_sl]
    by_cases k3 : kk = 6
    · simp (disch := omega) [hkk, k1, k3, wrap_i64, wrap_u8, Later, law03_C_gate_rv, tNd, tSl, enc1, wid, reify, flatReg_sl]
    by_cases k4 : kk = 7
    · simp (disch := omega) [hkk, k1, k4, wrap_i64, wrap_u8, Later, law03_C_gate_rv, tNd, tSl, enc1, wid, reify, flatReg_sl]
    by_cases k8 : kk = 9
    · simp (disch := omega) [hkk, k8, wrap_i64, wrap_u8, Later, law03_C_gate_rv, tNd, tSl, enc1, wid, reify, flatReg_sl]
    by_cases k9 : kk = 10
    · simp (disch := omega) [hkk, k9, wrap_i64, wrap_u8, Later, law03_C_gate_rv, tNd, tSl, enc1, wid, reify, flatReg_sl]
    by_cases k10 : 10 < kk ∧ 0 < t.length
    · obtain ⟨k11, k10⟩ := k10
      have htn : ¬ (t.length : Int) = 0 := by omega
      have htne : ¬ t = [] := fun e => by subst e; simp at k10
      have htp : (0 : Int) < t.length := by omega
      have mt := tmod_lt (n := t.length) ha0 k10
      generalize hq : g.a.tmod t.length = q at *
      have mt2 := tmod_lt (a := q + 1) (n := t.length) (by omega) k10
      have hq0 : q.toNat < t.length := by omega
      generalize hq2 : (q + 1).tmod t.length = q2 at *
      have hq20 : q2.toNat < t.length := by omega
      have e1 := enc1_get (f := tI) 0 hq0
      have e2 := enc1_get (f := tI) 0 hq20
      by_cases k12 : 1 < t.length
      · have k12' : (1 : Int) < t.length := by omega
        simp (disch := omega) [hkk, k1, k3, k4, k8, k9, k11, k10, htp, htn, k12, k12', hq, hq2, e1, e2, hq0, hq20, mt.1, mt.2, mt2.1, mt2.2, htne, enc1_len, enc1_wid, wrap_i64, wrap_u8, Later, tNd, tSl, reify, flatReg_sl, law03_C_gate_rv]
        simp [wid, enc1]
      · have k12' : ¬ (1 : Int) < t.length := by omega
        simp (disch := omega) [hkk, k1, k3, k4, k8, k9, k11, k10, htp, htn, k12, k12', hq, hq2, e1, e2, hq0, hq20, mt.1, mt.2, mt2.1, mt2.2, htne, enc1_len, enc1_wid, wrap_i64, wrap_u8, Later, tNd, tSl, reify, flatReg_sl, law03_C_gate_rv]
        simp [wid, enc1]
    · by_cases k11 : 10 < kk
      · have k10' : t = [] := List.eq_nil_of_length_eq_zero (by omega)
        subst k10'
        by_cases k6 : 240 < g.k
        · simp (disch := omega) [hkk, k1, k3, k4, k8, k9, k11, k6, wrap_i64, wrap_u8, Later, law03_C_gate_rv, tNd, tSl, enc1, wid, reify, flatReg_sl]
        · simp (disch := omega) [hkk, k1, k3, k4, k8, k9, k11, k6, wrap_i64, wrap_u8, Later, law03_C_gate_rv, tNd, tSl, enc1, wid, reify, flatReg_sl]
      · have k5 : kk = 8 := by omega
        by_cases k6 : 240 < g.k
        · simp (disch := omega) [hkk, k5, k6, wrap_i64, wrap_u8, Later, law03_C_gate_rv, tNd, tSl, enc1, wid, reify, flatReg_sl]
        · simp (disch := omega) [hkk, k5, k6, wrap_i64, wrap_u8, Later, law03_C_gate_rv, tNd, tSl, enc1, wid, reify, flatReg_sl]
end Go.Lg

/- Circuits from plain data: Of. Conditions: none. -/
set_option linter.unusedSimpArgs false
set_option linter.unusedVariables false
set_option maxRecDepth 100000
namespace Go.Lg
open Go Go.Proofs
variable {Γ : Tables}

def tNil : T := .sl [] (some 0) (some true)
def hpO (nodes : List Nd) (names : List (List UInt8)) (m : T) (outs : List Int) : List (Nat × Reg) :=
  [(2, .bx [.t tNil, .t tNil, .t tNil, .t tNil]), (3, .bx [.ls 25 0 nodes.length none, .ls 144 0 names.length none, .t m, .ls 168 0 outs.length none]), (25, .sl 48 4 (encN tNd nodes)), (144, .sl 9 1 (enc1 tS names)), (168, .sl 3 1 (ints outs))]

def inpN : Nd := ⟨0, ⟨[], some 0, some true⟩, 0, 0⟩
def dffN (l : Int) : Nd := ⟨14, ⟨[l], some 1, some false⟩, 0, 0⟩
def memN (b : Int) : Nd := ⟨15, ⟨[], some 0, some true⟩, 0, b⟩

theorem of_inputs {Q : AX → St → Prop} (x : CD) (hx : Byt x.i) (R : List Nd)
    (h0 : Q (.exit 0) ⟨[(1, .t (.ip (tCD x) 0)), (2, .lp 2 0 0), (3, .lp 3 0 0), (4, .t (tI (x.i.tmod 4 + 1))), (18, .t (tB false))], hpO R [] tNil []⟩) : ∀ (k : Nat) (i : Int) (ns : List Nd), k + i = x.i.tmod 4 + 1 → ns ++ List.replicate k inpN = R → ns.length + k ≤ 100 →
    run Tryd.prog Γ law03_C_Of_l1 Q ⟨[(1, .t (.ip (tCD x) 0)), (2, .lp 2 0 0), (3, .lp 3 0 0), (4, .t (tI i))], hpO ns [] tNil []⟩
  | 0, i, ns, h, hR, hl => by
    refine law03_C_Of_l1_run fun K hK => ?_
    have m4 : 0 ≤ x.i.tmod 4 ∧ x.i.tmod 4 < 4 := tmod_lt (n := 4) hx.1 (by omega)
    have h2 : ¬ i ≤ x.i.tmod 4 := by omega
    have h3 : i = x.i.tmod 4 + 1 := by omega
    simp only [List.replicate_zero, List.append_nil] at hR
    subst hR
    simp (disch := omega) [h2, tCD, hpO, wrap_i64, wrap_u8]
    subst h3
    simpa [tCD, hpO] using h0
  | k + 1, i, ns, h, hR, hl => by
    refine law03_C_Of_l1_run fun K hK => ?_
    have m4 : 0 ≤ x.i.tmod 4 ∧ x.i.tmod 4 < 4 := tmod_lt (n := 4) hx.1 (by omega)
    have h2 : i ≤ x.i.tmod 4 := by omega
    have ih := of_inputs x hx R h0 k (i + 1) (ns ++ [inpN]) (by omega) (by rw [← hR]; simp [List.replicate_succ]) (by simp; omega)
    have q : encN tNd ns ++ [[tK 0, .sl [] (some 0) (some true), tI 0, tI 0]] = encN tNd (ns ++ [inpN]) := encN_snoc (f := tNd) (x := inpN)
    have hw4 : wid 4 [[tK 0, .sl [] (some 0) (some true), tI 0, tI 0]] := by intro e he; simp at he; subst he; rfl
    have ht : (encN tNd ns).take ns.length = encN tNd ns := List.take_of_length_le (by simp [encN])
    simp (disch := omega) [h2, tCD, hpO, wrap_i64, wrap_u8, encN_len, hw4, tNd_wid, ht, q]
    rw [hK]
    simp [tCD, hpO] at ih
    exact ⟨by omega, ih⟩

theorem of_dffs {Q : AX → St → Prop} (x : CD) (hx : Byt x.f) (first : Int) (R : List Nd)
    (h0 : Q (.exit 2) ⟨[(1, .t (.ip (tCD x) 0)), (2, .lp 2 0 0), (3, .lp 3 0 0), (5, .t (tI first)), (6, .t (tI (x.f.tmod 3))), (7, .t (tI (x.f.tmod 3))), (36, .t (tB false))], hpO R [] tNil []⟩) : ∀ (k : Nat) (i : Int) (ns : List Nd), k + i = x.f.tmod 3 → ns ++ List.replicate k (dffN 0) = R → ns.length + k ≤ 100 →
    run Tryd.prog Γ law03_C_Of_l3 Q ⟨[(1, .t (.ip (tCD x) 0)), (2, .lp 2 0 0), (3, .lp 3 0 0), (5, .t (tI first)), (6, .t (tI (x.f.tmod 3))), (7, .t (tI i))], hpO ns [] tNil []⟩
  | 0, i, ns, h, hR, hl => by
    refine law03_C_Of_l3_run fun K hK => ?_
    have m3 : 0 ≤ x.f.tmod 3 ∧ x.f.tmod 3 < 3 := tmod_lt (n := 3) hx.1 (by omega)
    have h2 : ¬ i < x.f.tmod 3 := by omega
    have h3 : i = x.f.tmod 3 := by omega
    simp only [List.replicate_zero, List.append_nil] at hR
    subst hR
    simp (disch := omega) [h2, tCD, hpO, wrap_i64, wrap_u8]
    subst h3
    simpa [tCD, hpO] using h0
  | k + 1, i, ns, h, hR, hl => by
    refine law03_C_Of_l3_run fun K hK => ?_
    have m3 : 0 ≤ x.f.tmod 3 ∧ x.f.tmod 3 < 3 := tmod_lt (n := 3) hx.1 (by omega)
    have h2 : i < x.f.tmod 3 := by omega
    have ih := of_dffs x hx first R h0 k (i + 1) (ns ++ [dffN 0]) (by omega) (by rw [← hR]; simp [List.replicate_succ]) (by simp; omega)
    have q : encN tNd ns ++ [[tK 14, .sl [[tI 0]] (some 1) (some false), tI 0, tI 0]] = encN tNd (ns ++ [dffN 0]) := encN_snoc (f := tNd) (x := dffN 0)
    have hw4 : wid 4 [[tK 14, .sl [[tI 0]] (some 1) (some false), tI 0, tI 0]] := by intro e he; simp at he; subst he; rfl
    have ht : (encN tNd ns).take ns.length = encN tNd ns := List.take_of_length_le (by simp [encN])
    simp (disch := omega) [h2, tCD, hpO, wrap_i64, wrap_u8, encN_len, hw4, tNd_wid, ht, q]
    rw [hK]
    simp [tCD, hpO] at ih
    exact ⟨by omega, ih⟩

def gatesN (bus : Bool) : List Gd → List Nd → List Nd
  | [], ns => ns
  | g :: l, ns => gatesN bus l (ns ++ [gateN bus g ns])

theorem tGd_wid {l : List Gd} : wid 4 (encN tGd l) := encN_wid fun _ => rfl
def Gd.z : Gd := ⟨0, 0, 0, 0⟩

theorem of_gates {Q : AX → St → Prop} (x : CD) (hx : ∀ g ∈ x.gates.l, GdOk g) (first dffs : Int) (R : List Nd)
    (h0 : Q (.exit 4) ⟨[(1, .t (.ip (tCD x) 0)), (2, .lp 2 0 0), (3, .lp 3 0 0), (5, .t (tI first)), (6, .t (tI dffs)), (8, .t (tI (min x.gates.l.length 8 : Nat))), (63, .t (tB false))], hpO R [] tNil []⟩) : ∀ (k i : Nat) (ns : List Nd), k + i = min x.gates.l.length 8 → gatesN x.bus ((x.gates.l.take 8).drop i) ns = R → 1 ≤ ns.length → ns.length + k ≤ 100 →
    run Tryd.prog Γ law03_C_Of_l5 Q ⟨[(1, .t (.ip (tCD x) 0)), (2, .lp 2 0 0), (3, .lp 3 0 0), (5, .t (tI first)), (6, .t (tI dffs)), (8, .t (tI i))], hpO ns [] tNil []⟩
  | 0, i, ns, h, hR, hl1, hl => by
    refine law03_C_Of_l5_run fun K hK => ?_
    rw [List.drop_of_length_le (by simp; omega)] at hR
    simp only [gatesN] at hR
    subst hR
    have hi : i = min x.gates.l.length 8 := by omega
    by_cases h2 : i < x.gates.l.length
    · have h3 : ¬ (i : Int) < 8 := by omega
      have h3' : ¬ i < 8 := by omega
      simp (disch := omega) [h2, h3, h3', tCD, hpO, encN_len]
      subst hi
      simpa [tCD, hpO] using h0
    · simp (disch := omega) [h2, tCD, hpO, encN_len]
      subst hi
      simpa [tCD, hpO] using h0
  | k + 1, i, ns, h, hR, hl1, hl => by
    refine law03_C_Of_l5_run fun K hK => ?_
    have h2 : i < x.gates.l.length := by omega
    have h3 : i < 8 := by omega
    have h3' : (i : Int) < 8 := by omega
    rw [List.drop_eq_getElem_cons (by simp; omega)] at hR
    simp only [gatesN, List.getElem_take] at hR
    have ih := of_gates x hx first dffs R h0 k (i + 1) (ns ++ [gateN x.bus x.gates.l[i] ns]) (by omega) hR (by simp) (by simp; omega)
    have hg := gate_spec (Γ := Γ) x x.gates.l[i] (hx _ (List.getElem_mem h2)) ns none none hl1 (by omega)
    generalize gateN x.bus x.gates.l[i] ns = gn at *
    have q : encN tNd ns ++ [tNd gn] = encN tNd (ns ++ [gn]) := encN_snoc (f := tNd) (x := gn)
    have hw4 : wid 4 [tNd gn] := by intro e he; simp at he; subst he; rfl
    have ht : (encN tNd ns).take ns.length = encN tNd ns := List.take_of_length_le (by simp [encN])
    have hget := encN_get (f := tGd) Gd.z h2
    simp (disch := omega) [h2, h3, h3', tCD, hpO, wrap_i64, encN_len, hget, tGd_wid, tGd]
    refine callK_fresh hg (by simp [reify, tCD, ht, tGd]) ?_
    simp [tNd] at q hw4
    simp (disch := omega) [tNd, wrap_i64, encN_len, hw4, tNd_wid, ht, q]
    rw [hK]
    simp [tCD, hpO] at ih
    exact ⟨rfl, by omega, ih⟩

def ddN (x : CD) (i : Nat) : Int := if i = 0 then x.d0 else x.d1
def setIn (ns : List Nd) (j : Nat) (v : Int) : List Nd := ns.set j ⟨(ns.getD j Nd.d).k, ⟨[v], some 1, some false⟩, (ns.getD j Nd.d).mem, (ns.getD j Nd.d).bit⟩
def dataN (x : CD) (first : Nat) : Nat → Nat → List Nd → List Nd
  | 0, _, ns => ns
  | k + 1, i, ns => dataN x first k (i + 1) (setIn ns (first + i) ((ddN x i).tmod ns.length))
theorem setIn_len {ns : List Nd} {j : Nat} {v : Int} : (setIn ns j v).length = ns.length := by simp [setIn]
theorem dataN_len {x : CD} {f : Nat} : ∀ {k i : Nat} {ns : List Nd}, (dataN x f k i ns).length = ns.length
  | 0, _, _ => rfl
  | k + 1, i, ns => by simp only [dataN]; rw [dataN_len, setIn_len]

theorem set_in {ns : List Nd} {j : Nat} {v : Int} (hj : j < ns.length) : (encN tNd ns).set j (((encN tNd ns)[j]?.getD []).take 1 ++ T.sl [[tI v]] (some 1) (some false) :: ((encN tNd ns)[j]?.getD []).drop 2) = encN tNd (setIn ns j v) := by
  rw [encN_get (f := tNd) Nd.d hj]
  unfold setIn encN
  rw [List.map_set]
  rfl

theorem of_data {Q : AX → St → Prop} (x : CD) (h0' : Byt x.d0) (h1' : Byt x.d1) (first dn n : Nat) (hdn : dn ≤ 2) (hn : 1 ≤ n ∧ n ≤ 100) (hf : first + dn ≤ n) (R : List Nd)
    (h0 : Q (.exit 6) ⟨[(1, .t (.ip (tCD x) 0)), (2, .lp 2 0 0), (3, .lp 3 0 0), (5, .t (tI first)), (6, .t (tI dn)), (9, .t (tI n)), (10, .t (tI dn)), (85, .t (tB false))], hpO R [] tNil []⟩) : ∀ (k i : Nat) (ns : List Nd), k + i = dn → dataN x first k i ns = R → ns.length = n →
    run Tryd.prog Γ law03_C_Of_l7 Q ⟨[(1, .t (.ip (tCD x) 0)), (2, .lp 2 0 0), (3, .lp 3 0 0), (5, .t (tI first)), (6, .t (tI dn)), (9, .t (tI n)), (10, .t (tI i))], hpO ns [] tNil []⟩
  | 0, i, ns, h, hR, hl => by
    refine law03_C_Of_l7_run fun K hK => ?_
    simp only [dataN] at hR
    subst hR
    have h2 : ¬ i < dn := by omega
    have h3 : i = dn := by omega
    simp (disch := omega) [h2, tCD, hpO]
    subst h3
    simpa [tCD, hpO] using h0
  | k + 1, i, ns, h, hR, hl => by
    refine law03_C_Of_l7_run fun K hK => ?_
    have h2 : i < dn := by omega
    simp only [dataN] at hR
    have ih := of_data x h0' h1' first dn n hdn hn hf R h0 k (i + 1) _ (by omega) hR (by rw [setIn_len]; exact hl)
    have hi : i = 0 ∨ i = 1 := by omega
    have hj : first + i < ns.length := by omega
    have hn0 : ¬ (n : Int) = 0 := by omega
    have hget := encN_get (f := tNd) Nd.d hj
    obtain ⟨h01, h02⟩ := h0'
    obtain ⟨h11, h12⟩ := h1'
    have hs := fun v => set_in (v := v) hj
    have hn' : ¬ n = 0 := by omega
    have hfi : first + i < n := by omega
    rcases hi with rfl | rfl
    · have hdd : ddN x 0 = x.d0 := rfl
      have h2' : (0 : Int) < dn := by omega
      rw [hdd, hl] at ih
      simp only [Nat.add_zero] at hs hfi ih
      simp (disch := omega) [h2, h2', tCD, hpO, wrap_i64, encN_len, tNd_wid, hn0, hl, hs, hn', hfi]
      rw [hK]
      simp [tCD, hpO, setIn_len, hl] at ih
      exact ih
    · have hdd : ddN x 1 = x.d1 := rfl
      have h2' : (1 : Int) < dn := by omega
      rw [hdd, hl] at ih
      have hfn : ((first : Int) + 1).toNat = first + 1 := by omega
      have hfi' : (first : Int) + 1 < n := by omega
      simp (disch := omega) [h2, h2', tCD, hpO, wrap_i64, encN_len, tNd_wid, hn0, hl, hs, hn', hfi, hfn, hfi']
      rw [hK]
      simp [tCD, hpO, setIn_len, hl] at ih
      exact ⟨by omega, ih⟩
theorem of_names {Q : AX → St → Prop} (x : CD) (n : Nat) (hn : n ≤ 100) (ns : List Nd) (m : T) (R : List (List UInt8))
    (h0 : Q (.exit 8) ⟨[(1, .t (.ip (tCD x) 0)), (2, .lp 2 0 0), (3, .lp 3 0 0), (9, .t (tI n)), (11, .t (tI n)), (136, .t (tB false))], hpO ns R m []⟩) : ∀ (k i : Nat) (nms : List (List UInt8)), k + i = n → nms ++ (List.range' i k).map nameL = R → nms.length = i →
    run Tryd.prog Γ law03_C_Of_l9 Q ⟨[(1, .t (.ip (tCD x) 0)), (2, .lp 2 0 0), (3, .lp 3 0 0), (9, .t (tI n)), (11, .t (tI i))], hpO ns nms m []⟩
  | 0, i, nms, h, hR, hl => by
    refine law03_C_Of_l9_run fun K hK => ?_
    simp only [List.range'_zero, List.map_nil, List.append_nil] at hR
    subst hR
    have h2 : ¬ i < n := by omega
    have h3 : i = n := by omega
    simp (disch := omega) [h2, tCD, hpO]
    subst h3
    simpa [tCD, hpO] using h0
  | k + 1, i, nms, h, hR, hl => by
    refine law03_C_Of_l9_run fun K hK => ?_
    have h2 : i < n := by omega
    rw [List.range'_succ, List.map_cons] at hR
    have ih := of_names x n hn ns m R h0 k (i + 1) (nms ++ [nameL i]) (by omega) (by rw [← hR]; simp) (by simp; omega)
    have e := name_spec (Γ := Γ) i (by omega)
    have q : enc1 tS nms ++ [[tS (nameL i)]] = enc1 tS (nms ++ [nameL i]) := enc1_snoc
    have ht : (enc1 tS nms).take i = enc1 tS nms := List.take_of_length_le (by simp [enc1]; omega)
    generalize nameL i = nm at *
    have hw : wid 1 [[tS nm]] := by intro e he; simp at he; subst he; rfl
    simp (disch := omega) [h2, tCD, hpO, wrap_i64, hl]
    refine callK_fresh e rfl ?_
    simp only [tS, sV] at q hw
    simp (disch := omega) [tS, sV, wrap_i64, enc1_len, hw, enc1_wid, ht, q, hl]
    rw [hK]
    simp [tCD, hpO, hl] at ih
    exact ⟨by omega, ih⟩

theorem of_outs {Q : AX → St → Prop} (x : CD) (hx : ∀ b ∈ x.outs.l, Byt b) (n : Nat) (hn : 1 ≤ n ∧ n ≤ 100) (ns : List Nd) (nms : List (List UInt8)) (m : T) (R : List Int)
    (h0 : Q (.exit 10) ⟨[(1, .t (.ip (tCD x) 0)), (2, .lp 2 0 0), (3, .lp 3 0 0), (9, .t (tI n)), (12, .t (tI (min x.outs.l.length 3 : Nat))), (154, .t (tB false))], hpO ns nms m R⟩) : ∀ (k i : Nat) (os : List Int), k + i = min x.outs.l.length 3 → os ++ ((x.outs.l.take 3).drop i).map (fun b => b.tmod n) = R → os.length = i →
    run Tryd.prog Γ law03_C_Of_l11 Q ⟨[(1, .t (.ip (tCD x) 0)), (2, .lp 2 0 0), (3, .lp 3 0 0), (9, .t (tI n)), (12, .t (tI i))], hpO ns nms m os⟩
  | 0, i, os, h, hR, hl => by
    refine law03_C_Of_l11_run fun K hK => ?_
    rw [List.drop_of_length_le (by simp; omega)] at hR
    simp only [List.map_nil, List.append_nil] at hR
    subst hR
    have hi : i = min x.outs.l.length 3 := by omega
    by_cases h2 : i < x.outs.l.length
    · have h3 : ¬ (i : Int) < 3 := by omega
      have h3' : ¬ i < 3 := by omega
      simp (disch := omega) [h2, h3, h3', tCD, hpO, enc1_len]
      subst hi
      simpa [tCD, hpO] using h0
    · simp (disch := omega) [h2, tCD, hpO, enc1_len]
      subst hi
      simpa [tCD, hpO] using h0
  | k + 1, i, os, h, hR, hl => by
    refine law03_C_Of_l11_run fun K hK => ?_
    have h2 : i < x.outs.l.length := by omega
    have h3 : i < 3 := by omega
    have h3' : (i : Int) < 3 := by omega
    rw [List.drop_eq_getElem_cons (by simp; omega)] at hR
    simp only [List.map_cons, List.getElem_take] at hR
    have hb := hx _ (List.getElem_mem h2)
    obtain ⟨hb0, hb1⟩ := hb
    have hget := enc1_get (f := tK) 0 h2
    have hg2 : x.outs.l[i]?.getD 0 = x.outs.l[i] := by simp [h2]
    rw [hg2] at hget
    generalize x.outs.l[i] = b at *
    have hn0 : ¬ (n : Int) = 0 := by omega
    have hn0' : ¬ n = 0 := by omega
    have ih := of_outs x hx n hn ns nms m R h0 k (i + 1) (os ++ [b.tmod n]) (by omega) (by rw [← hR]; simp) (by simp; omega)
    have q : enc1 tI os ++ [[tI (b.tmod n)]] = enc1 tI (os ++ [b.tmod n]) := enc1_snoc
    have ht : (enc1 tI os).take i = enc1 tI os := List.take_of_length_le (by simp [enc1]; omega)
    have hw : wid 1 [[tI (b.tmod n)]] := by intro e he; simp at he; subst he; rfl
    simp (disch := omega) [h2, h3, h3', tCD, hpO, wrap_i64, enc1_len, enc1_wid, hget, hn0, hn0', hw, ht, q, hl]
    rw [hK]
    simp [tCD, hpO, hl] at ih
    exact ⟨by omega, ih⟩

def nodes1 (x : CD) : List Nd := List.replicate (x.i.tmod 4 + 1).toNat inpN
def nodes2 (x : CD) : List Nd := nodes1 x ++ List.replicate (x.f.tmod 3).toNat (dffN 0)
def nodes3 (x : CD) : List Nd := if x.mem then nodes2 x ++ [memN 0, memN 1] else nodes2 x
def nodes4 (x : CD) : List Nd := gatesN x.bus (x.gates.l.take 8) (nodes3 x)
def nodes5 (x : CD) : List Nd := dataN x (nodes1 x).length (x.f.tmod 3).toNat 0 (nodes4 x)
def memM (x : CD) (n : Int) : List Mm := if x.mem then [⟨⟨[x.p0.tmod n], some 1, some false⟩, ⟨[x.p1.tmod n, x.p2.tmod n], some 2, some false⟩, x.p3.tmod n⟩] else []
def ofC (x : CD) : Cir :=
  ⟨⟨nodes5 x, none, none⟩, ⟨(List.range' 0 (nodes4 x).length).map nameL, none, none⟩, ⟨memM x (nodes4 x).length, some (if x.mem then 1 else 0), some (!x.mem)⟩, ⟨(x.outs.l.take 3).map (fun b => b.tmod (nodes4 x).length) ++ [((nodes4 x).length : Int) - 1], none, none⟩⟩

structure CDOk (x : CD) : Prop where
  i : Byt x.i
  f : Byt x.f
  d0 : Byt x.d0
  d1 : Byt x.d1
  p0 : Byt x.p0
  p1 : Byt x.p1
  p2 : Byt x.p2
  p3 : Byt x.p3
  gates : ∀ g ∈ x.gates.l, GdOk g
  outs : ∀ b ∈ x.outs.l, Byt b

theorem gatesN_len {bus : Bool} : ∀ {l : List Gd} {ns : List Nd}, (gatesN bus l ns).length = ns.length + l.length
  | [], ns => rfl
  | g :: l, ns => by simp only [gatesN]; rw [gatesN_len]; simp; omega

set_option maxHeartbeats 4000000 in
theorem Of_spec (x : CD) (hx : CDOk x) : PureCalls Tryd.prog Γ 12 [.agg (tCD x)] (.agg (tC (ofC x))) := by
  refine run_pureQ law03_C_Of_chk rfl ?_
  have m4 : 0 ≤ x.i.tmod 4 ∧ x.i.tmod 4 < 4 := tmod_lt (n := 4) hx.i.1 (by omega)
  have m3 : 0 ≤ x.f.tmod 3 ∧ x.f.tmod 3 < 3 := tmod_lt (n := 3) hx.f.1 (by omega)
  have l1 : (nodes1 x).length = (x.i.tmod 4 + 1).toNat := by simp [nodes1]
  have l2 : (nodes2 x).length = (x.i.tmod 4 + 1).toNat + (x.f.tmod 3).toNat := by simp [nodes2, nodes1]
  have l3 : (nodes2 x).length ≤ (nodes3 x).length ∧ (nodes3 x).length ≤ 8 := by unfold nodes3; split <;> simp <;> omega
  have l4 : (nodes4 x).length = (nodes3 x).length + min 8 x.gates.l.length := by unfold nodes4; rw [gatesN_len]; simp
  have l5 : (nodes5 x).length = (nodes4 x).length := dataN_len
  have e1 := fun Q h0 => of_inputs (Γ := Γ) (Q := Q) x hx.i (nodes1 x) h0 (x.i.tmod 4 + 1).toNat 0 [] (by omega) rfl (by simp; omega)
  have e2 := fun Q h0 => of_dffs (Γ := Γ) (Q := Q) x hx.f (nodes1 x).length (nodes2 x) h0 (x.f.tmod 3).toNat 0 (nodes1 x) (by omega) rfl (by omega)
  have e3 := fun Q h0 => of_gates (Γ := Γ) (Q := Q) x hx.gates (nodes1 x).length (x.f.tmod 3) (nodes4 x) h0 (min x.gates.l.length 8) 0 (nodes3 x) (by omega) rfl (by omega) (by omega)
  have e4 := fun Q h0 => of_data (Γ := Γ) (Q := Q) x hx.d0 hx.d1 (nodes1 x).length (x.f.tmod 3).toNat (nodes4 x).length (by omega) (by omega) (by omega) (nodes5 x) h0 (x.f.tmod 3).toNat 0 (nodes4 x) (by omega) rfl rfl
  have e5 := fun Q m h0 => of_names (Γ := Γ) (Q := Q) x (nodes4 x).length (by omega) (nodes5 x) m _ h0 (nodes4 x).length 0 [] (by omega) rfl rfl
  have e6 := fun Q nms m h0 => of_outs (Γ := Γ) (Q := Q) x hx.outs (nodes4 x).length (by omega) (nodes5 x) nms m _ h0 (min x.outs.l.length 3) 0 [] (by omega) rfl rfl
  have hc : ((x.f.tmod 3).toNat : Int) = x.f.tmod 3 := by omega
  rw [hc] at e4
  have hk1 := fun {s : Nat} {e : List (List T)} {n : Nat} (h : e.length ≤ n) => List.take_of_length_le h
  have a33 : ∀ {os : List Int}, enc1 tI os ++ [[tI (((nodes4 x).length : Int) - 1)]] = enc1 tI (os ++ [((nodes4 x).length : Int) - 1]) := enc1_snoc
  have hw1 : wid 1 [[tI (((nodes4 x).length : Int) - 1)]] := by intro e he; simp at he; subst he; rfl
  have hol : ((x.outs.l.take 3).map (fun b => b.tmod ((nodes4 x).length : Int))).length = min 3 x.outs.l.length := by simp
  have hnl : ((List.range' 0 (nodes4 x).length).map nameL).length = (nodes4 x).length := by simp
  simp only [List.nil_append, List.drop_zero] at e5 e6
  generalize hN : nodes4 x = N4 at *
  generalize hO : (x.outs.l.take 3).map (fun b => b.tmod (N4.length : Int)) = O at *
  generalize hNm : (List.range' 0 N4.length).map nameL = Nm at *
  simp (config := { maxSteps := 2000000 }) [law03_C_Of_ic, tCD]
  refine e1 _ ?_
  simp (config := { maxSteps := 2000000 }) (disch := omega) [tCD, hpO, wrap_i64, wrap_u8, encN_len]
  refine e2 _ ?_
  cases hm : x.mem
  · have h3 : nodes3 x = nodes2 x := by simp [nodes3, hm]
    rw [h3] at e3 l3 l4
    simp only [tCD, hpO, hm] at e3 e4 e5 e6
    simp (config := { maxSteps := 2000000 }) (disch := omega) [tCD, hpO, wrap_i64, wrap_u8, encN_len, enc1_len, encN_app, tNd_wid, enc1_wid, hm]
    refine e3 _ ?_
    simp (config := { maxSteps := 2000000 }) (disch := omega) [tCD, hpO, wrap_i64, wrap_u8, encN_len, enc1_len, encN_app, tNd_wid, enc1_wid, hm]
    refine e4 _ ?_
    simp (config := { maxSteps := 2000000 }) (disch := omega) [tCD, hpO, wrap_i64, wrap_u8, encN_len, enc1_len, encN_app, tNd_wid, enc1_wid, hm]
    refine e5 _ _ ?_
    simp (config := { maxSteps := 2000000 }) (disch := omega) [tCD, hpO, wrap_i64, wrap_u8, encN_len, enc1_len, encN_app, tNd_wid, enc1_wid, hm]
    refine e6 _ _ _ ?_
    have ht : (enc1 tI O).take O.length = enc1 tI O := List.take_of_length_le (by simp [enc1])
    simp (config := { maxSteps := 2000000 }) (disch := omega) [tCD, hpO, wrap_i64, wrap_u8, encN_len, enc1_len, encN_app, tNd_wid, enc1_wid, hm, ht, hw1, a33, law03_C_Of_rv, reify, tNil]
    have ht2 : (enc1 tI (O ++ [(N4.length : Int) - 1])).take (O.length + 1) = enc1 tI (O ++ [(N4.length : Int) - 1]) := List.take_of_length_le (by simp [enc1])
    refine ⟨by omega, ?_⟩
    rw [ht2]
    simp [tC, ofC, memM, hm, tNodes, tNames, tMems, tSl, hN, hO, hNm, encN]
  · have h3 : nodes3 x = nodes2 x ++ [memN 0, memN 1] := by simp [nodes3, hm]
    have l3' : (nodes3 x).length = (nodes2 x).length + 2 := by rw [h3]; simp
    have q : encN tNd (nodes2 x) ++ [[tK 15, .sl [] (some 0) (some true), tI 0, tI 0], [tK 15, .sl [] (some 0) (some true), tI 0, tI 1]] = encN tNd (nodes3 x) := by rw [h3]; simp [encN, memN, tNd, tSl, enc1]
    have hw4 : wid 4 [[tK 15, .sl [] (some 0) (some true), tI 0, tI 0], [tK 15, .sl [] (some 0) (some true), tI 0, tI 1]] := by intro e he; simp at he; rcases he with rfl | rfl <;> rfl
    have ht0 : (encN tNd (nodes2 x)).take (nodes2 x).length = encN tNd (nodes2 x) := List.take_of_length_le (by simp [encN])
    have ht : (enc1 tI O).take O.length = enc1 tI O := List.take_of_length_le (by simp [enc1])
    have hn0 : ¬ (N4.length : Int) = 0 := by omega
    have hn0' : ¬ N4 = [] := fun e => by rw [e] at l4; simp at l4; omega
    obtain ⟨b00, b01⟩ := hx.p0
    obtain ⟨b10, b11⟩ := hx.p1
    obtain ⟨b20, b21⟩ := hx.p2
    obtain ⟨b30, b31⟩ := hx.p3
    simp only [tCD, hpO, hm] at e3 e4 e5 e6
    simp (config := { maxSteps := 2000000 }) (disch := omega) [tCD, hpO, wrap_i64, wrap_u8, encN_len, enc1_len, tNd_wid, enc1_wid, hm, ht, ht0, hw1, hw4, q, hn0, hn0', a33, law03_C_Of_rv, reify, tNil]
    refine ⟨by omega, ?_⟩
    rw [← l3']
    refine e3 _ ?_
    simp (config := { maxSteps := 2000000 }) (disch := omega) [tCD, hpO, wrap_i64, wrap_u8, encN_len, enc1_len, tNd_wid, enc1_wid, hm, ht, ht0, hw1, hw4, q, hn0, hn0', a33, law03_C_Of_rv, reify, tNil]
    refine e4 _ ?_
    simp (config := { maxSteps := 2000000 }) (disch := omega) [tCD, hpO, wrap_i64, wrap_u8, encN_len, enc1_len, tNd_wid, enc1_wid, hm, ht, ht0, hw1, hw4, q, hn0, hn0', a33, law03_C_Of_rv, reify, tNil]
    refine e5 _ _ ?_
    simp (config := { maxSteps := 2000000 }) (disch := omega) [tCD, hpO, wrap_i64, wrap_u8, encN_len, enc1_len, tNd_wid, enc1_wid, hm, ht, ht0, hw1, hw4, q, hn0, hn0', a33, law03_C_Of_rv, reify, tNil]
    refine e6 _ _ _ ?_
    simp (config := { maxSteps := 2000000 }) (disch := omega) [tCD, hpO, wrap_i64, wrap_u8, encN_len, enc1_len, tNd_wid, enc1_wid, hm, ht, ht0, hw1, hw4, q, hn0, hn0', a33, law03_C_Of_rv, reify, tNil]
    have ht2 : (enc1 tI (O ++ [(N4.length : Int) - 1])).take (O.length + 1) = enc1 tI (O ++ [(N4.length : Int) - 1]) := List.take_of_length_le (by simp [enc1])
    refine ⟨by omega, ?_⟩
    rw [ht2]
    simp [tC, ofC, memM, hm, tNodes, tNames, tMems, tSl, hN, hO, hNm, encN, tMm, enc1]
end Go.Lg

/- Circuits from plain data are such as the program may be asked about. Conditions: none. -/
set_option linter.unusedSimpArgs false
set_option linter.unusedVariables false
set_option maxRecDepth 100000
namespace Go.Lg
open Go Go.Proofs
variable {Γ : Tables}

def NdOk (x : Nd) : Prop := (0 ≤ x.k ∧ x.k ≤ 255) ∧ x.inn.l.length ≤ 1000000000

theorem gateT_ok {bus : Bool} {g : Gd} {a b d : Int} {t : List Int} (hg : GdOk g) : NdOk (gateT bus g a b d t) := by
  have m13 : 0 ≤ g.k.tmod 13 ∧ g.k.tmod 13 < 13 := tmod_lt (n := 13) hg.1.1 (by omega)
  have m9 : 0 ≤ g.k.tmod 9 ∧ g.k.tmod 9 < 9 := tmod_lt (n := 9) hg.1.1 (by omega)
  have ma : 0 ≤ g.a.tmod 2 ∧ g.a.tmod 2 < 2 := tmod_lt (n := 2) hg.2.1.1 (by omega)
  have hk : 0 ≤ (if bus then g.k.tmod 13 else g.k.tmod 9) ∧ (if bus then g.k.tmod 13 else g.k.tmod 9) < 13 := by cases bus <;> simp <;> omega
  unfold gateT
  simp only
  generalize (if bus = true then g.k.tmod 13 else g.k.tmod 9) = kk at *
  unfold NdOk
  split
  · refine ⟨⟨by simp; omega, by simp; omega⟩, ?_⟩
    simp only; split <;> simp
  split
  · simp
  split
  · simp
  split
  · simp
  split
  · simp only; split <;> simp
  split
  · simp; omega
  · simp

theorem gatesN_ok {bus : Bool} : ∀ {l : List Gd} {ns : List Nd}, (∀ g ∈ l, GdOk g) → (∀ x ∈ ns, NdOk x) → ∀ x ∈ gatesN bus l ns, NdOk x
  | [], ns, _, h => h
  | g :: l, ns, hg, h => by
    simp only [gatesN]
    refine gatesN_ok (fun y hy => hg y (List.mem_cons_of_mem _ hy)) fun y hy => ?_
    rcases List.mem_append.1 hy with hy | hy
    · exact h y hy
    · simp at hy; subst hy; exact gateT_ok (hg g List.mem_cons_self)

theorem setIn_ok {ns : List Nd} {j : Nat} {v : Int} (h : ∀ x ∈ ns, NdOk x) : ∀ x ∈ setIn ns j v, NdOk x := by
  intro x hx
  unfold setIn at hx
  rcases List.mem_or_eq_of_mem_set hx with hx | rfl
  · exact h x hx
  · refine ⟨?_, by simp⟩
    simp only [List.getD_eq_getElem?_getD]
    by_cases hj : j < ns.length
    · simp only [List.getElem?_eq_getElem hj, Option.getD_some]
      exact (h _ (List.getElem_mem hj)).1
    · simp [List.getElem?_eq_none (Nat.le_of_not_lt hj), Nd.d]
theorem dataN_ok {c : CD} {f : Nat} : ∀ {k i : Nat} {ns : List Nd}, (∀ x ∈ ns, NdOk x) → ∀ x ∈ dataN c f k i ns, NdOk x
  | 0, _, _, h => h
  | k + 1, i, ns, h => by simp only [dataN]; exact dataN_ok (setIn_ok h)

theorem nodes5_ok {x : CD} (hx : CDOk x) : ∀ n ∈ nodes5 x, NdOk n := by
  have h1 : ∀ n ∈ nodes1 x, NdOk n := fun n hn => by rw [(List.mem_replicate.1 hn).2]; simp [NdOk, inpN]
  have h2 : ∀ n ∈ nodes2 x, NdOk n := fun n hn => by
    rcases List.mem_append.1 hn with hn | hn
    · exact h1 n hn
    · rw [(List.mem_replicate.1 hn).2]; simp [NdOk, dffN]
  have h3 : ∀ n ∈ nodes3 x, NdOk n := by
    unfold nodes3
    split
    · intro n hn
      rcases List.mem_append.1 hn with hn | hn
      · exact h2 n hn
      · simp at hn; rcases hn with rfl | rfl <;> simp [NdOk, memN]
    · exact h2
  exact dataN_ok (gatesN_ok (fun g hg => hx.gates g (List.mem_of_mem_take hg)) h3)

theorem nodes4_len {x : CD} (hx : CDOk x) : 1 ≤ (nodes4 x).length ∧ (nodes4 x).length ≤ 16 := by
  have m4 : 0 ≤ x.i.tmod 4 ∧ x.i.tmod 4 < 4 := tmod_lt (n := 4) hx.i.1 (by omega)
  have m3 : 0 ≤ x.f.tmod 3 ∧ x.f.tmod 3 < 3 := tmod_lt (n := 3) hx.f.1 (by omega)
  have l2 : (nodes2 x).length = (x.i.tmod 4 + 1).toNat + (x.f.tmod 3).toNat := by simp [nodes2, nodes1]
  have l3 : (nodes2 x).length ≤ (nodes3 x).length ∧ (nodes3 x).length ≤ 8 := by unfold nodes3; split <;> simp <;> omega
  have l4 : (nodes4 x).length = (nodes3 x).length + min 8 x.gates.l.length := by unfold nodes4; rw [gatesN_len]; simp
  omega
theorem nodes5_len {x : CD} (hx : CDOk x) : (nodes5 x).length = (nodes4 x).length := dataN_len

theorem ofC_ok {x : CD} (hx : CDOk x) : COk (ofC x) := by
  have l := nodes4_len hx
  have l5 := nodes5_len hx
  have hn := nodes5_ok hx
  refine ⟨⟨?_, ?_, ?_, ?_, fun n h => (hn n h).1, fun n h => (hn n h).2, ?_⟩, ?_⟩
  · simp only [ofC]; omega
  · simp [ofC]; omega
  · simp only [ofC, memM]; split <;> simp
  · simp [ofC]; omega
  · intro m hm
    simp only [ofC, memM] at hm
    split at hm
    · simp at hm; subst hm; simp
    · cases hm
  · intro s hs b hb
    simp only [ofC] at hs
    obtain ⟨i, hi, rfl⟩ := List.mem_map.1 hs
    have := (List.mem_range'_1.1 hi).2
    have h1 : i / 10 < 10 := by omega
    have h2 : i % 10 < 10 := by omega
    have key : ∀ q : Nat, q < 10 → UInt8.ofNat (48 + q) < 128 := by decide
    simp only [nameL, List.mem_cons, List.not_mem_nil, or_false] at hb
    rcases hb with rfl | rfl | rfl
    · decide
    · exact key _ h1
    · exact key _ h2
end Go.Lg

/- The seat's rows: what their arguments and the listed table give. Conditions: none. -/
set_option linter.unusedSimpArgs false
set_option linter.unusedVariables false
set_option maxRecDepth 100000
namespace Go.Lg
open Go Go.Proofs Go.Proofs.YtgnghiijbegacaaDoor

def G0 (g : Nat) : Option (List T) := if g = 0 then some fanC else none
theorem G0_ok : GOk G0 := rfl

theorem gFan : Tryd.prog.globalNamed "probecard/logic.fanins" = some 0 := by kernel_rfl
theorem gFanTy : (Tryd.prog.globals[0]?).map (·.type) = some 173 := by kernel_rfl
theorem cells3 : Tryd.prog.cellsOf 3 = 1 := by kernel_rfl
theorem cells4 : Tryd.prog.cellsOf 4 = 1 := by kernel_rfl
theorem cells5 : Tryd.prog.cellsOf 5 = 1 := by kernel_rfl
theorem cells22 : Tryd.prog.cellsOf 22 = 2 := by kernel_rfl
theorem cells23 : Tryd.prog.cellsOf 23 = 4 := by kernel_rfl
theorem cells24 : Tryd.prog.cellsOf 24 = 1 := by kernel_rfl
theorem cells25 : Tryd.prog.cellsOf 25 = 1 := by kernel_rfl
theorem cells27 : Tryd.prog.cellsOf 27 = 12 := by kernel_rfl
theorem cells31 : Tryd.prog.cellsOf 31 = 1 := by kernel_rfl
theorem cells98 : Tryd.prog.cellsOf 98 = 3 := by kernel_rfl
theorem cells100 : Tryd.prog.cellsOf 100 = 4 := by kernel_rfl
theorem cells172 : Tryd.prog.cellsOf 172 = 2 := by kernel_rfl
theorem cells173 : Tryd.prog.cellsOf 173 = 32 := by kernel_rfl

theorem fan_cells {W : World} (h : laidMet Tryd.prog [("probecard/logic.fanins", Rows.laid_probecard_logic_fanins)] W) : ∀ j, j < 32 → W.cell? ⟨0, j, none⟩ = (fanL.flatMap fun x => [Value.int .i64 x.1, Value.int .i64 x.2])[j]? := by
  obtain ⟨ps, ⟨g', t', cs, fuel, p, q, hg', ht', hvar, hd, _, _⟩, _⟩ := h
  obtain rfl := Option.some.inj (gFan.symm.trans hg')
  obtain rfl := Option.some.inj (gFanTy.symm.trans ht')
  have hc := pair_cells (l := fanL) Tryd.underlying173 Tryd.underlying172 Tryd.underlying3 cells3 cells172 cells173 hd
  intro j hj
  have := World.var?_cell gFan hvar j
  rw [this, ← hc]
  simp

theorem fan_gl {W : World} (h : laidMet Tryd.prog [("probecard/logic.fanins", Rows.laid_probecard_logic_fanins)] W) : Gl G0 W (Old W) := by
  have hc := fan_cells h
  intro g cs hg
  unfold G0 at hg
  split at hg
  case isFalse => cases hg
  rename_i h0; subst h0
  simp only [Option.some.injEq] at hg
  subst hg
  have hlen : (fanL.flatMap fun x => [Value.int .i64 x.1, Value.int .i64 x.2]).length = 32 := rfl
  have hfc : fanC = (fanL.flatMap fun x => [Value.int .i64 x.1, Value.int .i64 x.2]).map T.v := rfl
  have hfl : fanC.length = 32 := rfl
  refine .ip fanC 0 0 0 (fun j => (fanL.flatMap fun x => [Value.int .i64 x.1, Value.int .i64 x.2])[j]?.getD .nilFunc) ?_ ?_ ?_ ?_
  · intro j hj
    rw [Nat.zero_add, hc j (by omega)]
    rw [List.getElem?_eq_getElem (by omega)]; rfl
  · intro j t ht
    rw [hfc, List.getElem?_map, Option.map_eq_some_iff] at ht
    obtain ⟨v, hv, rfl⟩ := ht
    simp only [hv, Option.getD_some]
    exact .v v
  · intro j t ht
    rw [hfc, List.getElem?_map, Option.map_eq_some_iff] at ht
    obtain ⟨v, hv, rfl⟩ := ht
    have hm := List.mem_of_getElem? hv
    obtain ⟨x, _, hx⟩ := List.mem_flatMap.1 hm
    simp at hx
    rcases hx with rfl | rfl <;> rfl
  · have := hc 0 (by omega)
    rw [List.getElem?_eq_getElem (by omega)] at this
    exact cell_lt this

theorem u8_byt {n : Int} (h : (Lit.int .u8 n).wf = true) : Byt n := by
  simp [Lit.wf, IntKind.min, IntKind.max, IntKind.signed, IntKind.bits] at h
  exact ⟨h.1, by omega⟩
theorem rdU8 : Rd Tryd.prog 5 fun ts => ∃ n, ts = [tK n] ∧ Byt n := (rd_int Tryd.underlying5).mono fun ts ⟨n, h, hw⟩ => ⟨n, h, u8_byt hw⟩
theorem rdInt : Rd Tryd.prog 3 fun ts => ∃ n, ts = [tI n] := (rd_int Tryd.underlying3).mono fun ts ⟨n, h, _⟩ => ⟨n, h⟩

theorem list_of {α : Type} {f : α → List T} {Q : α → Prop} : ∀ {es : List (List T)}, (∀ x ∈ es, ∃ a, x = f a ∧ Q a) → ∃ l : List α, es = l.map f ∧ ∀ a ∈ l, Q a
  | [], _ => ⟨[], rfl, by simp⟩
  | e :: es, h => by
    obtain ⟨a, ha, hq⟩ := h e List.mem_cons_self
    obtain ⟨l, hl, hql⟩ := list_of fun x hx => h x (List.mem_cons_of_mem _ hx)
    exact ⟨a :: l, by rw [ha, hl]; rfl, fun b hb => by rcases List.mem_cons.1 hb with rfl | hb; exact hq; exact hql b hb⟩

theorem rdGd : Rd Tryd.prog 100 fun ts => ∃ g, ts = tGd g ∧ GdOk g := by
  refine (rd_struct (l := [(1, fun ts => ∃ n, ts = [tK n] ∧ Byt n), (3, Parts (List.replicate 3 (1, fun ts => ∃ n, ts = [tK n] ∧ Byt n)))]) Tryd.underlying100 cells100 (.cons rfl cells5 rdU8 (.cons rfl cells98 (rd_array Tryd.underlying98 cells5 cells98 rdU8) (.nil _)))).mono fun ts h => ?_
  obtain ⟨_, _, rfl, ⟨k, rfl, hk⟩, _, _, rfl, ⟨_, _, rfl, ⟨a, rfl, ha⟩, _, _, rfl, ⟨b, rfl, hb⟩, _, _, rfl, ⟨d, rfl, hd⟩, rfl⟩, rfl⟩ := h
  exact ⟨⟨k, a, b, d⟩, rfl, hk, ha, hb, hd⟩

theorem rdCD : Rd Tryd.prog 27 fun ts => ∃ x, ts = tCD x ∧ CDOk x := by
  refine (rd_struct (l := [(1, fun ts => ∃ n, ts = [tK n] ∧ Byt n), (1, fun ts => ∃ n, ts = [tK n] ∧ Byt n), (2, Parts (List.replicate 2 (1, fun ts => ∃ n, ts = [tK n] ∧ Byt n))), (1, fun ts => ∃ b, ts = [tB b]), (1, fun ts => ∃ b, ts = [tB b]), (4, Parts (List.replicate 4 (1, fun ts => ∃ n, ts = [tK n] ∧ Byt n))), (1, _), (1, _)]) Tryd.underlying27 cells27
    (.cons rfl cells5 rdU8 (.cons rfl cells5 rdU8 (.cons rfl cells22 (rd_array Tryd.underlying22 cells5 cells22 rdU8) (.cons rfl cells4 (rd_bool Tryd.underlying4) (.cons rfl cells4 (rd_bool Tryd.underlying4) (.cons rfl cells23 (rd_array Tryd.underlying23 cells5 cells23 rdU8)
      (.cons rfl cells24 (rd_slice Tryd.underlying24 cells100 (by decide) rdGd) (.cons rfl cells25 (rd_slice Tryd.underlying25 cells5 (by decide) rdU8) (.nil _)))))))))).mono fun ts h => ?_
  obtain ⟨_, _, rfl, ⟨i, rfl, hi⟩, _, _, rfl, ⟨f, rfl, hf⟩, _, _, rfl, ⟨_, _, rfl, ⟨d0, rfl, hd0⟩, _, _, rfl, ⟨d1, rfl, hd1⟩, rfl⟩, _, _, rfl, ⟨bus, rfl⟩, _, _, rfl, ⟨mem, rfl⟩, _, _, rfl,
    ⟨_, _, rfl, ⟨p0, rfl, h0⟩, _, _, rfl, ⟨p1, rfl, h1⟩, _, _, rfl, ⟨p2, rfl, h2⟩, _, _, rfl, ⟨p3, rfl, h3⟩, rfl⟩, _, _, rfl, ⟨es, cap, nl, rfl, _, hes⟩, _, _, rfl, ⟨os, cap2, nl2, rfl, _, hos⟩, rfl⟩ := h
  obtain ⟨gs, rfl, hgs⟩ := list_of (f := tGd) (Q := GdOk) fun x hx => (hes x hx).1
  obtain ⟨ol, rfl, hol⟩ := list_of (f := fun n => [tK n]) (Q := Byt) fun x hx => (hos x hx).1
  exact ⟨⟨i, f, d0, d1, bus, mem, p0, p1, p2, p3, ⟨gs, cap, nl⟩, ⟨ol, cap2, nl2⟩⟩, rfl, ⟨hi, hf, hd0, hd1, h0, h1, h2, h3, hgs, hol⟩⟩

theorem rdInts : Rd Tryd.prog 31 fun ts => ∃ s : Sl Int, ts = [tSl s] := by
  refine (rd_slice Tryd.underlying31 cells3 (by decide) rdInt).mono fun ts ⟨es, cap, nl, h, _, hes⟩ => ?_
  obtain ⟨l, rfl, _⟩ := list_of (f := fun n : Int => [tI n]) (Q := fun _ => True) fun x hx => by
    obtain ⟨n, hn⟩ := (hes x hx).1
    exact ⟨n, hn, trivial⟩
  exact ⟨⟨l, cap, nl⟩, h⟩
theorem rdChs : Rd Tryd.prog 35 fun ts => ∃ s : Sl (Sl Int), ts = [tChs s] := by
  refine (rd_slice Tryd.underlying35 cells31 (by decide) rdInts).mono fun ts ⟨es, cap, nl, h, _, hes⟩ => ?_
  obtain ⟨l, rfl, _⟩ := list_of (f := fun s : Sl Int => [tSl s]) (Q := fun _ => True) fun x hx => by
    obtain ⟨n, hn⟩ := (hes x hx).1
    exact ⟨n, hn, trivial⟩
  exact ⟨⟨l, cap, nl⟩, h⟩
end Go.Lg

/- The seat's rows: their arguments opened, the witness's world. Conditions: none. -/
set_option linter.unusedSimpArgs false
set_option linter.unusedVariables false
set_option maxRecDepth 100000
namespace Go.Proofs.YtgnghiijbegacaaDoor
open Go Go.Lg Go.ChangeShapes Go.WideShapes Go.ChangeAt Go.RowKit

theorem own : ownKnob Tryd.prog.godebug = none := by kernel_rfl
theorem laidOut : laidOutB Tryd.prog = true := by kernel_rfl

/-- A struct's value, opened. -/
theorem open_cd {H : Type} {enc : TypeId × Value → H} {W : World} {base : Nat} {v : Value} {d : DataW H} {p : List MemPlace} (hval : Value.okWide Tryd.prog W .any base 27 v) (h : DataW.Trod enc Tryd.prog W 0 (fun _ => true) true 27 v d p) : ∃ x, CDOk x ∧ TR W (Old W) (.agg (tCD x)) v := by
  simp only [Value.okWide, Tryd.underlying27] at hval
  obtain ⟨cs, rfl, _, _⟩ := hval
  obtain ⟨fuel, hf⟩ := h
  obtain ⟨ts, ⟨x, rfl, hx⟩, htr, ho⟩ := rdCD H enc W true fuel _ _ hf
  exact ⟨x, hx, tr_agg htr ho⟩

theorem open_chs {H : Type} {enc : TypeId × Value → H} {W : World} {base : Nat} {v : Value} {d : DataW H} {p : List MemPlace} (hval : Value.okWide Tryd.prog W .any base 35 v) (h : DataW.Trod enc Tryd.prog W 0 (fun _ => true) true 35 v d p) : ∃ s : Sl (Sl Int), TR W (Old W) (tChs s) v := by
  obtain ⟨a, len, cap, rfl⟩ := okWide_slice Tryd.underlying35 hval
  obtain ⟨fuel, hf⟩ := h
  obtain ⟨ts, ⟨s, rfl⟩, htr, _⟩ := rdChs H enc W true fuel _ _ hf
  obtain ⟨y, ys, he, hy, _⟩ := htr.cons_inv
  simp [Value.cells] at he
  exact ⟨s, by rw [he.1]; exact hy⟩

/-- A world for the witness: the settled one, the table (block 0) holding what its initialiser lays. -/
noncomputable def laidWorld (os : Os) : World :=
  { World.holding Tryd.prog os ⟨#[], #[], []⟩ with heap := (World.holding Tryd.prog os ⟨#[], #[], []⟩).heap.modify 0 fun
      | .cells _ t frozen => .cells (fanL.flatMap fun x => [Value.int .i64 x.1, Value.int .i64 x.2]).toArray t frozen
      | o => o }
def c0 : Value := .agg #[.int .u8 0, .int .u8 0, .int .u8 0, .int .u8 0, .bool false, .bool false, .int .u8 0, .int .u8 0, .int .u8 0, .int .u8 0, .slice none 0 0, .slice none 0 0]
def d0 {H : Type} : DataW H := .agg [.lit (.int .u8 0), .lit (.int .u8 0), .agg [.lit (.int .u8 0), .lit (.int .u8 0)], .lit (.bool false), .lit (.bool false), .agg [.lit (.int .u8 0), .lit (.int .u8 0), .lit (.int .u8 0), .lit (.int .u8 0)], .nil, .nil]

end Go.Proofs.YtgnghiijbegacaaDoor

/- The functions of the gates over 0, 1, X and Z. Conditions: none. -/
set_option linter.unusedSimpArgs false
set_option linter.unusedVariables false
set_option maxRecDepth 100000
namespace Go.Lg
open Go Go.Proofs

/-- Below, for values of nets. -/
def Blw (a b : Int) : Prop := a = b ∨ a = 2
def BlwL (l m : List Int) : Prop := l.length = m.length ∧ ∀ i, Blw (l.getD i 0) (m.getD i 0)

theorem Blw.refl (a : Int) : Blw a a := .inl rfl
theorem BlwL.cons {a b : Int} {l m : List Int} (h : BlwL (a :: l) (b :: m)) : Blw a b ∧ BlwL l m :=
  ⟨by simpa using h.2 0, by simpa using h.1, fun i => by simpa using h.2 (i + 1)⟩

end Go.Lg

/- A circuit whose gates read earlier nodes has levels. Conditions: none. -/
set_option linter.unusedSimpArgs false
set_option linter.unusedVariables false
set_option maxRecDepth 100000
namespace Go.Lg
open Go Go.Proofs

def cntR (i : Nat) (r : Row) : Nat := r.countP fun p => decide (p.1 = (i : Int))
theorem cntR_app {i : Nat} {r q : Row} : cntR i (r ++ q) = cntR i r + cntR i q := by simp [cntR]

theorem addRow_cnt {rows : List Row} {n m i : Nat} {p : Int × Int} (hn : n < rows.length) : cntR i ((addRow rows n p).getD m []) = cntR i (rows.getD m []) + if m = n ∧ p.1 = (i : Int) then 1 else 0 := by
  unfold addRow
  simp only [List.getD_eq_getElem?_getD, List.getElem?_set]
  by_cases h : n = m
  · subst h
    simp only [hn, if_true, Option.getD_some, cntR_app, true_and]
    congr 1
    by_cases h2 : p.1 = (i : Int) <;> simp [cntR, h2]
  · have h' : ¬ m = n := fun e => h e.symm
    simp [h, h']

theorem fanPins_cnt (c : Cir) (j i m : Nat) : ∀ (l : List Int) (k : Nat) (rows : List Row), rows.length = c.nodes.l.length → (∀ p ∈ l, 0 ≤ p ∧ p < c.nodes.l.length) → (fanPins c j l k rows).length = c.nodes.l.length ∧ cntR i ((fanPins c j l k rows).getD m []) = cntR i (rows.getD m []) + if j = i then l.count (m : Int) else 0
  | [], k, rows, hl, _ => ⟨hl, by simp [fanPins]⟩
  | n :: l, k, rows, hl, hp => by
    have hn := hp n List.mem_cons_self
    have ho : outP c n = false := by simp [outP]; omega
    simp only [fanPins, ho, Bool.false_eq_true, if_false]
    obtain ⟨h1, h2⟩ := fanPins_cnt c j i m l (k + 1) (addRow rows n.toNat (j, k)) (by rw [addRow_len]; exact hl) (fun p h => hp p (List.mem_cons_of_mem _ h))
    refine ⟨h1, ?_⟩
    rw [h2, addRow_cnt (by omega)]
    by_cases hji : j = i
    · subst hji
      simp only [and_true, if_true, List.count_cons]
      by_cases hm : (m : Int) = n
      · have h5 : m = n.toNat := by omega
        have h6 : (n == (m : Int)) = true := by rw [hm]; simp
        rw [if_pos h5, h6]
        simp only [if_true]; omega
      · have h5 : ¬ m = n.toNat := by omega
        have h6 : (n == (m : Int)) = false := by simp; omega
        rw [if_neg h5, h6]
        simp only [Bool.false_eq_true, if_false]; omega
    · have : ¬ ((j : Int) = i) := by omega
      simp [hji, this]

theorem fanNodes_cnt (c : Cir) (i m : Nat) : ∀ (l : List Nd) (s : Nat) (rows : List Row), rows.length = c.nodes.l.length → (∀ x ∈ l, ∀ p ∈ x.inn.l, 0 ≤ p ∧ p < c.nodes.l.length) →
    cntR i ((fanNodes c l s rows).getD m []) = cntR i (rows.getD m []) + if s ≤ i then ((l.map fun x => x.inn.l.count (m : Int)).getD (i - s) 0) else 0
  | [], s, rows, hl, _ => by simp [fanNodes]
  | x :: l, s, rows, hl, hp => by
    obtain ⟨h1, h2⟩ := fanPins_cnt c s i m x.inn.l 0 rows hl (hp x List.mem_cons_self)
    simp only [fanNodes]
    rw [fanNodes_cnt c i m l (s + 1) _ h1 (fun y hy => hp y (List.mem_cons_of_mem _ hy)), h2]
    by_cases hsi : s = i
    · subst hsi
      have : ¬ s + 1 ≤ s := by omega
      simp [this]
    · by_cases hlt : s ≤ i
      · have e : i - s = (i - (s + 1)) + 1 := by omega
        have h3 : s + 1 ≤ i := by omega
        simp [hsi, hlt, h3, e]
      · have h3 : ¬ s + 1 ≤ i := by omega
        simp [hsi, hlt, h3]

def innAt (c : Cir) (i : Nat) : List Int := (c.nodes.l.getD i Nd.d).inn.l
theorem rowOf_cnt (c : Cir) (hp : ∀ x ∈ c.nodes.l, ∀ p ∈ x.inn.l, 0 ≤ p ∧ p < c.nodes.l.length) (i m : Nat) (hi : i < c.nodes.l.length) : cntR i (rowOf c m) = (innAt c i).count (m : Int) := by
  unfold rowOf fanRows
  rw [fanNodes_cnt c i m c.nodes.l 0 _ (by simp) hp]
  have h0 : cntR i ((List.replicate c.nodes.l.length ([] : Row)).getD m []) = 0 := by
    simp only [List.getD_eq_getElem?_getD, List.getElem?_replicate]
    split <;> rfl
  rw [h0]
  simp [innAt, hi]

theorem left_at (c : Cir) {i : Nat} (hi : i < c.nodes.l.length) : (c.nodes.l.map leftOf).getD i 0 = if combB (kindAt c i) then ((innAt c i).length : Int) else 0 := by
  simp [kindAt, innAt, leftOf, hi]

theorem foldL_inv {N M : Nat} {c : Cir} {n : Nat} : ∀ {r : Row} {s : LS}, s.left.length = N → (∀ p ∈ r, ∃ i : Nat, i < N ∧ p.1 = i) → (∀ i : Nat, i < N → s.left.getD i 0 ≤ 0 → (i : Int) ∈ s.rdy) →
    (∃ e, (r.foldl (stepL c n) s).rdy = s.rdy ++ e) ∧ (r.foldl (stepL c n) s).left.length = N ∧ (∀ i : Nat, i < N → (r.foldl (stepL c n) s).left.getD i 0 = s.left.getD i 0 - if combB (kindAt c i) then (cntR i r : Int) else 0) ∧ (∀ i : Nat, i < N → (r.foldl (stepL c n) s).left.getD i 0 ≤ 0 → (i : Int) ∈ (r.foldl (stepL c n) s).rdy)
  | [], s, hl, _, hb => ⟨⟨[], by simp⟩, hl, fun i hi => by simp [cntR], hb⟩
  | (p1, p2) :: r, s, hl, hr, hb => by
    obtain ⟨j, hj, he⟩ := hr (p1, p2) List.mem_cons_self
    simp only at he; subst he
    have key : (∃ e, (stepL c n s (j, p2)).rdy = s.rdy ++ e) ∧ (stepL c n s (j, p2)).left.length = N ∧ (∀ i : Nat, i < N → (stepL c n s (j, p2)).left.getD i 0 = s.left.getD i 0 - if combB (kindAt c i) then (if j = i then 1 else 0 : Int) else 0) ∧ (∀ i : Nat, i < N → (stepL c n s (j, p2)).left.getD i 0 ≤ 0 → (i : Int) ∈ (stepL c n s (j, p2)).rdy) := by
      unfold stepL
      simp only [Int.toNat_natCast]
      by_cases hc : combB (kindAt c j) = true
      · simp only [hc, if_true]
        refine ⟨?_, by simp [hl], fun i hi => ?_, fun i hi h0 => ?_⟩
        · split
          · exact ⟨_, rfl⟩
          · exact ⟨[], by simp⟩
        · rw [getD_set (by omega)]
          by_cases hij : i = j
          · subst hij; simp [hc]
          · have : ¬ j = i := fun e => hij e.symm
            simp [hij, this]
        · rw [getD_set (by omega)] at h0
          by_cases hij : i = j
          · subst hij
            simp only [if_true] at h0
            by_cases h1 : s.left.getD i 0 - 1 = 0
            · rw [if_pos h1]; simp
            · rw [if_neg h1]
              exact hb i hi (by omega)
          · simp only [hij, if_false] at h0
            have := hb i hi h0
            split
            · exact List.mem_append_left _ this
            · exact this
      · simp only [hc]
        refine ⟨⟨[], by simp⟩, hl, fun i hi => ?_, hb⟩
        by_cases hij : j = i
        · subst hij; simp [hc]
        · simp [hij]
    obtain ⟨⟨e1, h1⟩, h2, h3, h4⟩ := key
    obtain ⟨⟨e2, g1⟩, g2, g3, g4⟩ := foldL_inv (M := M) (n := n) (r := r) h2 (fun q hq => hr q (List.mem_cons_of_mem _ hq)) h4
    simp only [List.foldl_cons]
    refine ⟨⟨e1 ++ e2, by rw [g1, h1, List.append_assoc]⟩, g2, fun i hi => ?_, g4⟩
    rw [g3 i hi, h3 i hi]
    by_cases hc : combB (kindAt c i) = true
    · simp only [hc, if_true]
      have : cntR i ((↑j, p2) :: r) = cntR i r + if j = i then 1 else 0 := by
        by_cases hij : j = i
        · subst hij; simp [cntR]
        · have : ¬ ((j : Int) = i) := by omega
          simp [cntR, hij, this]
      rw [this]
      split <;> omega
    · simp [hc]

structure JI (c : Cir) (d : Nat) (s : LS) : Prop where
  li : ∃ M, LI c.nodes.l.length M s
  le : d ≤ s.rdy.length
  a : ∀ i : Nat, i < c.nodes.l.length → s.left.getD i 0 = (c.nodes.l.map leftOf).getD i 0 - if combB (kindAt c i) then (((s.rdy.take d).map fun x => (innAt c i).count x).sum : Int) else 0
  b : ∀ i : Nat, i < c.nodes.l.length → s.left.getD i 0 ≤ 0 → (i : Int) ∈ s.rdy

theorem JI.next {c : Cir} (hp : ∀ x ∈ c.nodes.l, ∀ p ∈ x.inn.l, 0 ≤ p ∧ p < c.nodes.l.length) {d : Nat} {s : LS} (h : JI c d s) (hd : d < s.rdy.length) : JI c (d + 1) ((rowOf c (s.rdy.getD d 0).toNat).foldl (stepL c (s.rdy.getD d 0).toNat) s) := by
  obtain ⟨M, hli⟩ := h.li
  have hg : s.rdy.getD d 0 = s.rdy[d] := by simp [hd]
  rw [hg]
  obtain ⟨n, hn, he, _⟩ := hli.rd _ (List.getElem_mem hd)
  rw [he]
  simp only [Int.toNat_natCast]
  have hr : ∀ p ∈ rowOf c n, ∃ i : Nat, i < c.nodes.l.length ∧ p.1 = i := by
    intro p hpp
    have hl := fanRows_len c
    have e : rowOf c n = (fanRows c)[n]'(by omega) := by simp [rowOf, List.getD, List.getElem?_eq_getElem (show n < (fanRows c).length by omega)]
    rw [e] at hpp
    exact fanRows_in c _ (List.getElem_mem _) p hpp
  obtain ⟨⟨e, h1⟩, h2, h3, h4⟩ := foldL_inv (M := M) (c := c) (n := n) (r := rowOf c n) hli.ll hr h.b
  refine ⟨⟨_, hli.fold hr⟩, by rw [h1]; simp; omega, fun i hi => ?_, h4⟩
  rw [h3 i hi, h.a i hi, h1]
  by_cases hc : combB (kindAt c i) = true
  · simp only [hc, if_true]
    have ht : (s.rdy ++ e).take (d + 1) = s.rdy.take d ++ [(n : Int)] := by
      rw [List.take_append_of_le_length (by omega), List.take_add_one, List.getElem?_eq_getElem hd, he]
      rfl
    rw [ht, rowOf_cnt c hp i n hi]
    simp
    omega
  · simp [hc]

theorem main_end {c : Cir} (hp : ∀ x ∈ c.nodes.l, ∀ p ∈ x.inn.l, 0 ≤ p ∧ p < c.nodes.l.length) : ∀ (f d : Nat) (s : LS), JI c d s → c.nodes.l.length < f + d → JI c (mainL c f d s).1 (mainL c f d s).2 ∧ (mainL c f d s).2.rdy.length ≤ (mainL c f d s).1
  | 0, d, s, h, hf => by
    obtain ⟨M, hli⟩ := h.li
    have := hli.len
    exact ⟨h, by simp only [mainL]; omega⟩
  | f + 1, d, s, h, hf => by
    simp only [mainL]
    split
    · rename_i hd
      exact main_end hp f (d + 1) _ (h.next hp hd) (by omega)
    · exact ⟨h, by simp only; omega⟩

theorem sum_count : ∀ (L R : List Int), (∀ p ∈ L, p ∈ R) → L.length ≤ (R.map fun x => L.count x).sum
  | [], R, _ => by simp
  | p :: L, R, h => by
    have ih := sum_count L R fun q hq => h q (List.mem_cons_of_mem _ hq)
    have hpR := h p List.mem_cons_self
    have key : ∀ R : List Int, (R.map fun x => (p :: L).count x).sum = (R.map fun x => L.count x).sum + R.count p := by
      intro R
      induction R with
      | nil => rfl
      | cons a R ihR =>
        simp only [List.map_cons, List.sum_cons]
        rw [ihR, List.count_cons, List.count_cons]
        by_cases hpa : p = a
        · subst hpa; simp only [BEq.rfl, if_true]; omega
        · have h1 : (p == a) = false := by simpa using hpa
          have h2 : (a == p) = false := by simpa using fun e => hpa e.symm
          rw [h1, h2]; simp only [Bool.false_eq_true, if_false]; omega
    rw [key]
    have := List.count_pos_iff.2 hpR
    simp only [List.length_cons]; omega

theorem rdyFrom_all : ∀ (l : List Nd) (s i : Nat), s ≤ i → i < s + l.length → (l.map leftOf).getD (i - s) 0 ≤ 0 → (i : Int) ∈ rdyFrom l s
  | [], s, i, h1, h2, _ => by simp at h2; omega
  | x :: l, s, i, h1, h2, h3 => by
    simp only [List.length_cons] at h2
    by_cases hsi : i = s
    · subst hsi
      simp only [Nat.sub_self, List.map_cons, List.getD_cons_zero] at h3
      have h4 : 0 ≤ leftOf x := by unfold leftOf; split <;> omega
      have h5 : leftOf x = 0 := by omega
      simp [rdyFrom, h5]
    · have e : i - s = (i - (s + 1)) + 1 := by omega
      rw [e, List.map_cons, List.getD_cons_succ] at h3
      have := rdyFrom_all l (s + 1) i (by omega) (by omega) h3
      simp only [rdyFrom]
      split
      · exact List.mem_cons_of_mem _ this
      · exact this

theorem levels_done (c : Cir) (h16 : ∀ x ∈ c.nodes.l, x.inn.l.length ≤ 16) (hp : ∀ x ∈ c.nodes.l, ∀ p ∈ x.inn.l, 0 ≤ p ∧ p < c.nodes.l.length) (ht : ∀ i : Nat, i < c.nodes.l.length → combB (kindAt c i) = true → ∀ p ∈ innAt c i, p < i) : ¬ (endL c).1 < c.nodes.l.length := by
  have h0 : JI c 0 (initL c) := by
    refine ⟨⟨0, ?_⟩, by simp, fun i hi => ?_, fun i hi h => ?_⟩
    · obtain ⟨r1, r2⟩ := rdyFrom_in c.nodes.l 0
      refine ⟨by simp [initL], by simp [initL], ?_, r2, fun i => ?_, fun i => ?_⟩
      · intro j hj
        obtain ⟨a, _, h2, h3, h4⟩ := r1 j hj
        exact ⟨a, by omega, h3, by simp only [initL]; simp only [Nat.sub_zero] at h4; omega⟩
      · simp only [initL, List.getD_eq_getElem?_getD, List.getElem?_replicate]
        split <;> simp
      · simp only [initL]
        by_cases hi : i < c.nodes.l.length
        · have := h16 _ (List.getElem_mem hi)
          simp [hi, leftOf]
          split <;> omega
        · simp [hi]
    · simp [initL]
    · simp only [initL] at h
      exact rdyFrom_all c.nodes.l 0 i (by omega) (by omega) (by simpa using h)
  obtain ⟨hJ, hle⟩ := main_end hp (c.nodes.l.length + 1) 0 (initL c) h0 (by omega)
  show ¬ (mainL c (c.nodes.l.length + 1) 0 (initL c)).1 < c.nodes.l.length
  generalize (mainL c (c.nodes.l.length + 1) 0 (initL c)).1 = d at *
  generalize (mainL c (c.nodes.l.length + 1) 0 (initL c)).2 = s at *
  have all : ∀ i : Nat, i < c.nodes.l.length → (i : Int) ∈ s.rdy := by
    intro i
    induction i using Nat.strongRecOn with
    | ind i ih =>
      intro hi
      refine hJ.b i hi ?_
      rw [hJ.a i hi, left_at c hi]
      by_cases hc : combB (kindAt c i) = true
      · simp only [hc, if_true]
        rw [List.take_of_length_le hle]
        have hm : innAt c i ∈ c.nodes.l.map fun x => x.inn.l := by
          simp only [innAt, List.getD_eq_getElem?_getD, List.getElem?_eq_getElem hi, Option.getD_some]
          exact List.mem_map_of_mem (List.getElem_mem hi)
        obtain ⟨y, hy, hye⟩ := List.mem_map.1 hm
        have := sum_count (innAt c i) s.rdy fun p hpp => by
          have h1 := ht i hi hc p hpp
          have h2 := (hp y hy p (by rw [hye]; exact hpp)).1
          obtain ⟨j, rfl⟩ : ∃ j : Nat, p = j := ⟨p.toNat, by omega⟩
          exact ih j (by omega) (by omega)
        omega
      · simp [hc]
  have hnd : ((List.range c.nodes.l.length).map fun i : Nat => (i : Int)).Nodup := by
    rw [List.nodup_iff_pairwise_ne, List.pairwise_map]
    exact (List.nodup_iff_pairwise_ne.1 List.nodup_range).imp fun h e => h (by omega)
  have hsub : ((List.range c.nodes.l.length).map fun i : Nat => (i : Int)) ⊆ s.rdy := by
    intro x hx
    obtain ⟨i, hi, rfl⟩ := List.mem_map.1 hx
    exact all i (List.mem_range.1 hi)
  have := List.Nodup.length_le_of_subset hnd hsub
  simp at this
  omega
end Go.Lg

/- Levels grow along the pins of gates. Conditions: none. -/
set_option linter.unusedSimpArgs false
set_option linter.unusedVariables false
set_option maxRecDepth 100000
namespace Go.Lg
open Go Go.Proofs

theorem sum_count_cons (p : Int) (L : List Int) : ∀ R : List Int, (R.map fun x => (p :: L).count x).sum = (R.map fun x => L.count x).sum + R.count p
  | [] => rfl
  | a :: R => by
    simp only [List.map_cons, List.sum_cons]
    rw [sum_count_cons p L R, List.count_cons, List.count_cons]
    by_cases hpa : p = a
    · subst hpa; simp only [BEq.rfl, if_true]; omega
    · have h1 : (p == a) = false := by simpa using hpa
      have h2 : (a == p) = false := by simpa using fun e => hpa e.symm
      rw [h1, h2]; simp only [Bool.false_eq_true, if_false]; omega
theorem sum_count_le : ∀ (L R : List Int), R.Nodup → (R.map fun x => L.count x).sum ≤ L.length
  | [], R, _ => by
    have : ∀ R : List Int, (R.map fun x => ([] : List Int).count x).sum = 0 := by
      intro R
      induction R with
      | nil => rfl
      | cons a R ih => rw [List.map_cons, List.sum_cons, ih, List.count_nil]
    rw [this]; omega
  | p :: L, R, h => by
    have ih := sum_count_le L R h
    have h1 := List.nodup_iff_count.1 h p
    rw [sum_count_cons]
    simp only [List.length_cons]; omega

theorem foldO {N n : Nat} {c : Cir} : ∀ {r : Row} {s : LS}, s.out.length = N → s.left.length = N → (∀ p ∈ r, ∃ i : Nat, i < N ∧ p.1 = i) → (∀ i : Nat, i < N → combB (kindAt c i) = true → (cntR i r : Int) ≤ s.left.getD i 0) → s.left.getD n 0 ≤ 0 →
    (∀ i : Nat, i < N → s.left.getD i 0 ≤ 0 → (r.foldl (stepL c n) s).out.getD i 0 = s.out.getD i 0) ∧ (∀ i : Nat, i < N → s.out.getD i 0 ≤ (r.foldl (stepL c n) s).out.getD i 0) ∧ (∀ i : Nat, i < N → combB (kindAt c i) = true → 0 < cntR i r → s.out.getD n 0 + 1 ≤ (r.foldl (stepL c n) s).out.getD i 0)
  | [], s, ho, hl, _, _, _ => ⟨fun _ _ _ => rfl, fun _ _ => Int.le_refl _, fun i _ _ h => by simp [cntR] at h⟩
  | (p1, p2) :: r, s, ho, hl, hr, hc, hn => by
    obtain ⟨j, hj, he⟩ := hr (p1, p2) List.mem_cons_self
    simp only at he; subst he
    have cnt : ∀ i : Nat, cntR i ((↑j, p2) :: r) = cntR i r + if j = i then 1 else 0 := fun i => by
      by_cases hij : j = i
      · subst hij; simp [cntR]
      · have : ¬ ((j : Int) = i) := by omega
        simp [cntR, hij, this]
    simp only [List.foldl_cons]
    by_cases hcj : combB (kindAt c j) = true
    case neg =>
      have hs : stepL c n s (↑j, p2) = s := by unfold stepL; simp [hcj]
      rw [hs]
      obtain ⟨a1, a2, a3⟩ := foldO (n := n) (c := c) (r := r) ho hl (fun p hp => hr p (List.mem_cons_of_mem _ hp)) (fun i hi hci => by have := hc i hi hci; rw [cnt] at this; omega) hn
      refine ⟨a1, a2, fun i hi hci h => a3 i hi hci ?_⟩
      rw [cnt] at h
      have : ¬ j = i := fun e => hcj (e ▸ hci)
      simpa [this] using h
    have hj1 := hc j hj hcj
    rw [cnt, if_pos rfl] at hj1
    have hnj : ¬ n = j := fun e => by subst e; omega
    have so : ∀ i : Nat, (stepL c n s (↑j, p2)).out.getD i 0 = if i = j then max (s.out.getD j 0) (s.out.getD n 0 + 1) else s.out.getD i 0 := fun i => by
      unfold stepL
      simp only [Int.toNat_natCast, hcj, if_true]
      rw [getD_set (by omega)]
    have sl : ∀ i : Nat, (stepL c n s (↑j, p2)).left.getD i 0 = if i = j then s.left.getD j 0 - 1 else s.left.getD i 0 := fun i => by
      unfold stepL
      simp only [Int.toNat_natCast, hcj, if_true]
      rw [getD_set (by omega)]
    have lo : (stepL c n s (↑j, p2)).out.length = N := by unfold stepL; simp [hcj, ho]
    have ll : (stepL c n s (↑j, p2)).left.length = N := by unfold stepL; simp [hcj, hl]
    obtain ⟨a1, a2, a3⟩ := foldO (n := n) (c := c) (r := r) lo ll (fun p hp => hr p (List.mem_cons_of_mem _ hp)) (fun i hi hci => by
      have := hc i hi hci
      rw [cnt] at this
      rw [sl]
      by_cases hij : i = j
      · subst hij; simp only [if_true] at this ⊢; omega
      · have h' : ¬ j = i := fun e => hij e.symm
        simp only [hij, h', if_false] at this ⊢; omega) (by rw [sl, if_neg hnj]; exact hn)
    refine ⟨fun i hi h0 => ?_, fun i hi => ?_, fun i hi hci h => ?_⟩
    · have hij : ¬ i = j := fun e => by subst e; omega
      rw [a1 i hi (by rw [sl, if_neg hij]; exact h0), so, if_neg hij]
    · have := a2 i hi
      rw [so] at this
      split at this
      · rename_i e; subst e; omega
      · exact this
    · by_cases hij : i = j
      · subst hij
        have := a2 i hi
        rw [so, if_pos rfl] at this
        omega
      · have h' : ¬ j = i := fun e => hij e.symm
        rw [cnt, if_neg h'] at h
        have := a3 i hi hci (by omega)
        rw [so, if_neg hnj] at this
        exact this

def KI (c : Cir) (d : Nat) (s : LS) : Prop := ∀ i : Nat, i < c.nodes.l.length → combB (kindAt c i) = true → ∀ q : Nat, (q : Int) ∈ innAt c i → (q : Int) ∈ s.rdy.take d → s.out.getD q 0 + 1 ≤ s.out.getD i 0

theorem KI.next {c : Cir} (hp : ∀ x ∈ c.nodes.l, ∀ p ∈ x.inn.l, 0 ≤ p ∧ p < c.nodes.l.length) {d : Nat} {s : LS} (h : JI c d s) (hk : KI c d s) (hd : d < s.rdy.length) : KI c (d + 1) ((rowOf c (s.rdy.getD d 0).toNat).foldl (stepL c (s.rdy.getD d 0).toNat) s) := by
  obtain ⟨M, hli⟩ := h.li
  have hg : s.rdy.getD d 0 = s.rdy[d] := by simp [hd]
  rw [hg]
  obtain ⟨n, hn, he, hn0⟩ := hli.rd _ (List.getElem_mem hd)
  rw [he]
  simp only [Int.toNat_natCast]
  have hr : ∀ p ∈ rowOf c n, ∃ i : Nat, i < c.nodes.l.length ∧ p.1 = i := by
    intro p hpp
    have hl := fanRows_len c
    have e : rowOf c n = (fanRows c)[n]'(by omega) := by simp [rowOf, List.getD, List.getElem?_eq_getElem (show n < (fanRows c).length by omega)]
    rw [e] at hpp
    exact fanRows_in c _ (List.getElem_mem _) p hpp
  have htk : s.rdy.take (d + 1) = s.rdy.take d ++ [(n : Int)] := by
    rw [List.take_add_one, List.getElem?_eq_getElem hd, he]; rfl
  have hnd : (s.rdy.take (d + 1)).Nodup := hli.nd.sublist (List.take_sublist _ _)
  have hcnt : ∀ i : Nat, i < c.nodes.l.length → combB (kindAt c i) = true → (cntR i (rowOf c n) : Int) ≤ s.left.getD i 0 := by
    intro i hi hci
    have := sum_count_le (innAt c i) _ hnd
    rw [htk] at this
    simp only [List.map_append, List.sum_append, List.map_cons, List.map_nil, List.sum_cons, List.sum_nil] at this
    rw [h.a i hi, left_at c hi, rowOf_cnt c hp i n hi]
    simp only [hci, if_true]
    omega
  obtain ⟨⟨e, h1⟩, _, _, _⟩ := foldL_inv (M := M) (c := c) (n := n) (r := rowOf c n) hli.ll hr h.b
  obtain ⟨a1, a2, a3⟩ := foldO (n := n) (c := c) hli.lo hli.ll hr hcnt hn0
  intro i hi hci q hq hqt
  rw [h1, List.take_append_of_le_length (by omega), htk] at hqt
  rcases List.mem_append.1 hqt with hqt | hqt
  · obtain ⟨q', hq1, hq2, hq3⟩ := hli.rd _ (List.mem_of_mem_take hqt)
    have : q = q' := by omega
    subst this
    rw [a1 q hq1 hq3]
    have h4 := hk i hi hci q hq hqt
    have h5 := a2 i hi
    omega
  · have : q = n := by simp at hqt; omega
    subst this
    rw [a1 q hn hn0]
    refine a3 i hi hci ?_
    rw [rowOf_cnt c hp i q hi]
    exact List.count_pos_iff.2 hq

end Go.Lg

/- Orders by levels, and the values of all nets. Conditions: none. -/
set_option linter.unusedSimpArgs false
set_option linter.unusedVariables false
set_option maxRecDepth 100000
namespace Go.Lg
open Go Go.Proofs

def rng (n : Nat) : List Int := (List.range n).map fun i : Nat => (i : Int)
def inputs (c : Cir) : List Int := ofL [0] c.nodes.l 0
/-- How many nodes of a kind stand before a node. -/
def rankK (k : Int) (c : Cir) (i : Nat) : Nat := (ofL [k] (c.nodes.l.take i) 0).length
theorem ofL_split {k : Int} {c : Cir} {i : Nat} (hi : i < c.nodes.l.length) (hk : kindAt c i = k) : ofL [k] c.nodes.l 0 = ofL [k] (c.nodes.l.take i) 0 ++ (i : Int) :: ofL [k] (c.nodes.l.drop (i + 1)) (i + 1) := by
  have e : c.nodes.l = c.nodes.l.take i ++ c.nodes.l[i] :: c.nodes.l.drop (i + 1) := by rw [List.getElem_cons_drop, List.take_append_drop]
  have hk' : c.nodes.l[i].k = k := by simpa [kindAt, hi] using hk
  have hm : (c.nodes.l.take i).length = i := by rw [List.length_take]; omega
  conv => lhs; rw [e, ofL_app, hm]
  simp [ofL, hk']
theorem rank_at {k : Int} {c : Cir} {i : Nat} (hi : i < c.nodes.l.length) (hk : kindAt c i = k) : rankK k c i < (ofL [k] c.nodes.l 0).length ∧ (ofL [k] c.nodes.l 0).getD (rankK k c i) 0 = i := by
  have e := ofL_split hi hk
  constructor
  · rw [e]; simp [rankK]
  · rw [e]; simp [rankK, List.getD_eq_getElem?_getD]
theorem ofL_in {k : Int} {c : Cir} : ∀ n ∈ ofL [k] c.nodes.l 0, 0 ≤ n ∧ n < c.nodes.l.length ∧ kindAt c n.toNat = k := by
  intro n hn
  obtain ⟨a, b, h⟩ := ofL_kind [k] c.nodes.l 0 n hn
  refine ⟨by omega, by omega, ?_⟩
  simpa [kindAt] using h
theorem mem_ofL {k : Int} {c : Cir} {i : Nat} (hi : i < c.nodes.l.length) : (i : Int) ∈ ofL [k] c.nodes.l 0 ↔ kindAt c i = k := by
  constructor
  · intro h
    have := (ofL_in _ h).2.2
    simpa using this
  · intro h
    rw [ofL_split hi h]
    simp

end Go.Lg

/- The abstract code of some functions, as the program gen.py prints it. Conditions: none. -/
set_option linter.unusedVariables false
namespace Go.Lg
open Go
section
variable {P : Program} {Γ : Tables} {Q : AX → St → Prop} {s : St}
/- probecard/logic.Clean (function 92) -/
def slices_ContainsFunc_api_Value_r0 : List RO := [
    ⟨some 4, .mv (.const (.bool false)), none, none⟩]
def slices_ContainsFunc_api_Value_r1 : List RO := [
    ⟨some 5, .mv (.tmp 0), none, none⟩,
    ⟨some 6, .mv (.tmp 1), none, none⟩,
    ⟨some 7, .call 102 [(.tmp 5), (.tmp 6)], none, none⟩,
    ⟨some 8, .bin .geq (.tmp 7) (.const (.int .i64 0)), none, none⟩,
    ⟨some 4, .mv (.tmp 8), none, none⟩]
def slices_ContainsFunc_api_Value_ic : IC := (.seq (.reg slices_ContainsFunc_api_Value_r0 [.keep [0, 1] []]) (.seq (.reg slices_ContainsFunc_api_Value_r1 [.keep [4] []]) .ret))
@[simp ↓] theorem slices_ContainsFunc_api_Value_ic_run : run P Γ slices_ContainsFunc_api_Value_ic Q s = run P Γ (.seq (.reg slices_ContainsFunc_api_Value_r0 [.keep [0, 1] []]) (.seq (.reg slices_ContainsFunc_api_Value_r1 [.keep [4] []]) .ret)) Q s := Eq.trans rfl rfl
attribute [simp] slices_ContainsFunc_api_Value_r0 slices_ContainsFunc_api_Value_r1
def slices_ContainsFunc_api_Value_rv : List RV := [.tmp 4]

/- slices.IndexFunc[[]probecard/api.Value,probecard/api.Value] (function 102) -/
def slices_IndexFunc_api_Value_r0 : List RO := [
    ⟨some 4, .mv (.const (.int .i64 0)), none, none⟩]
def slices_IndexFunc_api_Value_r1 : List RO := [
    ⟨some 6, .mv (.tmp 0), none, none⟩,
    ⟨some 7, .len 0 (.tmp 6), none, none⟩,
    ⟨some 8, .mv (.const (.int .i64 0)), none, none⟩]
def slices_IndexFunc_api_Value_r2 : List RO := [
    ⟨some 9, .bin .lss (.tmp 8) (.tmp 7), none, none⟩]
def slices_IndexFunc_api_Value_r3 : List RO := [
    ⟨some 10, .mv (.tmp 8), none, none⟩,
    ⟨some 5, .mv (.tmp 10), none, none⟩]
def slices_IndexFunc_api_Value_r4 : List RO := [
    ⟨some 11, .mv (.tmp 1), none, none⟩,
    ⟨some 12, .mv (.tmp 0), none, none⟩,
    ⟨some 13, .mv (.tmp 5), none, none⟩,
    ⟨some 14, .iadr 1 (.tmp 12) (.tmp 13), none, none⟩,
    ⟨some 15, .load 1 false (.tmp 14), none, none⟩,
    ⟨some 16, .callv (.tmp 11) [(.tmp 15)], none, none⟩]
def slices_IndexFunc_api_Value_r5 : List RO := [
    ⟨some 17, .mv (.tmp 5), none, none⟩,
    ⟨some 4, .mv (.tmp 17), none, none⟩]
def slices_IndexFunc_api_Value_r6 : List RO := [
    ⟨some 18, .bin .add (.tmp 8) (.const (.int .i64 1)), none, none⟩,
    ⟨some 8, .mv (.tmp 18), none, none⟩]
def slices_IndexFunc_api_Value_g0 : IC := .gh (.seq (.reg slices_IndexFunc_api_Value_r2 [.keep [0, 1, 7, 8, 9] []]) (.seq (.cond (.tmp 9) .skip (.exit 0)) (.seq (.block 1 (.seq (.reg slices_IndexFunc_api_Value_r3 [.keep [0, 1, 5, 7, 8] []]) (.seq (.reg slices_IndexFunc_api_Value_r4 [.keep [0, 1, 5, 7, 8, 16] []]) (.cond (.tmp 16) (.seq (.reg slices_IndexFunc_api_Value_r5 [.keep [4] []]) .ret) .skip)))) (.reg slices_IndexFunc_api_Value_r6 [.keep [0, 1, 7, 8] []])))) [.keep [0, 1, 7, 8] []]
def slices_IndexFunc_api_Value_l1 : IC := .loop slices_IndexFunc_api_Value_g0
def slices_IndexFunc_api_Value_r7 : List RO := [
    ⟨some 4, .mv (.const (.int .i64 (-1))), none, none⟩]
def slices_IndexFunc_api_Value_ic : IC := (.seq (.reg slices_IndexFunc_api_Value_r0 [.keep [0, 1] []]) (.seq (.seq (.reg slices_IndexFunc_api_Value_r1 [.keep [0, 1, 7, 8] []]) (.block 0 slices_IndexFunc_api_Value_l1)) (.seq (.reg slices_IndexFunc_api_Value_r7 [.keep [4] []]) .ret)))
@[simp ↓] theorem slices_IndexFunc_api_Value_g0_run : run P Γ slices_IndexFunc_api_Value_g0 Q s = run P Γ (.gh (.seq (.reg slices_IndexFunc_api_Value_r2 [.keep [0, 1, 7, 8, 9] []]) (.seq (.cond (.tmp 9) .skip (.exit 0)) (.seq (.block 1 (.seq (.reg slices_IndexFunc_api_Value_r3 [.keep [0, 1, 5, 7, 8] []]) (.seq (.reg slices_IndexFunc_api_Value_r4 [.keep [0, 1, 5, 7, 8, 16] []]) (.cond (.tmp 16) (.seq (.reg slices_IndexFunc_api_Value_r5 [.keep [4] []]) .ret) .skip)))) (.reg slices_IndexFunc_api_Value_r6 [.keep [0, 1, 7, 8] []])))) [.keep [0, 1, 7, 8] []]) Q s := Eq.trans rfl rfl
@[simp ↓] theorem slices_IndexFunc_api_Value_ic_run : run P Γ slices_IndexFunc_api_Value_ic Q s = run P Γ (.seq (.reg slices_IndexFunc_api_Value_r0 [.keep [0, 1] []]) (.seq (.seq (.reg slices_IndexFunc_api_Value_r1 [.keep [0, 1, 7, 8] []]) (.block 0 slices_IndexFunc_api_Value_l1)) (.seq (.reg slices_IndexFunc_api_Value_r7 [.keep [4] []]) .ret))) Q s := Eq.trans rfl rfl
theorem slices_IndexFunc_api_Value_l1_run (h : ∀ K : St → Prop, K = run P Γ slices_IndexFunc_api_Value_l1 Q → run P Γ slices_IndexFunc_api_Value_g0 (thenX K Q) s) : run P Γ slices_IndexFunc_api_Value_l1 Q s := run_loop h
attribute [simp] slices_IndexFunc_api_Value_r0 slices_IndexFunc_api_Value_r1 slices_IndexFunc_api_Value_r2 slices_IndexFunc_api_Value_r3 slices_IndexFunc_api_Value_r4 slices_IndexFunc_api_Value_r5 slices_IndexFunc_api_Value_r6 slices_IndexFunc_api_Value_r7
def slices_IndexFunc_api_Value_rv : List RV := [.tmp 4]

/- probecard/logic.Eval (function 55) -/
end
end Go.Lg

/- The abstract code is that of the program (by the kernel). Conditions: none. -/
namespace Go.Lg
open Go Go.Proofs
theorem slices_ContainsFunc_api_Value_chk : chkF Tryd.prog 73 slices_ContainsFunc_api_Value_ic 9 2 slices_ContainsFunc_api_Value_rv = true := by kernel_rfl
theorem slices_IndexFunc_api_Value_chk : chkF Tryd.prog 102 slices_IndexFunc_api_Value_ic 19 2 slices_IndexFunc_api_Value_rv = true := by kernel_rfl
end Go.Lg

/- Package logic: small functions. Conditions: none. -/
set_option linter.unusedSimpArgs false
set_option linter.unusedVariables false
set_option maxRecDepth 100000
namespace Go.Lg
open Go Go.Proofs
variable {Γ : Tables}

abbrev vals (l : List Int) : List (List T) := enc1 tK l
def tV (s : Sl Int) : T := .sl (vals s.l) s.cap s.nl

end Go.Lg

/- The abstract code of some functions, as the program gen.py prints it. Conditions: none. -/
set_option linter.unusedVariables false
namespace Go.Lg
open Go
section
variable {P : Program} {Γ : Tables} {Q : AX → St → Prop} {s : St}
/- probecard/scans.Pattern (function 38) -/
def scans_Pattern_r0 : List RO := [
    ⟨some 4, .box true (.tmp 0), none, none⟩,
    ⟨some 5, .box true (.tmp 1), none, none⟩,
    ⟨some 8, .alloc false [(.slice none 0 0), (.slice none 0 0)], none, none⟩,
    ⟨some 9, .mv (.const (.int .i64 0)), none, none⟩]
def scans_Pattern_r1 : List RO := [
    ⟨some 12, .fadr 0 (.tmp 5), none, none⟩,
    ⟨some 13, .load 1 false (.tmp 12), none, none⟩,
    ⟨some 14, .mv (.tmp 2), none, none⟩,
    ⟨some 15, .bsl true 73 1 [(.tmp 14)], none, none⟩,
    ⟨some 16, .mv (.tmp 3), none, none⟩,
    ⟨some 17, .bsl true 64 1 [(.tmp 13), (.tmp 15), (.tmp 16)], none, none⟩,
    ⟨some 18, .call 71 [(.tmp 17)], none, none⟩,
    ⟨some 10, .mv (.tmp 18), none, none⟩]
def scans_Pattern_r2 : List RO := [
    ⟨some 19, .mv (.tmp 10), none, none⟩,
    ⟨some 20, .len 0 (.tmp 19), none, none⟩,
    ⟨some 21, .fadr 0 (.tmp 4), none, none⟩,
    ⟨some 22, .load 4 true (.tmp 21), none, none⟩,
    ⟨some 23, .call 33 [(.tmp 22)], none, none⟩,
    ⟨some 24, .len 0 (.tmp 23), none, none⟩,
    ⟨some 25, .bin .neq (.tmp 20) (.tmp 24), none, none⟩]
def scans_Pattern_r3 : List RO := [
    ⟨some 26, .build [(1, (.const (.slice none 0 0))), (1, (.const (.slice none 0 0)))], none, none⟩,
    ⟨none, .store 2 (.tmp 8) (.tmp 26), none, none⟩,
    ⟨some 9, .mv (.const (.int .i64 8)), none, none⟩]
def scans_Pattern_r4 : List RO := [
    ⟨some 11, .mv (.func 72), none, none⟩]
def scans_Pattern_r5 : List RO := [
    ⟨some 27, .mv (.tmp 10), none, none⟩,
    ⟨some 28, .mv (.tmp 11), none, none⟩,
    ⟨some 29, .call 73 [(.tmp 27), (.tmp 28)], none, none⟩,
    ⟨some 30, .mv (.tmp 29), none, none⟩,
    ⟨some 31, .fadr 1 (.tmp 5), some (30, false), none⟩,
    ⟨some 32, .load 1 false (.tmp 31), some (30, false), none⟩,
    ⟨some 33, .mv (.tmp 11), some (30, false), none⟩,
    ⟨some 34, .call 73 [(.tmp 32), (.tmp 33)], some (30, false), none⟩,
    ⟨some 35, .pick (.tmp 30) (.const (.bool true)) (.tmp 34), none, none⟩]
def scans_Pattern_r6 : List RO := [
    ⟨some 36, .build [(1, (.const (.slice none 0 0))), (1, (.const (.slice none 0 0)))], none, none⟩,
    ⟨none, .store 2 (.tmp 8) (.tmp 36), none, none⟩,
    ⟨some 9, .mv (.const (.int .i64 1)), none, none⟩]
def scans_Pattern_r7 : List RO := [
    ⟨some 37, .mv (.tmp 10), none, none⟩,
    ⟨some 38, .call 74 [(.tmp 37)], none, none⟩,
    ⟨some 39, .fadr 1 (.tmp 5), none, none⟩,
    ⟨some 40, .ldT 1 false (.tmp 39), none, none⟩,
    ⟨some 41, .call 75 [(.tmp 40)], none, none⟩,
    ⟨some 42, .call 74 [(.tmp 41)], none, none⟩,
    ⟨some 43, .build [(1, (.tmp 38)), (1, (.tmp 42))], none, none⟩,
    ⟨none, .stR 8 2 (.tmp 8) (.tmp 43), none, none⟩,
    ⟨some 9, .mv (.const (.int .i64 0)), none, none⟩]
def scans_Pattern_ic : IC := (.seq (.reg scans_Pattern_r0 [.keep [2, 3, 4, 5, 8] [8]]) (.seq (.reg scans_Pattern_r1 [.keep [4, 5, 8, 10] [8]]) (.seq (.seq (.reg scans_Pattern_r2 [.keep [5, 8, 10, 25] [8]]) (.cond (.tmp 25) (.seq (.reg scans_Pattern_r3 [.keep [8, 9] [8]]) .ret) .skip)) (.seq (.seq (.reg scans_Pattern_r4 [.keep [5, 8, 10, 11] [8]]) (.seq (.reg scans_Pattern_r5 [.keep [5, 8, 10, 35] [8]]) (.cond (.tmp 35) (.seq (.reg scans_Pattern_r6 [.keep [8, 9] [8]]) .ret) .skip))) (.seq (.reg scans_Pattern_r7 [.keep [8, 9] [8]]) .ret)))))
@[simp ↓] theorem scans_Pattern_ic_run : run P Γ scans_Pattern_ic Q s = run P Γ (.seq (.reg scans_Pattern_r0 [.keep [2, 3, 4, 5, 8] [8]]) (.seq (.reg scans_Pattern_r1 [.keep [4, 5, 8, 10] [8]]) (.seq (.seq (.reg scans_Pattern_r2 [.keep [5, 8, 10, 25] [8]]) (.cond (.tmp 25) (.seq (.reg scans_Pattern_r3 [.keep [8, 9] [8]]) .ret) .skip)) (.seq (.seq (.reg scans_Pattern_r4 [.keep [5, 8, 10, 11] [8]]) (.seq (.reg scans_Pattern_r5 [.keep [5, 8, 10, 35] [8]]) (.cond (.tmp 35) (.seq (.reg scans_Pattern_r6 [.keep [8, 9] [8]]) .ret) .skip))) (.seq (.reg scans_Pattern_r7 [.keep [8, 9] [8]]) .ret))))) Q s := Eq.trans rfl rfl
attribute [simp] scans_Pattern_r0 scans_Pattern_r1 scans_Pattern_r2 scans_Pattern_r3 scans_Pattern_r4 scans_Pattern_r5 scans_Pattern_r6 scans_Pattern_r7
def scans_Pattern_rv : List RV := [.cell 8 2 true, .tmp 9]

/- probecard/scans.Pattern$1 (function 72) -/
def scans_Pattern_1_r0 : List RO := [
    ⟨some 2, .mv (.const (.bool false)), none, none⟩]
def scans_Pattern_1_r1 : List RO := [
    ⟨some 3, .mv (.tmp 0), none, none⟩,
    ⟨some 4, .bin .gtr (.tmp 3) (.const (.int .u8 3)), none, none⟩,
    ⟨some 2, .mv (.tmp 4), none, none⟩]
def scans_Pattern_1_ic : IC := (.seq (.reg scans_Pattern_1_r0 [.keep [0] []]) (.seq (.reg scans_Pattern_1_r1 [.keep [2] []]) .ret))
@[simp ↓] theorem scans_Pattern_1_ic_run : run P Γ scans_Pattern_1_ic Q s = run P Γ (.seq (.reg scans_Pattern_1_r0 [.keep [0] []]) (.seq (.reg scans_Pattern_1_r1 [.keep [2] []]) .ret)) Q s := Eq.trans rfl rfl
attribute [simp] scans_Pattern_1_r0 scans_Pattern_1_r1
def scans_Pattern_1_rv : List RV := [.tmp 2]

/- slices.Concat[[]probecard/api.Value,probecard/api.Value] (function 71) -/
def slices_Concat_api_Value_r0 : List RO := [
    ⟨some 2, .mv (.const (.slice none 0 0)), none, none⟩]
def slices_Concat_api_Value_r1 : List RO := [
    ⟨some 3, .mv (.const (.int .i64 0)), none, none⟩]
def slices_Concat_api_Value_r2 : List RO := [
    ⟨some 9, .mv (.tmp 0), none, none⟩,
    ⟨some 10, .len 0 (.tmp 9), none, none⟩,
    ⟨some 11, .mv (.const (.int .i64 0)), none, none⟩]
def slices_Concat_api_Value_r3 : List RO := [
    ⟨some 12, .bin .lss (.tmp 11) (.tmp 10), none, none⟩]
def slices_Concat_api_Value_r4 : List RO := [
    ⟨some 13, .iadr 1 (.tmp 9) (.tmp 11), none, none⟩,
    ⟨some 14, .load 1 false (.tmp 13), none, none⟩,
    ⟨some 5, .mv (.tmp 14), none, none⟩]
def slices_Concat_api_Value_r5 : List RO := [
    ⟨some 15, .mv (.tmp 3), none, none⟩,
    ⟨some 16, .mv (.tmp 5), none, none⟩,
    ⟨some 17, .len 0 (.tmp 16), none, none⟩,
    ⟨some 18, .bin .add (.tmp 15) (.tmp 17), none, none⟩,
    ⟨some 3, .mv (.tmp 18), none, none⟩]
def slices_Concat_api_Value_r6 : List RO := [
    ⟨some 19, .mv (.tmp 3), none, none⟩,
    ⟨some 20, .bin .lss (.tmp 19) (.const (.int .i64 0)), none, none⟩]
def slices_Concat_api_Value_r8 : List RO := [
    ⟨some 22, .bin .add (.tmp 11) (.const (.int .i64 1)), none, none⟩,
    ⟨some 11, .mv (.tmp 22), none, none⟩]
def slices_Concat_api_Value_g0 : IC := .gh (.seq (.reg slices_Concat_api_Value_r3 [.keep [0, 3, 9, 10, 11, 12] []]) (.seq (.cond (.tmp 12) .skip (.exit 0)) (.seq (.block 1 (.seq (.reg slices_Concat_api_Value_r4 [.keep [0, 3, 5, 9, 10, 11] []]) (.seq (.reg slices_Concat_api_Value_r5 [.keep [0, 3, 9, 10, 11] []]) (.seq (.reg slices_Concat_api_Value_r6 [.keep [0, 3, 9, 10, 11, 20] []]) (.cond (.tmp 20) .dead .skip))))) (.reg slices_Concat_api_Value_r8 [.keep [0, 3, 9, 10, 11] []])))) [.keep [0, 3, 9, 10, 11] []]
def slices_Concat_api_Value_l1 : IC := .loop slices_Concat_api_Value_g0
def slices_Concat_api_Value_r9 : List RO := [
    ⟨some 23, .mv (.tmp 3), none, none⟩,
    ⟨some 24, .hcall 101 [(.const (.slice none 0 0)), (.tmp 23)] [] 24000, none, none⟩,
    ⟨some 6, .mv (.tmp 24), none, none⟩]
def slices_Concat_api_Value_r10 : List RO := [
    ⟨some 25, .mv (.tmp 0), none, none⟩,
    ⟨some 26, .len 0 (.tmp 25), none, none⟩,
    ⟨some 27, .mv (.const (.int .i64 0)), none, none⟩]
def slices_Concat_api_Value_r11 : List RO := [
    ⟨some 28, .bin .lss (.tmp 27) (.tmp 26), none, none⟩]
def slices_Concat_api_Value_r12 : List RO := [
    ⟨some 29, .iadr 1 (.tmp 25) (.tmp 27), none, none⟩,
    ⟨some 30, .load 1 false (.tmp 29), none, none⟩,
    ⟨some 8, .mv (.tmp 30), none, none⟩]
def slices_Concat_api_Value_r13 : List RO := [
    ⟨some 31, .mv (.tmp 6), none, none⟩,
    ⟨some 32, .mv (.tmp 8), none, none⟩,
    ⟨some 33, .app false 73 1 (.tmp 31) (.tmp 32), none, some 24022⟩,
    ⟨some 6, .mv (.tmp 33), none, none⟩]
def slices_Concat_api_Value_r14 : List RO := [
    ⟨some 34, .bin .add (.tmp 27) (.const (.int .i64 1)), none, none⟩,
    ⟨some 27, .mv (.tmp 34), none, none⟩]
def slices_Concat_api_Value_g2 : IC := .gh (.seq (.reg slices_Concat_api_Value_r11 [.keep [6, 25, 26, 27, 28] [24022]]) (.seq (.cond (.tmp 28) .skip (.exit 2)) (.seq (.block 3 (.seq (.reg slices_Concat_api_Value_r12 [.keep [6, 8, 25, 26, 27] [24022]]) (.reg slices_Concat_api_Value_r13 [.keep [6, 25, 26, 27] [24022]]))) (.reg slices_Concat_api_Value_r14 [.keep [6, 25, 26, 27] [24022]])))) [.keep [6, 25, 26, 27] [24022]]
def slices_Concat_api_Value_l3 : IC := .loop slices_Concat_api_Value_g2
def slices_Concat_api_Value_r15 : List RO := [
    ⟨some 35, .mv (.tmp 6), none, none⟩,
    ⟨some 2, .mv (.tmp 35), none, none⟩]
def slices_Concat_api_Value_ic : IC := (.seq (.reg slices_Concat_api_Value_r0 [.keep [0] []]) (.seq (.reg slices_Concat_api_Value_r1 [.keep [0, 3] []]) (.seq (.seq (.reg slices_Concat_api_Value_r2 [.keep [0, 3, 9, 10, 11] []]) (.block 0 slices_Concat_api_Value_l1)) (.seq (.reg slices_Concat_api_Value_r9 [.keep [0, 6] [24022]]) (.seq (.seq (.reg slices_Concat_api_Value_r10 [.keep [6, 25, 26, 27] [24022]]) (.block 2 slices_Concat_api_Value_l3)) (.seq (.reg slices_Concat_api_Value_r15 [.keep [2] [24022]]) .ret))))))
@[simp ↓] theorem slices_Concat_api_Value_g0_run : run P Γ slices_Concat_api_Value_g0 Q s = run P Γ (.gh (.seq (.reg slices_Concat_api_Value_r3 [.keep [0, 3, 9, 10, 11, 12] []]) (.seq (.cond (.tmp 12) .skip (.exit 0)) (.seq (.block 1 (.seq (.reg slices_Concat_api_Value_r4 [.keep [0, 3, 5, 9, 10, 11] []]) (.seq (.reg slices_Concat_api_Value_r5 [.keep [0, 3, 9, 10, 11] []]) (.seq (.reg slices_Concat_api_Value_r6 [.keep [0, 3, 9, 10, 11, 20] []]) (.cond (.tmp 20) .dead .skip))))) (.reg slices_Concat_api_Value_r8 [.keep [0, 3, 9, 10, 11] []])))) [.keep [0, 3, 9, 10, 11] []]) Q s := Eq.trans rfl rfl
@[simp ↓] theorem slices_Concat_api_Value_g2_run : run P Γ slices_Concat_api_Value_g2 Q s = run P Γ (.gh (.seq (.reg slices_Concat_api_Value_r11 [.keep [6, 25, 26, 27, 28] [24022]]) (.seq (.cond (.tmp 28) .skip (.exit 2)) (.seq (.block 3 (.seq (.reg slices_Concat_api_Value_r12 [.keep [6, 8, 25, 26, 27] [24022]]) (.reg slices_Concat_api_Value_r13 [.keep [6, 25, 26, 27] [24022]]))) (.reg slices_Concat_api_Value_r14 [.keep [6, 25, 26, 27] [24022]])))) [.keep [6, 25, 26, 27] [24022]]) Q s := Eq.trans rfl rfl
@[simp ↓] theorem slices_Concat_api_Value_ic_run : run P Γ slices_Concat_api_Value_ic Q s = run P Γ (.seq (.reg slices_Concat_api_Value_r0 [.keep [0] []]) (.seq (.reg slices_Concat_api_Value_r1 [.keep [0, 3] []]) (.seq (.seq (.reg slices_Concat_api_Value_r2 [.keep [0, 3, 9, 10, 11] []]) (.block 0 slices_Concat_api_Value_l1)) (.seq (.reg slices_Concat_api_Value_r9 [.keep [0, 6] [24022]]) (.seq (.seq (.reg slices_Concat_api_Value_r10 [.keep [6, 25, 26, 27] [24022]]) (.block 2 slices_Concat_api_Value_l3)) (.seq (.reg slices_Concat_api_Value_r15 [.keep [2] [24022]]) .ret)))))) Q s := Eq.trans rfl rfl
theorem slices_Concat_api_Value_l1_run (h : ∀ K : St → Prop, K = run P Γ slices_Concat_api_Value_l1 Q → run P Γ slices_Concat_api_Value_g0 (thenX K Q) s) : run P Γ slices_Concat_api_Value_l1 Q s := run_loop h
theorem slices_Concat_api_Value_l3_run (h : ∀ K : St → Prop, K = run P Γ slices_Concat_api_Value_l3 Q → run P Γ slices_Concat_api_Value_g2 (thenX K Q) s) : run P Γ slices_Concat_api_Value_l3 Q s := run_loop h
attribute [simp] slices_Concat_api_Value_r0 slices_Concat_api_Value_r1 slices_Concat_api_Value_r2 slices_Concat_api_Value_r3 slices_Concat_api_Value_r4 slices_Concat_api_Value_r5 slices_Concat_api_Value_r6 slices_Concat_api_Value_r8 slices_Concat_api_Value_r9 slices_Concat_api_Value_r10 slices_Concat_api_Value_r11 slices_Concat_api_Value_r12 slices_Concat_api_Value_r13 slices_Concat_api_Value_r14 slices_Concat_api_Value_r15
def slices_Concat_api_Value_rv : List RV := [.tmp 2]

/- slices.Clone[[]probecard/api.Value,probecard/api.Value] (function 75) -/
def slices_Clone_api_Value_r0 : List RO := [
    ⟨some 2, .mv (.const (.slice none 0 0)), none, none⟩]
def slices_Clone_api_Value_r1 : List RO := [
    ⟨some 3, .mv (.tmp 0), none, none⟩,
    ⟨some 4, .isNil true (.tmp 3), none, none⟩]
def slices_Clone_api_Value_r2 : List RO := [
    ⟨some 2, .mv (.const (.slice none 0 0)), none, none⟩]
def slices_Clone_api_Value_r3 : List RO := [
    ⟨some 5, .bsl true 73 1 [], none, none⟩,
    ⟨some 6, .mv (.tmp 0), none, none⟩,
    ⟨some 7, .appT 73 1 (.tmp 5) (.tmp 6), none, none⟩,
    ⟨some 2, .mv (.tmp 7), none, none⟩]
def slices_Clone_api_Value_ic : IC := (.seq (.reg slices_Clone_api_Value_r0 [.keep [0] []]) (.seq (.seq (.reg slices_Clone_api_Value_r1 [.keep [0, 4] []]) (.cond (.tmp 4) (.seq (.reg slices_Clone_api_Value_r2 [.keep [2] []]) .ret) .skip)) (.seq (.reg slices_Clone_api_Value_r3 [.keep [2] []]) .ret)))
@[simp ↓] theorem slices_Clone_api_Value_ic_run : run P Γ slices_Clone_api_Value_ic Q s = run P Γ (.seq (.reg slices_Clone_api_Value_r0 [.keep [0] []]) (.seq (.seq (.reg slices_Clone_api_Value_r1 [.keep [0, 4] []]) (.cond (.tmp 4) (.seq (.reg slices_Clone_api_Value_r2 [.keep [2] []]) .ret) .skip)) (.seq (.reg slices_Clone_api_Value_r3 [.keep [2] []]) .ret))) Q s := Eq.trans rfl rfl
attribute [simp] slices_Clone_api_Value_r0 slices_Clone_api_Value_r1 slices_Clone_api_Value_r2 slices_Clone_api_Value_r3
def slices_Clone_api_Value_rv : List RV := [.tmp 2]

/- slices.Grow[[]probecard/api.Value,probecard/api.Value] (function 101) -/
def slices_Grow_api_Value_r0 : List RO := [
    ⟨some 4, .mv (.const (.slice none 0 0)), none, none⟩]
def slices_Grow_api_Value_r1 : List RO := [
    ⟨some 5, .mv (.tmp 1), none, none⟩,
    ⟨some 6, .bin .lss (.tmp 5) (.const (.int .i64 0)), none, none⟩]
def slices_Grow_api_Value_r3 : List RO := [
    ⟨some 8, .mv (.tmp 1), none, none⟩,
    ⟨some 9, .mv (.tmp 0), none, none⟩,
    ⟨some 10, .cap (.tmp 9), none, none⟩,
    ⟨some 11, .mv (.tmp 0), none, none⟩,
    ⟨some 12, .len 0 (.tmp 11), none, none⟩,
    ⟨some 13, .bin .sub (.tmp 10) (.tmp 12), none, none⟩,
    ⟨some 14, .bin .sub (.tmp 8) (.tmp 13), none, none⟩,
    ⟨some 1, .mv (.tmp 14), none, none⟩]
def slices_Grow_api_Value_r4 : List RO := [
    ⟨some 15, .mv (.tmp 1), none, none⟩,
    ⟨some 16, .bin .gtr (.tmp 15) (.const (.int .i64 0)), none, none⟩]
def slices_Grow_api_Value_r5 : List RO := [
    ⟨some 17, .mv (.tmp 0), none, none⟩,
    ⟨some 18, .mv (.tmp 0), none, none⟩,
    ⟨some 19, .cap (.tmp 18), none, none⟩,
    ⟨some 20, .slice 1 (.tmp 17) none (some (.tmp 19)) none, none, none⟩,
    ⟨some 21, .mv (.tmp 1), none, none⟩,
    ⟨some 22, .appZ 73 1 [(.int .u8 0)] (.tmp 20) (.tmp 21), none, none⟩,
    ⟨some 23, .mv (.tmp 0), none, none⟩,
    ⟨some 24, .len 0 (.tmp 23), none, none⟩,
    ⟨some 25, .slice 1 (.tmp 22) none (some (.tmp 24)) none, none, none⟩,
    ⟨some 0, .mv (.tmp 25), none, none⟩]
def slices_Grow_api_Value_r6 : List RO := [
    ⟨some 26, .mv (.tmp 0), none, none⟩,
    ⟨some 4, .mv (.tmp 26), none, none⟩]
def slices_Grow_api_Value_ic : IC := (.seq (.reg slices_Grow_api_Value_r0 [.keep [0, 1] [22]]) (.seq (.seq (.reg slices_Grow_api_Value_r1 [.keep [0, 1, 6] [22]]) (.cond (.tmp 6) .dead .skip)) (.seq (.seq (.reg slices_Grow_api_Value_r3 [.keep [0, 1] [22]]) (.seq (.reg slices_Grow_api_Value_r4 [.keep [0, 1, 16] [22]]) (.cond (.tmp 16) (.reg slices_Grow_api_Value_r5 [.keep [0] [22]]) .skip))) (.seq (.reg slices_Grow_api_Value_r6 [.keep [4] [22]]) .ret))))
@[simp ↓] theorem slices_Grow_api_Value_ic_run : run P Γ slices_Grow_api_Value_ic Q s = run P Γ (.seq (.reg slices_Grow_api_Value_r0 [.keep [0, 1] [22]]) (.seq (.seq (.reg slices_Grow_api_Value_r1 [.keep [0, 1, 6] [22]]) (.cond (.tmp 6) .dead .skip)) (.seq (.seq (.reg slices_Grow_api_Value_r3 [.keep [0, 1] [22]]) (.seq (.reg slices_Grow_api_Value_r4 [.keep [0, 1, 16] [22]]) (.cond (.tmp 16) (.reg slices_Grow_api_Value_r5 [.keep [0] [22]]) .skip))) (.seq (.reg slices_Grow_api_Value_r6 [.keep [4] [22]]) .ret)))) Q s := Eq.trans rfl rfl
attribute [simp] slices_Grow_api_Value_r0 slices_Grow_api_Value_r1 slices_Grow_api_Value_r3 slices_Grow_api_Value_r4 slices_Grow_api_Value_r5 slices_Grow_api_Value_r6
def slices_Grow_api_Value_rv : List RV := [.tmp 4]
end
end Go.Lg

/- The abstract code is that of the program (by the kernel). Conditions: none. -/
namespace Go.Lg
open Go Go.Proofs
theorem scans_Pattern_chk : chkF Tryd.prog 38 scans_Pattern_ic 44 4 scans_Pattern_rv = true := by kernel_rfl
theorem scans_Pattern_1_chk : chkF Tryd.prog 72 scans_Pattern_1_ic 5 1 scans_Pattern_1_rv = true := by kernel_rfl
theorem slices_Concat_api_Value_chk : chkF Tryd.prog 71 slices_Concat_api_Value_ic 36 1 slices_Concat_api_Value_rv = true := by kernel_rfl
theorem slices_Clone_api_Value_chk : chkF Tryd.prog 75 slices_Clone_api_Value_ic 8 1 slices_Clone_api_Value_rv = true := by kernel_rfl
theorem slices_Grow_api_Value_chk : chkF Tryd.prog 101 slices_Grow_api_Value_ic 27 2 slices_Grow_api_Value_rv = true := by kernel_rfl
end Go.Lg

/- slices.Concat of values. Conditions: none. -/
set_option linter.unusedSimpArgs false
set_option linter.unusedVariables false
set_option maxRecDepth 100000
namespace Go.Lg
open Go Go.Proofs
variable {Γ : Tables}

theorem grow_h (n : Nat) (h0 : 0 < n) (hn : n ≤ 1000000000) : HCalls Tryd.prog Γ 101 [] [.t (.sl [] (some 0) (some true)), .t (tI n)] (.ls 22 0 0 none) [(22, .sl 73 1 (List.replicate n [tK 0]))] := by
  refine run_handQ slices_Grow_api_Value_chk rfl ?_
  have h1 : (0 : Int) < n := by omega
  have h2 : ¬ (n : Int) < 0 := by omega
  have h3 : (n : Int) ≤ 2147483648 := by omega
  simp (disch := omega) [slices_Grow_api_Value_ic, slices_Grow_api_Value_rv, h1, h2, h3, h0, wrap_i64]

theorem concat_l1 {Q : AX → St → Prop} (ss : List (Sl Int)) (cap : Option Nat) (nl : Option Bool) (hs : ss.length ≤ 1000) (hl : ∀ s ∈ ss, s.l.length ≤ 1000000) (N : Nat)
    (h0 : Q (.exit 0) ⟨[(0, .t (.sl (enc1 tV ss) cap nl)), (3, .t (tI N)), (9, .t (.sl (enc1 tV ss) cap nl)), (10, .t (tI ss.length)), (11, .t (tI ss.length)), (12, .t (tB false))], []⟩) :
    ∀ (k i m : Nat), k + i = ss.length → m ≤ i * 1000000 → m + ((ss.drop i).flatMap (·.l)).length = N →
    run Tryd.prog Γ slices_Concat_api_Value_l1 Q ⟨[(0, .t (.sl (enc1 tV ss) cap nl)), (3, .t (tI m)), (9, .t (.sl (enc1 tV ss) cap nl)), (10, .t (tI ss.length)), (11, .t (tI i))], []⟩
  | 0, i, m, h, hm, hN => by
    refine slices_Concat_api_Value_l1_run fun K hK => ?_
    have h3 : i = ss.length := by omega
    subst h3
    rw [List.drop_of_length_le (Nat.le_refl _)] at hN
    simp at hN
    subst hN
    simp
    exact h0
  | k + 1, i, m, h, hm, hN => by
    refine slices_Concat_api_Value_l1_run fun K hK => ?_
    have h2 : i < ss.length := by omega
    rw [List.drop_eq_getElem_cons h2] at hN
    have e := enc1_get (f := tV) ⟨[], none, none⟩ h2
    have e2 : ss[i]?.getD ⟨[], none, none⟩ = ss[i] := by simp [h2]
    rw [e2] at e
    have hsl := hl _ (List.getElem_mem h2)
    generalize ss[i] = s at *
    simp at hN
    have ih := concat_l1 ss cap nl hs hl N h0 k (i + 1) (m + s.l.length) (by omega) (by omega) (by simp; omega)
    have e' : ∀ h : i < (enc1 tV ss).length, (enc1 tV ss)[i] = [tV s] := fun h => by rw [← e]; simp [h]
    have w1 : IntKind.i64.wrap ((m : Int) + (s.l.length : Int)) = ((m + s.l.length : Nat) : Int) := by rw [wrap_i64] <;> omega
    have w2 : ¬ ((m : Int) + (s.l.length : Int)) < 0 := by omega
    have w1' : IntKind.i64.wrap ((m : Int) + (s.l.length : Int)) = (m : Int) + (s.l.length : Int) := by rw [wrap_i64] <;> omega
    simp only [tV] at e e'
    simp [h2, enc1_len, enc1_wid, e, e', w1', w2]
    rw [wrap_i64 (by omega) (by omega), hK]
    simpa [tV] using ih

theorem concat_l3 {Q : AX → St → Prop} (ss : List (Sl Int)) (cap : Option Nat) (nl : Option Bool) (hs : ss.length ≤ 1000) (hl : ∀ s ∈ ss, s.l.length ≤ 1000000) (R : List Int)
    (h0 : ∀ E : List (List T), E.take R.length = vals R → flatReg (.sl 73 1 E) → Q (.exit 2) ⟨[(6, .ls 24022 0 R.length none), (25, .t (.sl (enc1 tV ss) cap nl)), (26, .t (tI ss.length)), (27, .t (tI ss.length)), (28, .t (tB false))], [(24022, .sl 73 1 E)]⟩) :
    ∀ (k i : Nat) (acc : List Int) (E : List (List T)), k + i = ss.length → acc.length ≤ i * 1000000 → E.take acc.length = vals acc → flatReg (.sl 73 1 E) → acc ++ (ss.drop i).flatMap (·.l) = R →
    run Tryd.prog Γ slices_Concat_api_Value_l3 Q ⟨[(6, .ls 24022 0 acc.length none), (25, .t (.sl (enc1 tV ss) cap nl)), (26, .t (tI ss.length)), (27, .t (tI i))], [(24022, .sl 73 1 E)]⟩
  | 0, i, acc, E, h, hm, hE, hF, hR => by
    refine slices_Concat_api_Value_l3_run fun K hK => ?_
    have h3 : i = ss.length := by omega
    subst h3
    rw [List.drop_of_length_le (Nat.le_refl _)] at hR
    simp at hR
    subst hR
    simp
    exact h0 E hE hF
  | k + 1, i, acc, E, h, hm, hE, hF, hR => by
    refine slices_Concat_api_Value_l3_run fun K hK => ?_
    have h2 : i < ss.length := by omega
    rw [List.drop_eq_getElem_cons h2] at hR
    have e := enc1_get (f := tV) ⟨[], none, none⟩ h2
    have e2 : ss[i]?.getD ⟨[], none, none⟩ = ss[i] := by simp [h2]
    rw [e2] at e
    have hsl := hl _ (List.getElem_mem h2)
    generalize ss[i] = s at *
    have q : vals acc ++ vals s.l = vals (acc ++ s.l) := enc1_app
    have ih := concat_l3 ss cap nl hs hl R h0 k (i + 1) (acc ++ s.l) (vals (acc ++ s.l)) (by omega) (by simp; omega) enc1_take_len (flatReg_enc1 fun _ => rfl) (by rw [← hR]; simp)
    have e' : ∀ h : i < (enc1 tV ss).length, (enc1 tV ss)[i] = [tV s] := fun h => by rw [← e]; simp [h]
    simp only [tV] at e e'
    have hm : min acc.length E.length = acc.length := by have := congrArg List.length hE; simpa [enc1_len] using this
    simp [h2, enc1_len, enc1_wid, e, e', hE, q, hm]
    refine ⟨by omega, ?_⟩
    rw [wrap_i64 (by omega) (by omega), hK]
    simpa [tV] using ih

theorem concat_spec (ss : List (Sl Int)) (cap : Option Nat) (nl : Option Bool) (hs : ss.length ≤ 1000) (hl : ∀ s ∈ ss, s.l.length ≤ 1000000) (h0 : 0 < (ss.flatMap (·.l)).length) :
    FreshCalls Tryd.prog Γ 71 [.sl (enc1 tV ss) cap nl] (.sl (vals (ss.flatMap (·.l))) none none) := by
  refine run_freshQ slices_Concat_api_Value_chk rfl ?_
  have hb : ∀ l : List (Sl Int), (∀ s ∈ l, s.l.length ≤ 1000000) → (l.flatMap (·.l)).length ≤ l.length * 1000000 := by
    intro l
    induction l with
    | nil => intro _; simp
    | cons s l ih =>
      intro h
      have h1 := h s List.mem_cons_self
      have h2 := ih fun x hx => h x (List.mem_cons_of_mem _ hx)
      simp at h2 ⊢
      omega
  have hb := hb ss hl
  have g1 := fun Q h0 => concat_l1 (Γ := Γ) (Q := Q) ss cap nl hs hl (ss.flatMap (·.l)).length h0 ss.length 0 0 (by omega) (by omega) (by simp)
  have g2 := grow_h (Γ := Γ) (ss.flatMap (·.l)).length h0 (by omega)
  have g3 := fun Q h0 E hE hF => concat_l3 (Γ := Γ) (Q := Q) ss cap nl hs hl (ss.flatMap (·.l)) h0 ss.length 0 [] E (by omega) (by simp) hE hF (by simp)
  generalize ss.flatMap (·.l) = R at *
  simp [slices_Concat_api_Value_ic, enc1_len]
  refine g1 _ ?_
  simp
  refine ⟨_, _, g2, ?_⟩
  simp [enc1_len]
  refine g3 _ (fun E hE hF => ?_) _ (by simp [enc1]) (fun e he t ht => by rw [List.eq_of_mem_replicate he] at ht; simp at ht; subst ht; rfl)
  simp [slices_Concat_api_Value_rv, hE]
  exact hF
end Go.Lg

/- Searches in lists of values; Bus, Eval. Conditions: none. -/
set_option linter.unusedSimpArgs false
set_option linter.unusedVariables false
set_option maxRecDepth 100000
namespace Go.Lg
open Go Go.Proofs
variable {Γ : Tables}

theorem indexfunc_val_loop {Q : AX → St → Prop} (l : List Int) (c : Option Nat) (nl : Option Bool) (f : FuncId) (cs : List T) (p : Int → Bool) (hp : ∀ x ∈ l, FreshCalls Tryd.prog Γ f (tK x :: cs) (tB (p x))) (hl : l.length ≤ 1000000000)
    (h0 : (∀ x ∈ l, p x = false) → Q (.exit 0) ⟨[(0, .t (.sl (enc1 tK l) c nl)), (1, .t (.fn f cs)), (7, .t (tI l.length)), (8, .t (tI l.length)), (9, .t (tB false))], []⟩)
    (h1 : ∀ i : Nat, l.findIdx? p = some i → Q .ret ⟨[(4, .t (tI i))], []⟩) : ∀ (k i : Nat), k + i = l.length → (∀ j, j < i → ∀ y, l[j]? = some y → p y = false) →
    run Tryd.prog Γ slices_IndexFunc_api_Value_l1 Q ⟨[(0, .t (.sl (enc1 tK l) c nl)), (1, .t (.fn f cs)), (7, .t (tI l.length)), (8, .t (tI i))], []⟩
  | 0, i, h, hq => by
    refine slices_IndexFunc_api_Value_l1_run fun K hK => ?_
    have h2 : ¬ i < l.length := by omega
    simp (disch := omega) [enc1_len, enc1_get (0 : Int), enc1_wid, wrap_i64, h2]
    have h3 : i = l.length := by omega
    subst h3
    refine h0 fun y hy => ?_
    obtain ⟨j, hj, rfl⟩ := List.getElem_of_mem hy
    exact hq j (by omega) _ (List.getElem?_eq_getElem hj)
  | k + 1, i, h, hq => by
    refine slices_IndexFunc_api_Value_l1_run fun K hK => ?_
    have h2 : i < l.length := by omega
    simp (disch := omega) [enc1_len, enc1_get (0 : Int), enc1_wid, wrap_i64, h2]
    refine callK_clos (hp l[i] (List.getElem_mem h2)) ?_
    simp
    refine ⟨fun hc => ?_, fun hc => ?_⟩
    · simp [Later]
      exact h1 i (findIdx_at hq l[i] (List.getElem?_eq_getElem h2) hc)
    · simp (disch := omega) [Later, wrap_i64]
      rw [hK]
      exact_mod_cast indexfunc_val_loop l c nl f cs p hp hl h0 h1 k (i + 1) (by omega) (fun j hj y hy => by
        rcases Nat.lt_succ_iff_lt_or_eq.1 hj with hj | rfl
        · exact hq j hj y hy
        · rw [List.getElem?_eq_getElem h2] at hy; simp at hy; subst hy; exact hc)

theorem indexfunc_val (l : List Int) (c : Option Nat) (nl : Option Bool) (f : FuncId) (cs : List T) (p : Int → Bool) (hp : ∀ x ∈ l, FreshCalls Tryd.prog Γ f (tK x :: cs) (tB (p x))) (hl : l.length ≤ 1000000000) : FreshCalls Tryd.prog Γ 102 [.sl (enc1 tK l) c nl, .fn f cs] (tI (idxP p l)) := by
  refine run_freshQ slices_IndexFunc_api_Value_chk rfl ?_
  simp (disch := omega) [slices_IndexFunc_api_Value_ic, enc1_len, wrap_i64]
  refine indexfunc_val_loop l c nl f cs p hp hl (fun h => ?_) (fun i h => ?_) l.length 0 (by omega) (by simp)
  · have : l.findIdx? p = none := List.findIdx?_eq_none_iff.2 h
    simp [ret, slices_IndexFunc_api_Value_rv, flatSt, flatL, flatA, flatT, idxP, this]
  · simp [ret, slices_IndexFunc_api_Value_rv, flatSt, flatL, flatA, flatT, idxP, h]

theorem containsfunc_val (l : List Int) (c : Option Nat) (nl : Option Bool) (f : FuncId) (cs : List T) (p : Int → Bool) (hp : ∀ x ∈ l, FreshCalls Tryd.prog Γ f (tK x :: cs) (tB (p x))) (hl : l.length ≤ 1000000000) : FreshCalls Tryd.prog Γ 73 [.sl (enc1 tK l) c nl, .fn f cs] (tB (l.any p)) := by
  refine run_freshQ slices_ContainsFunc_api_Value_chk rfl ?_
  simp (disch := omega) [slices_ContainsFunc_api_Value_ic, enc1_len, wrap_i64]
  refine callK_fresh (indexfunc_val l c nl f cs p hp hl) rfl ?_
  simp [ret, slices_ContainsFunc_api_Value_rv, flatSt, flatL, flatA, flatT]
  unfold idxP
  cases h : l.findIdx? p with
  | none =>
    rw [List.findIdx?_eq_none_iff] at h
    have : l.any p = false := by rw [List.any_eq_false]; intro x hx; simp [h x hx]
    simp [this]
  | some i =>
    rw [List.findIdx?_eq_some_iff_getElem] at h
    obtain ⟨hi, h1, _⟩ := h
    have : l.any p = true := List.any_eq_true.2 ⟨_, List.getElem_mem hi, h1⟩
    simp [this]

end Go.Lg

/- The abstract code of some functions, as the program gen.py prints it. Conditions: none. -/
set_option linter.unusedVariables false
namespace Go.Lg
open Go
section
variable {P : Program} {Γ : Tables} {Q : AX → St → Prop} {s : St}
/- probecard/sims.fits (function 53) -/
def netlists_Inputs_r0 : List RO := [
    ⟨some 1, .box true (.tmp 0), none, none⟩,
    ⟨some 2, .mv (.const (.slice none 0 0)), none, none⟩]
def netlists_Inputs_r1 : List RO := [
    ⟨some 3, .load 4 true (.tmp 1), none, none⟩,
    ⟨some 4, .bsl true 41 1 [(.const (.int .u8 0))], none, none⟩,
    ⟨some 5, .call 15 [(.tmp 3), (.tmp 4)], none, none⟩,
    ⟨some 2, .mv (.tmp 5), none, none⟩]
def netlists_Inputs_ic : IC := (.seq (.reg netlists_Inputs_r0 [.keep [1] []]) (.seq (.reg netlists_Inputs_r1 [.keep [2] []]) .ret))
@[simp ↓] theorem netlists_Inputs_ic_run : run P Γ netlists_Inputs_ic Q s = run P Γ (.seq (.reg netlists_Inputs_r0 [.keep [1] []]) (.seq (.reg netlists_Inputs_r1 [.keep [2] []]) .ret)) Q s := Eq.trans rfl rfl
attribute [simp] netlists_Inputs_r0 netlists_Inputs_r1
def netlists_Inputs_rv : List RV := [.tmp 2]

/- slices.Clip[[]probecard/api.Value,probecard/api.Value] (function 74) -/
def slices_Clip_api_Value_r0 : List RO := [
    ⟨some 2, .mv (.const (.slice none 0 0)), none, none⟩]
def slices_Clip_api_Value_r1 : List RO := [
    ⟨some 3, .mv (.tmp 0), none, none⟩,
    ⟨some 4, .mv (.tmp 0), none, none⟩,
    ⟨some 5, .len 0 (.tmp 4), none, none⟩,
    ⟨some 6, .mv (.tmp 0), none, none⟩,
    ⟨some 7, .len 0 (.tmp 6), none, none⟩,
    ⟨some 8, .slice 1 (.tmp 3) none (some (.tmp 5)) (some (.tmp 7)), none, none⟩,
    ⟨some 2, .mv (.tmp 8), none, none⟩]
def slices_Clip_api_Value_ic : IC := (.seq (.reg slices_Clip_api_Value_r0 [.keep [0] [1000000]]) (.seq (.reg slices_Clip_api_Value_r1 [.keep [2] [1000000]]) .ret))
@[simp ↓] theorem slices_Clip_api_Value_ic_run : run P Γ slices_Clip_api_Value_ic Q s = run P Γ (.seq (.reg slices_Clip_api_Value_r0 [.keep [0] [1000000]]) (.seq (.reg slices_Clip_api_Value_r1 [.keep [2] [1000000]]) .ret)) Q s := Eq.trans rfl rfl
attribute [simp] slices_Clip_api_Value_r0 slices_Clip_api_Value_r1
def slices_Clip_api_Value_rv : List RV := [.tmp 2]
end
end Go.Lg

/- The abstract code is that of the program (by the kernel). Conditions: none. -/
namespace Go.Lg
open Go Go.Proofs
theorem netlists_Inputs_chk : chkF Tryd.prog 33 netlists_Inputs_ic 6 1 netlists_Inputs_rv = true := by kernel_rfl
theorem slices_Clip_api_Value_chk : chkF Tryd.prog 74 slices_Clip_api_Value_ic 9 1 slices_Clip_api_Value_rv = true := by kernel_rfl
end Go.Lg

/- Package sims: fits, load, value. Conditions: none. -/
set_option linter.unusedSimpArgs false
set_option linter.unusedVariables false
set_option maxRecDepth 100000
namespace Go.Lg
open Go Go.Proofs
variable {Γ : Tables}

theorem inputs_spec (c : Cir) (hc : COk c) : PureCalls Tryd.prog Γ 33 [.agg (tC c)] (.sl (ints (inputs c)) (some (inputs c).length) none) := by
  refine run_pureQ netlists_Inputs_chk rfl ?_
  simp [netlists_Inputs_ic, tC, tNodes, tNames, tMems, tSl]
  refine callK_fresh (of_one c hc 0) rfl ?_
  simp [netlists_Inputs_rv, inputs]
theorem clip_val (es : List (List T)) (cap : Option Nat) (nl : Option Bool) (hw : wid 1 es) : PureCalls Tryd.prog Γ 74 [.sl es cap nl] (.sl es (some es.length) nl) := by
  refine run_pureQ slices_Clip_api_Value_chk rfl ?_
  simp [slices_Clip_api_Value_ic, slices_Clip_api_Value_rv, ret, hw]
def aboveV (v : Int) : Bool := decide (3 < v)
structure Pat where
  inn : Sl Int
  st : Sl Int
def tP (p : Pat) : List T := [tV p.inn, tV p.st]

theorem inputs_len (c : Cir) : (inputs c).length ≤ c.nodes.l.length := ofL_len _ _ _
end Go.Lg

/- Package sims: value, observe. Conditions: none. -/
set_option linter.unusedSimpArgs false
set_option linter.unusedVariables false
set_option maxRecDepth 100000
namespace Go.Lg
open Go Go.Proofs
variable {Γ : Tables}

@[simp] theorem wid_sing {s : Nat} {e : List T} : wid s [e] = (e.length = s) := propext ⟨fun h => h e List.mem_cons_self, fun h x hx => by simp at hx; subst hx; exact h⟩

theorem vals_take {l : List Int} : (vals l).take l.length = vals l := enc1_take_len

/-- A list of values, without spare capacity. -/
def tVs (l : List Int) : T := .sl (vals l) (some l.length) none
end Go.Lg

/- The abstract code of some functions, as the program gen.py prints it. Conditions: none. -/
set_option linter.unusedVariables false
namespace Go.Lg
open Go
section
variable {P : Program} {Γ : Tables} {Q : AX → St → Prop} {s : St}
/- probecard/probecardlaw34.ScansInsert (function 10) -/
def scans_Insert_r0 : List RO := [
    ⟨some 2, .box true (.tmp 0), none, none⟩,
    ⟨some 4, .alloc false [(.slice none 0 0), (.slice none 0 0), (.slice none 0 0), (.slice none 0 0), (.slice none 0 0), (.int .i64 0), (.slice none 0 0), (.slice none 0 0)], none, none⟩,
    ⟨some 5, .mv (.const (.int .i64 0)), none, none⟩]
def scans_Insert_r1 : List RO := [
    ⟨some 21, .load 4 true (.tmp 2), none, none⟩,
    ⟨some 22, .mv (.tmp 1), none, none⟩,
    ⟨some 23, .call 18 [(.tmp 21), (.tmp 22)], none, none⟩,
    ⟨some 6, .mv (.tmp 23), none, none⟩]
def scans_Insert_r2 : List RO := [
    ⟨some 24, .mv (.tmp 6), none, none⟩,
    ⟨some 25, .bin .neq (.tmp 24) (.const (.int .i64 0)), none, none⟩]
def scans_Insert_r3 : List RO := [
    ⟨some 26, .build [(4, (.const (.agg #[(.slice none 0 0), (.slice none 0 0), (.slice none 0 0), (.slice none 0 0)]))), (1, (.const (.slice none 0 0))), (1, (.const (.int .i64 0))), (1, (.const (.slice none 0 0))), (1, (.const (.slice none 0 0)))], none, none⟩,
    ⟨some 27, .mv (.tmp 6), none, none⟩,
    ⟨none, .store 8 (.tmp 4) (.tmp 26), none, none⟩,
    ⟨some 5, .mv (.tmp 27), none, none⟩]
def scans_Insert_r4 : List RO := [
    ⟨some 28, .load 4 true (.tmp 2), none, none⟩,
    ⟨some 29, .call 17 [(.tmp 28)], none, none⟩,
    ⟨some 7, .mv (.tmp 29), none, none⟩]
def scans_Insert_r5 : List RO := [
    ⟨some 30, .fadr 0 (.tmp 2), none, none⟩,
    ⟨some 31, .load 1 false (.tmp 30), none, none⟩,
    ⟨some 32, .len 0 (.tmp 31), none, none⟩,
    ⟨some 33, .bin .add (.tmp 32) (.const (.int .i64 1)), none, none⟩,
    ⟨some 34, .mv (.tmp 1), none, none⟩,
    ⟨some 35, .len 0 (.tmp 34), none, none⟩,
    ⟨some 36, .bin .add (.tmp 33) (.tmp 35), none, none⟩,
    ⟨some 37, .mv (.tmp 7), none, none⟩,
    ⟨some 38, .len 0 (.tmp 37), none, none⟩,
    ⟨some 39, .bin .add (.tmp 36) (.tmp 38), none, none⟩,
    ⟨some 40, .bin .gtr (.tmp 39) (.const (.int .i64 16384)), none, none⟩]
def scans_Insert_r6 : List RO := [
    ⟨some 41, .build [(4, (.const (.agg #[(.slice none 0 0), (.slice none 0 0), (.slice none 0 0), (.slice none 0 0)]))), (1, (.const (.slice none 0 0))), (1, (.const (.int .i64 0))), (1, (.const (.slice none 0 0))), (1, (.const (.slice none 0 0)))], none, none⟩,
    ⟨none, .store 8 (.tmp 4) (.tmp 41), none, none⟩,
    ⟨some 5, .mv (.const (.int .i64 3)), none, none⟩]
def scans_Insert_r7 : List RO := [
    ⟨some 42, .load 4 true (.tmp 2), none, none⟩,
    ⟨some 43, .call 66 [(.tmp 42)], none, none⟩,
    ⟨some 44, .mkmap, none, none⟩,
    ⟨some 45, .build [(4, (.tmp 43)), (1, (.tmp 44)), (1, (.const (.bool false)))], none, none⟩,
    ⟨some 46, .box false (.tmp 45), none, none⟩,
    ⟨some 8, .mv (.tmp 46), none, none⟩]
def scans_Insert_r8 : List RO := [
    ⟨some 47, .fadr 1 (.tmp 2), none, none⟩,
    ⟨some 48, .load 1 false (.tmp 47), none, none⟩,
    ⟨some 49, .len 0 (.tmp 48), none, none⟩,
    ⟨some 50, .mv (.const (.int .i64 0)), none, none⟩]
def scans_Insert_r9 : List RO := [
    ⟨some 51, .bin .lss (.tmp 50) (.tmp 49), none, none⟩]
def scans_Insert_r10 : List RO := [
    ⟨some 52, .iadr 1 (.tmp 48) (.tmp 50), none, none⟩,
    ⟨some 53, .load 1 false (.tmp 52), none, none⟩,
    ⟨some 10, .mv (.tmp 53), none, none⟩]
def scans_Insert_r11 : List RO := [
    ⟨some 54, .mv (.tmp 8), none, none⟩,
    ⟨some 55, .nck (.tmp 54), none, none⟩,
    ⟨some 56, .fadr 4 (.tmp 55), none, none⟩,
    ⟨some 57, .load 1 false (.tmp 56), none, none⟩,
    ⟨some 58, .mv (.tmp 10), none, none⟩,
    ⟨none, .mup .str (.tmp 57) (.tmp 58) (.const (.bool true)), none, none⟩]
def scans_Insert_r12 : List RO := [
    ⟨some 59, .bin .add (.tmp 50) (.const (.int .i64 1)), none, none⟩,
    ⟨some 50, .mv (.tmp 59), none, none⟩]
def scans_Insert_g0 : IC := .gh (.seq (.reg scans_Insert_r9 [.keep [1, 2, 4, 7, 8, 48, 49, 50, 51] [4, 44, 46, 78, 90, 111, 157, 62040, 62052]]) (.seq (.cond (.tmp 51) .skip (.exit 0)) (.seq (.block 1 (.seq (.reg scans_Insert_r10 [.keep [1, 2, 4, 7, 8, 10, 48, 49, 50] [4, 44, 46, 78, 90, 111, 157, 62040, 62052]]) (.reg scans_Insert_r11 [.keep [1, 2, 4, 7, 8, 48, 49, 50] [4, 44, 46, 78, 90, 111, 157, 62040, 62052]]))) (.reg scans_Insert_r12 [.keep [1, 2, 4, 7, 8, 48, 49, 50] [4, 44, 46, 78, 90, 111, 157, 62040, 62052]])))) [.keep [1, 2, 4, 7, 8, 48, 49, 50] [4, 44, 46, 78, 90, 111, 157, 62040, 62052]]
def scans_Insert_l1 : IC := .loop scans_Insert_g0
def scans_Insert_r13 : List RO := [
    ⟨some 11, .alloc false [(.slice none 0 0), (.slice none 0 0), (.slice none 0 0), (.slice none 0 0), (.slice none 0 0), (.int .i64 0), (.slice none 0 0), (.slice none 0 0)], none, none⟩]
def scans_Insert_r14 : List RO := [
    ⟨some 60, .mv (.tmp 8), none, none⟩,
    ⟨some 61, .build [(1, (.const (.int .u8 0))), (1, (.const (.slice none 0 0))), (1, (.const (.int .i64 0))), (1, (.const (.int .i64 0)))], none, none⟩,
    ⟨some 62, .hcall 67 [(.tmp 60), (.tmp 61), (.const (sV [115, 101]))] [44, 46, 111, 62040, 62052] 62000, none, none⟩,
    ⟨some 63, .fadr 5 (.tmp 11), none, none⟩,
    ⟨none, .store 1 (.tmp 63) (.tmp 62), none, none⟩]
def scans_Insert_r15 : List RO := [
    ⟨some 64, .mkmap, none, none⟩,
    ⟨some 12, .mv (.tmp 64), none, none⟩]
def scans_Insert_r16 : List RO := [
    ⟨some 65, .mv (.tmp 1), none, none⟩,
    ⟨some 66, .len 0 (.tmp 65), none, none⟩,
    ⟨some 67, .mv (.const (.int .i64 0)), none, none⟩]
def scans_Insert_r17 : List RO := [
    ⟨some 68, .bin .lss (.tmp 67) (.tmp 66), none, none⟩]
def scans_Insert_r18 : List RO := [
    ⟨some 69, .mv (.tmp 67), none, none⟩,
    ⟨some 70, .iadr 1 (.tmp 65) (.tmp 67), none, none⟩,
    ⟨some 71, .load 1 false (.tmp 70), none, none⟩,
    ⟨some 13, .mv (.tmp 69), none, none⟩,
    ⟨some 14, .mv (.tmp 71), none, none⟩]
def scans_Insert_r19 : List RO := [
    ⟨some 72, .fadr 4 (.tmp 11), none, none⟩,
    ⟨some 73, .ldR 11 1 false (.tmp 72), none, none⟩,
    ⟨some 74, .mv (.tmp 14), none, none⟩,
    ⟨some 75, .call 43 [(.tmp 74)], none, none⟩,
    ⟨some 76, .call 42 [(.tmp 75)], none, none⟩,
    ⟨some 77, .bsl true 31 1 [(.tmp 76)], none, none⟩,
    ⟨some 78, .app false 31 1 (.tmp 73) (.tmp 77), none, none⟩,
    ⟨some 79, .fadr 4 (.tmp 11), none, none⟩,
    ⟨none, .stR 11 1 (.tmp 79) (.tmp 78), none, none⟩]
def scans_Insert_r20 : List RO := [
    ⟨some 80, .mv (.tmp 8), none, none⟩,
    ⟨some 81, .build [(1, (.const (.int .u8 0))), (1, (.const (.slice none 0 0))), (1, (.const (.int .i64 0))), (1, (.const (.int .i64 0)))], none, none⟩,
    ⟨some 82, .mv (.tmp 13), none, none⟩,
    ⟨some 83, .call 68 [(.tmp 82)], none, none⟩,
    ⟨some 84, .bin .add (.const (sV [115, 105])) (.tmp 83), none, none⟩,
    ⟨some 85, .hcall 67 [(.tmp 80), (.tmp 81), (.tmp 84)] [44, 46, 111, 62040, 62052] 85000, none, none⟩,
    ⟨some 15, .mv (.tmp 85), none, none⟩]
def scans_Insert_r21 : List RO := [
    ⟨some 86, .fadr 6 (.tmp 11), none, none⟩,
    ⟨some 87, .load 1 false (.tmp 86), none, none⟩,
    ⟨some 88, .mv (.tmp 15), none, none⟩,
    ⟨some 89, .bsl true 3 1 [(.tmp 88)], none, none⟩,
    ⟨some 90, .app false 3 1 (.tmp 87) (.tmp 89), none, none⟩,
    ⟨some 91, .fadr 6 (.tmp 11), none, none⟩,
    ⟨none, .store 1 (.tmp 91) (.tmp 90), none, none⟩]
def scans_Insert_r22 : List RO := [
    ⟨some 92, .mv (.tmp 14), none, none⟩,
    ⟨some 93, .len 0 (.tmp 92), none, none⟩,
    ⟨some 94, .mv (.const (.int .i64 0)), none, none⟩]
def scans_Insert_r23 : List RO := [
    ⟨some 95, .bin .lss (.tmp 94) (.tmp 93), none, none⟩]
def scans_Insert_r24 : List RO := [
    ⟨some 96, .iadr 1 (.tmp 92) (.tmp 94), none, none⟩,
    ⟨some 97, .load 1 false (.tmp 96), none, none⟩,
    ⟨some 17, .mv (.tmp 97), none, none⟩]
def scans_Insert_r25 : List RO := [
    ⟨some 98, .mv (.tmp 12), none, none⟩,
    ⟨some 99, .mv (.tmp 17), none, none⟩,
    ⟨some 100, .mv (.tmp 15), none, none⟩,
    ⟨some 101, .mv (.tmp 17), none, none⟩,
    ⟨none, .mup (.int .i64) (.tmp 98) (.tmp 99) (.tmp 100), none, none⟩,
    ⟨some 15, .mv (.tmp 101), none, none⟩]
def scans_Insert_r26 : List RO := [
    ⟨some 102, .bin .add (.tmp 94) (.const (.int .i64 1)), none, none⟩,
    ⟨some 94, .mv (.tmp 102), none, none⟩]
def scans_Insert_g2 : IC := .gh (.seq (.reg scans_Insert_r23 [.keep [2, 4, 7, 8, 11, 12, 15, 65, 66, 67, 92, 93, 94, 95] [4, 11, 44, 46, 64, 78, 90, 111, 157, 62040, 62052]]) (.seq (.cond (.tmp 95) .skip (.exit 4)) (.seq (.block 5 (.seq (.reg scans_Insert_r24 [.keep [2, 4, 7, 8, 11, 12, 15, 17, 65, 66, 67, 92, 93, 94] [4, 11, 44, 46, 64, 78, 90, 111, 157, 62040, 62052]]) (.reg scans_Insert_r25 [.keep [2, 4, 7, 8, 11, 12, 15, 65, 66, 67, 92, 93, 94] [4, 11, 44, 46, 64, 78, 90, 111, 157, 62040, 62052]]))) (.reg scans_Insert_r26 [.keep [2, 4, 7, 8, 11, 12, 15, 65, 66, 67, 92, 93, 94] [4, 11, 44, 46, 64, 78, 90, 111, 157, 62040, 62052]])))) [.keep [2, 4, 7, 8, 11, 12, 15, 65, 66, 67, 92, 93, 94] [4, 11, 44, 46, 64, 78, 90, 111, 157, 62040, 62052]]
def scans_Insert_l3 : IC := .loop scans_Insert_g2
def scans_Insert_r27 : List RO := [
    ⟨some 103, .mv (.tmp 8), none, none⟩,
    ⟨some 104, .mv (.tmp 8), none, none⟩,
    ⟨some 105, .nck (.tmp 104), none, none⟩,
    ⟨some 106, .fadr 0 (.tmp 105), none, none⟩,
    ⟨some 107, .fadr 3 (.tmp 106), none, none⟩,
    ⟨some 108, .load 1 false (.tmp 107), none, none⟩,
    ⟨some 109, .mv (.tmp 15), none, none⟩,
    ⟨some 110, .bsl true 3 1 [(.tmp 109)], none, none⟩,
    ⟨some 111, .app false 3 1 (.tmp 108) (.tmp 110), none, none⟩,
    ⟨some 112, .nck (.tmp 103), none, none⟩,
    ⟨some 113, .fadr 0 (.tmp 112), none, none⟩,
    ⟨some 114, .fadr 3 (.tmp 113), none, none⟩,
    ⟨none, .store 1 (.tmp 114) (.tmp 111), none, none⟩]
def scans_Insert_r28 : List RO := [
    ⟨some 115, .bin .add (.tmp 67) (.const (.int .i64 1)), none, none⟩,
    ⟨some 67, .mv (.tmp 115), none, none⟩]
def scans_Insert_g4 : IC := .gh (.seq (.reg scans_Insert_r17 [.keep [2, 4, 7, 8, 11, 12, 65, 66, 67, 68] [4, 11, 44, 46, 64, 78, 90, 111, 157, 62040, 62052]]) (.seq (.cond (.tmp 68) .skip (.exit 2)) (.seq (.block 3 (.seq (.reg scans_Insert_r18 [.keep [2, 4, 7, 8, 11, 12, 13, 14, 65, 66, 67] [4, 11, 44, 46, 64, 78, 90, 111, 157, 62040, 62052]]) (.seq (.reg scans_Insert_r19 [.keep [2, 4, 7, 8, 11, 12, 13, 14, 65, 66, 67] [4, 11, 44, 46, 64, 78, 90, 111, 157, 62040, 62052]]) (.seq (.reg scans_Insert_r20 [.ren 85040 62040, .ren 85052 62052, .keep [2, 4, 7, 8, 11, 12, 14, 15, 65, 66, 67] [4, 11, 44, 46, 64, 78, 90, 111, 157, 62040, 62052]]) (.seq (.reg scans_Insert_r21 [.keep [2, 4, 7, 8, 11, 12, 14, 15, 65, 66, 67] [4, 11, 44, 46, 64, 78, 90, 111, 157, 62040, 62052]]) (.seq (.seq (.reg scans_Insert_r22 [.keep [2, 4, 7, 8, 11, 12, 15, 65, 66, 67, 92, 93, 94] [4, 11, 44, 46, 64, 78, 90, 111, 157, 62040, 62052]]) (.block 4 scans_Insert_l3)) (.reg scans_Insert_r27 [.keep [2, 4, 7, 8, 11, 12, 65, 66, 67] [4, 11, 44, 46, 64, 78, 90, 111, 157, 62040, 62052]]))))))) (.reg scans_Insert_r28 [.keep [2, 4, 7, 8, 11, 12, 65, 66, 67] [4, 11, 44, 46, 64, 78, 90, 111, 157, 62040, 62052]])))) [.keep [2, 4, 7, 8, 11, 12, 65, 66, 67] [4, 11, 44, 46, 64, 78, 90, 111, 157, 62040, 62052]]
def scans_Insert_l5 : IC := .loop scans_Insert_g4
def scans_Insert_r29 : List RO := [
    ⟨some 116, .mv (.tmp 7), none, none⟩,
    ⟨some 117, .len 0 (.tmp 116), none, none⟩,
    ⟨some 118, .mv (.const (.int .i64 0)), none, none⟩]
def scans_Insert_r30 : List RO := [
    ⟨some 119, .bin .lss (.tmp 118) (.tmp 117), none, none⟩]
def scans_Insert_r31 : List RO := [
    ⟨some 120, .mv (.tmp 118), none, none⟩,
    ⟨some 121, .iadr 1 (.tmp 116) (.tmp 118), none, none⟩,
    ⟨some 122, .load 1 false (.tmp 121), none, none⟩,
    ⟨some 18, .mv (.tmp 120), none, none⟩,
    ⟨some 19, .mv (.tmp 122), none, none⟩]
def scans_Insert_r32 : List RO := [
    ⟨some 123, .mv (.tmp 8), none, none⟩,
    ⟨some 124, .fadr 5 (.tmp 11), none, none⟩,
    ⟨some 125, .load 1 false (.tmp 124), none, none⟩,
    ⟨some 126, .fadr 0 (.tmp 2), none, none⟩,
    ⟨some 127, .load 1 false (.tmp 126), none, none⟩,
    ⟨some 128, .mv (.tmp 19), none, none⟩,
    ⟨some 129, .iadr 4 (.tmp 127) (.tmp 128), none, none⟩,
    ⟨some 130, .fadr 1 (.tmp 129), none, none⟩,
    ⟨some 131, .load 1 false (.tmp 130), none, none⟩,
    ⟨some 132, .iadr 1 (.tmp 131) (.const (.int .i64 0)), none, none⟩,
    ⟨some 133, .load 1 false (.tmp 132), none, none⟩,
    ⟨some 134, .mv (.tmp 12), none, none⟩,
    ⟨some 135, .mv (.tmp 19), none, none⟩,
    ⟨some 136, .lkup (.int .i64) (.int .i64 0) false (.tmp 134) (.tmp 135), none, none⟩,
    ⟨some 137, .bsl true 3 1 [(.tmp 125), (.tmp 133), (.tmp 136)], none, none⟩,
    ⟨some 138, .build [(1, (.const (.int .u8 11))), (1, (.tmp 137)), (1, (.const (.int .i64 0))), (1, (.const (.int .i64 0)))], none, none⟩,
    ⟨some 139, .mv (.tmp 18), none, none⟩,
    ⟨some 140, .call 68 [(.tmp 139)], none, none⟩,
    ⟨some 141, .bin .add (.const (sV [115, 109])) (.tmp 140), none, none⟩,
    ⟨some 142, .hcall 67 [(.tmp 123), (.tmp 138), (.tmp 141)] [44, 46, 111, 62040, 62052] 142000, none, none⟩,
    ⟨some 20, .mv (.tmp 142), none, none⟩]
def scans_Insert_r33 : List RO := [
    ⟨some 143, .mv (.tmp 8), none, none⟩,
    ⟨some 144, .nck (.tmp 143), none, none⟩,
    ⟨some 145, .fadr 0 (.tmp 144), none, none⟩,
    ⟨some 146, .fadr 0 (.tmp 145), none, none⟩,
    ⟨some 147, .load 1 false (.tmp 146), none, none⟩,
    ⟨some 148, .mv (.tmp 19), none, none⟩,
    ⟨some 149, .mv (.tmp 20), none, none⟩,
    ⟨some 150, .bsl true 3 1 [(.tmp 149)], none, none⟩,
    ⟨some 151, .iadr 4 (.tmp 147) (.tmp 148), none, none⟩,
    ⟨some 152, .fadr 1 (.tmp 151), none, none⟩,
    ⟨none, .store 1 (.tmp 152) (.tmp 150), none, none⟩]
def scans_Insert_r34 : List RO := [
    ⟨some 153, .fadr 7 (.tmp 11), none, none⟩,
    ⟨some 154, .load 1 false (.tmp 153), none, none⟩,
    ⟨some 155, .mv (.tmp 20), none, none⟩,
    ⟨some 156, .bsl true 3 1 [(.tmp 155)], none, none⟩,
    ⟨some 157, .app false 3 1 (.tmp 154) (.tmp 156), none, none⟩,
    ⟨some 158, .fadr 7 (.tmp 11), none, none⟩,
    ⟨none, .store 1 (.tmp 158) (.tmp 157), none, none⟩]
def scans_Insert_r35 : List RO := [
    ⟨some 159, .bin .add (.tmp 118) (.const (.int .i64 1)), none, none⟩,
    ⟨some 118, .mv (.tmp 159), none, none⟩]
def scans_Insert_g6 : IC := .gh (.seq (.reg scans_Insert_r30 [.keep [2, 4, 8, 11, 12, 116, 117, 118, 119] [4, 11, 44, 46, 64, 78, 90, 111, 157, 62040, 62052]]) (.seq (.cond (.tmp 119) .skip (.exit 6)) (.seq (.block 7 (.seq (.reg scans_Insert_r31 [.keep [2, 4, 8, 11, 12, 18, 19, 116, 117, 118] [4, 11, 44, 46, 64, 78, 90, 111, 157, 62040, 62052]]) (.seq (.reg scans_Insert_r32 [.ren 142040 62040, .ren 142052 62052, .keep [2, 4, 8, 11, 12, 19, 20, 116, 117, 118] [4, 11, 44, 46, 64, 78, 90, 111, 157, 62040, 62052]]) (.seq (.reg scans_Insert_r33 [.keep [2, 4, 8, 11, 12, 20, 116, 117, 118] [4, 11, 44, 46, 64, 78, 90, 111, 157, 62040, 62052]]) (.reg scans_Insert_r34 [.keep [2, 4, 8, 11, 12, 116, 117, 118] [4, 11, 44, 46, 64, 78, 90, 111, 157, 62040, 62052]]))))) (.reg scans_Insert_r35 [.keep [2, 4, 8, 11, 12, 116, 117, 118] [4, 11, 44, 46, 64, 78, 90, 111, 157, 62040, 62052]])))) [.keep [2, 4, 8, 11, 12, 116, 117, 118] [4, 11, 44, 46, 64, 78, 90, 111, 157, 62040, 62052]]
def scans_Insert_l7 : IC := .loop scans_Insert_g6
def scans_Insert_r36 : List RO := [
    ⟨some 160, .mv (.tmp 8), none, none⟩,
    ⟨some 161, .nck (.tmp 160), none, none⟩,
    ⟨some 162, .fadr 5 (.tmp 161), none, none⟩,
    ⟨some 163, .load 1 false (.tmp 162), none, none⟩]
def scans_Insert_r37 : List RO := [
    ⟨some 164, .build [(4, (.const (.agg #[(.slice none 0 0), (.slice none 0 0), (.slice none 0 0), (.slice none 0 0)]))), (1, (.const (.slice none 0 0))), (1, (.const (.int .i64 0))), (1, (.const (.slice none 0 0))), (1, (.const (.slice none 0 0)))], none, none⟩,
    ⟨none, .store 8 (.tmp 4) (.tmp 164), none, none⟩,
    ⟨some 5, .mv (.const (.int .i64 5)), none, none⟩]
def scans_Insert_r38 : List RO := [
    ⟨some 165, .mv (.tmp 8), none, none⟩,
    ⟨some 166, .mv (.tmp 8), none, none⟩,
    ⟨some 167, .mv (.tmp 8), none, none⟩,
    ⟨some 168, .mv (.tmp 8), none, none⟩,
    ⟨some 169, .nck (.tmp 168), none, none⟩,
    ⟨some 170, .fadr 0 (.tmp 169), none, none⟩,
    ⟨some 171, .fadr 0 (.tmp 170), none, none⟩,
    ⟨some 172, .ldR 46 1 false (.tmp 171), none, none⟩,
    ⟨some 173, .call 69 [(.tmp 172)], none, none⟩,
    ⟨some 174, .mv (.tmp 8), none, none⟩,
    ⟨some 175, .nck (.tmp 174), none, none⟩,
    ⟨some 176, .fadr 0 (.tmp 175), none, none⟩,
    ⟨some 177, .fadr 1 (.tmp 176), none, none⟩,
    ⟨some 178, .ldR 46 1 false (.tmp 177), none, none⟩,
    ⟨some 179, .call 70 [(.tmp 178)], none, none⟩,
    ⟨some 180, .mv (.tmp 8), none, none⟩,
    ⟨some 181, .nck (.tmp 180), none, none⟩,
    ⟨some 182, .fadr 0 (.tmp 181), none, none⟩,
    ⟨some 183, .fadr 3 (.tmp 182), none, none⟩,
    ⟨some 184, .ldR 46 1 false (.tmp 183), none, none⟩,
    ⟨some 185, .call 42 [(.tmp 184)], none, none⟩,
    ⟨some 186, .nck (.tmp 165), none, none⟩,
    ⟨some 187, .fadr 0 (.tmp 186), none, none⟩,
    ⟨some 188, .fadr 0 (.tmp 187), none, none⟩,
    ⟨none, .stR 46 1 (.tmp 188) (.tmp 173), none, none⟩,
    ⟨some 189, .nck (.tmp 166), none, none⟩,
    ⟨some 190, .fadr 0 (.tmp 189), none, none⟩,
    ⟨some 191, .fadr 1 (.tmp 190), none, none⟩,
    ⟨none, .stR 46 1 (.tmp 191) (.tmp 179), none, none⟩,
    ⟨some 192, .nck (.tmp 167), none, none⟩,
    ⟨some 193, .fadr 0 (.tmp 192), none, none⟩,
    ⟨some 194, .fadr 3 (.tmp 193), none, none⟩,
    ⟨none, .stR 46 1 (.tmp 194) (.tmp 185), none, none⟩]
def scans_Insert_r39 : List RO := [
    ⟨some 195, .mv (.tmp 8), none, none⟩,
    ⟨some 196, .nck (.tmp 195), none, none⟩,
    ⟨some 197, .fadr 0 (.tmp 196), none, none⟩,
    ⟨some 198, .ldR 46 4 true (.tmp 197), none, none⟩,
    ⟨some 199, .fadr 4 (.tmp 11), none, none⟩,
    ⟨some 200, .ldR 11 1 false (.tmp 199), none, none⟩,
    ⟨some 201, .call 44 [(.tmp 200)], none, none⟩,
    ⟨some 202, .fadr 6 (.tmp 11), none, none⟩,
    ⟨some 203, .ldR 11 1 false (.tmp 202), none, none⟩,
    ⟨some 204, .call 42 [(.tmp 203)], none, none⟩,
    ⟨some 205, .fadr 7 (.tmp 11), none, none⟩,
    ⟨some 206, .ldR 11 1 false (.tmp 205), none, none⟩,
    ⟨some 207, .call 42 [(.tmp 206)], none, none⟩,
    ⟨some 208, .fadr 0 (.tmp 11), none, none⟩,
    ⟨none, .stR 11 4 (.tmp 208) (.tmp 198), none, none⟩,
    ⟨some 209, .fadr 4 (.tmp 11), none, none⟩,
    ⟨none, .stR 11 1 (.tmp 209) (.tmp 201), none, none⟩,
    ⟨some 210, .fadr 6 (.tmp 11), none, none⟩,
    ⟨none, .stR 11 1 (.tmp 210) (.tmp 204), none, none⟩,
    ⟨some 211, .fadr 7 (.tmp 11), none, none⟩,
    ⟨none, .stR 11 1 (.tmp 211) (.tmp 207), none, none⟩]
def scans_Insert_r40 : List RO := [
    ⟨some 212, .load 8 true (.tmp 11), none, none⟩,
    ⟨none, .store 8 (.tmp 4) (.tmp 212), none, none⟩,
    ⟨some 5, .mv (.const (.int .i64 0)), none, none⟩]
def scans_Insert_ic : IC := (.seq (.reg scans_Insert_r0 [.keep [1, 2, 4] [4, 44, 78, 90, 111, 157, 62040, 62052]]) (.seq (.seq (.reg scans_Insert_r1 [.keep [1, 2, 4, 6] [4, 44, 78, 90, 111, 157, 62040, 62052]]) (.seq (.reg scans_Insert_r2 [.keep [1, 2, 4, 6, 25] [4, 44, 78, 90, 111, 157, 62040, 62052]]) (.cond (.tmp 25) (.seq (.reg scans_Insert_r3 [.keep [4, 5] [4, 44, 78, 90, 111, 157, 62040, 62052]]) .ret) .skip))) (.seq (.reg scans_Insert_r4 [.keep [1, 2, 4, 7] [4, 44, 78, 90, 111, 157, 62040, 62052]]) (.seq (.seq (.reg scans_Insert_r5 [.keep [1, 2, 4, 7, 40] [4, 44, 78, 90, 111, 157, 62040, 62052]]) (.cond (.tmp 40) (.seq (.reg scans_Insert_r6 [.keep [4, 5] [4, 44, 78, 90, 111, 157, 62040, 62052]]) .ret) .skip)) (.seq (.reg scans_Insert_r7 [.keep [1, 2, 4, 7, 8] [4, 44, 46, 78, 90, 111, 157, 62040, 62052]]) (.seq (.seq (.reg scans_Insert_r8 [.keep [1, 2, 4, 7, 8, 48, 49, 50] [4, 44, 46, 78, 90, 111, 157, 62040, 62052]]) (.block 0 scans_Insert_l1)) (.seq (.reg scans_Insert_r13 [.nlb 11 4 78 31 1, .nlb 11 6 90 3 1, .nlb 11 7 157 3 1, .keep [1, 2, 4, 7, 8, 11] [4, 11, 44, 46, 78, 90, 111, 157, 62040, 62052]]) (.seq (.reg scans_Insert_r14 [.keep [1, 2, 4, 7, 8, 11] [4, 11, 44, 46, 78, 90, 111, 157, 62040, 62052]]) (.seq (.reg scans_Insert_r15 [.keep [1, 2, 4, 7, 8, 11, 12] [4, 11, 44, 46, 64, 78, 90, 111, 157, 62040, 62052]]) (.seq (.seq (.reg scans_Insert_r16 [.keep [2, 4, 7, 8, 11, 12, 65, 66, 67] [4, 11, 44, 46, 64, 78, 90, 111, 157, 62040, 62052]]) (.block 2 scans_Insert_l5)) (.seq (.seq (.reg scans_Insert_r29 [.keep [2, 4, 8, 11, 12, 116, 117, 118] [4, 11, 44, 46, 64, 78, 90, 111, 157, 62040, 62052]]) (.gh (.block 6 scans_Insert_l7) [.frz 62040, .frz 62052, .frz 111, .frz 78, .frz 90, .frz 157])) (.seq (.seq (.reg scans_Insert_r36 [.keep [4, 8, 11, 163] [4, 11, 44, 46, 78, 90, 111, 157, 62040, 62052]]) (.cond (.tmp 163) (.seq (.reg scans_Insert_r37 [.keep [4, 5] [4, 44, 78, 90, 111, 157, 62040, 62052]]) .ret) .skip)) (.seq (.reg scans_Insert_r38 [.keep [4, 8, 11] [4, 11, 44, 46, 78, 90, 111, 157, 62040, 62052]]) (.seq (.reg scans_Insert_r39 [.keep [4, 11] [4, 11, 44, 78, 90, 111, 157, 62040, 62052]]) (.seq (.reg scans_Insert_r40 [.keep [4, 5] [4, 44, 78, 90, 111, 157, 62040, 62052]]) .ret)))))))))))))))
@[simp ↓] theorem scans_Insert_g0_run : run P Γ scans_Insert_g0 Q s = run P Γ (.gh (.seq (.reg scans_Insert_r9 [.keep [1, 2, 4, 7, 8, 48, 49, 50, 51] [4, 44, 46, 78, 90, 111, 157, 62040, 62052]]) (.seq (.cond (.tmp 51) .skip (.exit 0)) (.seq (.block 1 (.seq (.reg scans_Insert_r10 [.keep [1, 2, 4, 7, 8, 10, 48, 49, 50] [4, 44, 46, 78, 90, 111, 157, 62040, 62052]]) (.reg scans_Insert_r11 [.keep [1, 2, 4, 7, 8, 48, 49, 50] [4, 44, 46, 78, 90, 111, 157, 62040, 62052]]))) (.reg scans_Insert_r12 [.keep [1, 2, 4, 7, 8, 48, 49, 50] [4, 44, 46, 78, 90, 111, 157, 62040, 62052]])))) [.keep [1, 2, 4, 7, 8, 48, 49, 50] [4, 44, 46, 78, 90, 111, 157, 62040, 62052]]) Q s := Eq.trans rfl rfl
@[simp ↓] theorem scans_Insert_g2_run : run P Γ scans_Insert_g2 Q s = run P Γ (.gh (.seq (.reg scans_Insert_r23 [.keep [2, 4, 7, 8, 11, 12, 15, 65, 66, 67, 92, 93, 94, 95] [4, 11, 44, 46, 64, 78, 90, 111, 157, 62040, 62052]]) (.seq (.cond (.tmp 95) .skip (.exit 4)) (.seq (.block 5 (.seq (.reg scans_Insert_r24 [.keep [2, 4, 7, 8, 11, 12, 15, 17, 65, 66, 67, 92, 93, 94] [4, 11, 44, 46, 64, 78, 90, 111, 157, 62040, 62052]]) (.reg scans_Insert_r25 [.keep [2, 4, 7, 8, 11, 12, 15, 65, 66, 67, 92, 93, 94] [4, 11, 44, 46, 64, 78, 90, 111, 157, 62040, 62052]]))) (.reg scans_Insert_r26 [.keep [2, 4, 7, 8, 11, 12, 15, 65, 66, 67, 92, 93, 94] [4, 11, 44, 46, 64, 78, 90, 111, 157, 62040, 62052]])))) [.keep [2, 4, 7, 8, 11, 12, 15, 65, 66, 67, 92, 93, 94] [4, 11, 44, 46, 64, 78, 90, 111, 157, 62040, 62052]]) Q s := Eq.trans rfl rfl
@[simp ↓] theorem scans_Insert_g4_run : run P Γ scans_Insert_g4 Q s = run P Γ (.gh (.seq (.reg scans_Insert_r17 [.keep [2, 4, 7, 8, 11, 12, 65, 66, 67, 68] [4, 11, 44, 46, 64, 78, 90, 111, 157, 62040, 62052]]) (.seq (.cond (.tmp 68) .skip (.exit 2)) (.seq (.block 3 (.seq (.reg scans_Insert_r18 [.keep [2, 4, 7, 8, 11, 12, 13, 14, 65, 66, 67] [4, 11, 44, 46, 64, 78, 90, 111, 157, 62040, 62052]]) (.seq (.reg scans_Insert_r19 [.keep [2, 4, 7, 8, 11, 12, 13, 14, 65, 66, 67] [4, 11, 44, 46, 64, 78, 90, 111, 157, 62040, 62052]]) (.seq (.reg scans_Insert_r20 [.ren 85040 62040, .ren 85052 62052, .keep [2, 4, 7, 8, 11, 12, 14, 15, 65, 66, 67] [4, 11, 44, 46, 64, 78, 90, 111, 157, 62040, 62052]]) (.seq (.reg scans_Insert_r21 [.keep [2, 4, 7, 8, 11, 12, 14, 15, 65, 66, 67] [4, 11, 44, 46, 64, 78, 90, 111, 157, 62040, 62052]]) (.seq (.seq (.reg scans_Insert_r22 [.keep [2, 4, 7, 8, 11, 12, 15, 65, 66, 67, 92, 93, 94] [4, 11, 44, 46, 64, 78, 90, 111, 157, 62040, 62052]]) (.block 4 scans_Insert_l3)) (.reg scans_Insert_r27 [.keep [2, 4, 7, 8, 11, 12, 65, 66, 67] [4, 11, 44, 46, 64, 78, 90, 111, 157, 62040, 62052]]))))))) (.reg scans_Insert_r28 [.keep [2, 4, 7, 8, 11, 12, 65, 66, 67] [4, 11, 44, 46, 64, 78, 90, 111, 157, 62040, 62052]])))) [.keep [2, 4, 7, 8, 11, 12, 65, 66, 67] [4, 11, 44, 46, 64, 78, 90, 111, 157, 62040, 62052]]) Q s := Eq.trans rfl rfl
@[simp ↓] theorem scans_Insert_g6_run : run P Γ scans_Insert_g6 Q s = run P Γ (.gh (.seq (.reg scans_Insert_r30 [.keep [2, 4, 8, 11, 12, 116, 117, 118, 119] [4, 11, 44, 46, 64, 78, 90, 111, 157, 62040, 62052]]) (.seq (.cond (.tmp 119) .skip (.exit 6)) (.seq (.block 7 (.seq (.reg scans_Insert_r31 [.keep [2, 4, 8, 11, 12, 18, 19, 116, 117, 118] [4, 11, 44, 46, 64, 78, 90, 111, 157, 62040, 62052]]) (.seq (.reg scans_Insert_r32 [.ren 142040 62040, .ren 142052 62052, .keep [2, 4, 8, 11, 12, 19, 20, 116, 117, 118] [4, 11, 44, 46, 64, 78, 90, 111, 157, 62040, 62052]]) (.seq (.reg scans_Insert_r33 [.keep [2, 4, 8, 11, 12, 20, 116, 117, 118] [4, 11, 44, 46, 64, 78, 90, 111, 157, 62040, 62052]]) (.reg scans_Insert_r34 [.keep [2, 4, 8, 11, 12, 116, 117, 118] [4, 11, 44, 46, 64, 78, 90, 111, 157, 62040, 62052]]))))) (.reg scans_Insert_r35 [.keep [2, 4, 8, 11, 12, 116, 117, 118] [4, 11, 44, 46, 64, 78, 90, 111, 157, 62040, 62052]])))) [.keep [2, 4, 8, 11, 12, 116, 117, 118] [4, 11, 44, 46, 64, 78, 90, 111, 157, 62040, 62052]]) Q s := Eq.trans rfl rfl
@[simp ↓] theorem scans_Insert_ic_run : run P Γ scans_Insert_ic Q s = run P Γ (.seq (.reg scans_Insert_r0 [.keep [1, 2, 4] [4, 44, 78, 90, 111, 157, 62040, 62052]]) (.seq (.seq (.reg scans_Insert_r1 [.keep [1, 2, 4, 6] [4, 44, 78, 90, 111, 157, 62040, 62052]]) (.seq (.reg scans_Insert_r2 [.keep [1, 2, 4, 6, 25] [4, 44, 78, 90, 111, 157, 62040, 62052]]) (.cond (.tmp 25) (.seq (.reg scans_Insert_r3 [.keep [4, 5] [4, 44, 78, 90, 111, 157, 62040, 62052]]) .ret) .skip))) (.seq (.reg scans_Insert_r4 [.keep [1, 2, 4, 7] [4, 44, 78, 90, 111, 157, 62040, 62052]]) (.seq (.seq (.reg scans_Insert_r5 [.keep [1, 2, 4, 7, 40] [4, 44, 78, 90, 111, 157, 62040, 62052]]) (.cond (.tmp 40) (.seq (.reg scans_Insert_r6 [.keep [4, 5] [4, 44, 78, 90, 111, 157, 62040, 62052]]) .ret) .skip)) (.seq (.reg scans_Insert_r7 [.keep [1, 2, 4, 7, 8] [4, 44, 46, 78, 90, 111, 157, 62040, 62052]]) (.seq (.seq (.reg scans_Insert_r8 [.keep [1, 2, 4, 7, 8, 48, 49, 50] [4, 44, 46, 78, 90, 111, 157, 62040, 62052]]) (.block 0 scans_Insert_l1)) (.seq (.reg scans_Insert_r13 [.nlb 11 4 78 31 1, .nlb 11 6 90 3 1, .nlb 11 7 157 3 1, .keep [1, 2, 4, 7, 8, 11] [4, 11, 44, 46, 78, 90, 111, 157, 62040, 62052]]) (.seq (.reg scans_Insert_r14 [.keep [1, 2, 4, 7, 8, 11] [4, 11, 44, 46, 78, 90, 111, 157, 62040, 62052]]) (.seq (.reg scans_Insert_r15 [.keep [1, 2, 4, 7, 8, 11, 12] [4, 11, 44, 46, 64, 78, 90, 111, 157, 62040, 62052]]) (.seq (.seq (.reg scans_Insert_r16 [.keep [2, 4, 7, 8, 11, 12, 65, 66, 67] [4, 11, 44, 46, 64, 78, 90, 111, 157, 62040, 62052]]) (.block 2 scans_Insert_l5)) (.seq (.seq (.reg scans_Insert_r29 [.keep [2, 4, 8, 11, 12, 116, 117, 118] [4, 11, 44, 46, 64, 78, 90, 111, 157, 62040, 62052]]) (.gh (.block 6 scans_Insert_l7) [.frz 62040, .frz 62052, .frz 111, .frz 78, .frz 90, .frz 157])) (.seq (.seq (.reg scans_Insert_r36 [.keep [4, 8, 11, 163] [4, 11, 44, 46, 78, 90, 111, 157, 62040, 62052]]) (.cond (.tmp 163) (.seq (.reg scans_Insert_r37 [.keep [4, 5] [4, 44, 78, 90, 111, 157, 62040, 62052]]) .ret) .skip)) (.seq (.reg scans_Insert_r38 [.keep [4, 8, 11] [4, 11, 44, 46, 78, 90, 111, 157, 62040, 62052]]) (.seq (.reg scans_Insert_r39 [.keep [4, 11] [4, 11, 44, 78, 90, 111, 157, 62040, 62052]]) (.seq (.reg scans_Insert_r40 [.keep [4, 5] [4, 44, 78, 90, 111, 157, 62040, 62052]]) .ret))))))))))))))) Q s := Eq.trans rfl rfl
theorem scans_Insert_l1_run (h : ∀ K : St → Prop, K = run P Γ scans_Insert_l1 Q → run P Γ scans_Insert_g0 (thenX K Q) s) : run P Γ scans_Insert_l1 Q s := run_loop h
theorem scans_Insert_l3_run (h : ∀ K : St → Prop, K = run P Γ scans_Insert_l3 Q → run P Γ scans_Insert_g2 (thenX K Q) s) : run P Γ scans_Insert_l3 Q s := run_loop h
theorem scans_Insert_l5_run (h : ∀ K : St → Prop, K = run P Γ scans_Insert_l5 Q → run P Γ scans_Insert_g4 (thenX K Q) s) : run P Γ scans_Insert_l5 Q s := run_loop h
theorem scans_Insert_l7_run (h : ∀ K : St → Prop, K = run P Γ scans_Insert_l7 Q → run P Γ scans_Insert_g6 (thenX K Q) s) : run P Γ scans_Insert_l7 Q s := run_loop h
attribute [simp] scans_Insert_r0 scans_Insert_r1 scans_Insert_r2 scans_Insert_r3 scans_Insert_r4 scans_Insert_r5 scans_Insert_r6 scans_Insert_r7 scans_Insert_r8 scans_Insert_r9 scans_Insert_r10 scans_Insert_r11 scans_Insert_r12 scans_Insert_r13 scans_Insert_r14 scans_Insert_r15 scans_Insert_r16 scans_Insert_r17 scans_Insert_r18 scans_Insert_r19 scans_Insert_r20 scans_Insert_r21 scans_Insert_r22 scans_Insert_r23 scans_Insert_r24 scans_Insert_r25 scans_Insert_r26 scans_Insert_r27 scans_Insert_r28 scans_Insert_r29 scans_Insert_r30 scans_Insert_r31 scans_Insert_r32 scans_Insert_r33 scans_Insert_r34 scans_Insert_r35 scans_Insert_r36 scans_Insert_r37 scans_Insert_r38 scans_Insert_r39 scans_Insert_r40
def scans_Insert_rv : List RV := [.cell 4 8 true, .tmp 5]

/- (*probecard/scans.builder).add (function 67) -/
def scans_builder_add_r0 : List RO := [
    ⟨some 4, .box true (.tmp 1), none, none⟩,
    ⟨some 6, .mv (.const (.int .i64 0)), none, none⟩]
def scans_builder_add_r1 : List RO := [
    ⟨some 7, .mv (.tmp 0), none, none⟩,
    ⟨some 8, .nck (.tmp 7), none, none⟩,
    ⟨some 9, .fadr 4 (.tmp 8), none, none⟩,
    ⟨some 10, .load 1 false (.tmp 9), none, none⟩,
    ⟨some 11, .mv (.tmp 2), none, none⟩,
    ⟨some 12, .lkup .str (.bool false) false (.tmp 10) (.tmp 11), none, none⟩]
def scans_builder_add_r2 : List RO := [
    ⟨some 13, .mv (.tmp 2), none, none⟩,
    ⟨some 14, .bin .add (.tmp 13) (.const (sV [95])), none, none⟩,
    ⟨some 2, .mv (.tmp 14), none, none⟩]
def scans_builder_add_g0 : IC := .gh (.seq (.seq (.reg scans_builder_add_r1 [.keep [0, 2, 4, 12] [40, 52, 1000000, 1000001, 1000002, 1000003, 1000004]]) (.cond (.tmp 12) .skip (.exit 0))) (.block 1 (.reg scans_builder_add_r2 [.keep [0, 2, 4] [40, 52, 1000000, 1000001, 1000002, 1000003, 1000004]]))) [.keep [0, 2, 4] [40, 52, 1000000, 1000001, 1000002, 1000003, 1000004]]
def scans_builder_add_l1 : IC := .loop scans_builder_add_g0
def scans_builder_add_r3 : List RO := [
    ⟨some 15, .mv (.tmp 0), none, none⟩,
    ⟨some 16, .nck (.tmp 15), none, none⟩,
    ⟨some 17, .fadr 4 (.tmp 16), none, none⟩,
    ⟨some 18, .load 1 false (.tmp 17), none, none⟩,
    ⟨some 19, .mv (.tmp 2), none, none⟩,
    ⟨none, .mup .str (.tmp 18) (.tmp 19) (.const (.bool true)), none, none⟩]
def scans_builder_add_r4 : List RO := [
    ⟨some 20, .mv (.tmp 0), none, none⟩,
    ⟨some 21, .mv (.tmp 0), none, none⟩,
    ⟨some 22, .nck (.tmp 21), none, none⟩,
    ⟨some 23, .fadr 5 (.tmp 22), none, none⟩,
    ⟨some 24, .load 1 false (.tmp 23), none, none⟩,
    ⟨some 25, .mv (.tmp 24), none, none⟩,
    ⟨some 26, .mv (.tmp 2), some (25, false), none⟩,
    ⟨some 27, .len 1 (.tmp 26), some (25, false), none⟩,
    ⟨some 28, .bin .gtr (.tmp 27) (.const (.int .i64 32)), some (25, false), none⟩,
    ⟨some 29, .pick (.tmp 25) (.const (.bool true)) (.tmp 28), none, none⟩,
    ⟨some 30, .nck (.tmp 20), none, none⟩,
    ⟨some 31, .fadr 5 (.tmp 30), none, none⟩,
    ⟨none, .store 1 (.tmp 31) (.tmp 29), none, none⟩]
def scans_builder_add_r5 : List RO := [
    ⟨some 32, .mv (.tmp 0), none, none⟩,
    ⟨some 33, .mv (.tmp 0), none, none⟩,
    ⟨some 34, .nck (.tmp 33), none, none⟩,
    ⟨some 35, .fadr 0 (.tmp 34), none, none⟩,
    ⟨some 36, .fadr 0 (.tmp 35), none, none⟩,
    ⟨some 37, .ldR 1000001 1 false (.tmp 36), none, none⟩,
    ⟨some 38, .ldT 4 true (.tmp 4), none, none⟩,
    ⟨some 39, .bsl true 48 4 [(.tmp 38)], none, none⟩,
    ⟨some 40, .app false 48 4 (.tmp 37) (.tmp 39), none, none⟩,
    ⟨some 41, .nck (.tmp 32), none, none⟩,
    ⟨some 42, .fadr 0 (.tmp 41), none, none⟩,
    ⟨some 43, .fadr 0 (.tmp 42), none, none⟩,
    ⟨none, .stR 1000001 1 (.tmp 43) (.tmp 40), none, none⟩]
def scans_builder_add_r6 : List RO := [
    ⟨some 44, .mv (.tmp 0), none, none⟩,
    ⟨some 45, .mv (.tmp 0), none, none⟩,
    ⟨some 46, .nck (.tmp 45), none, none⟩,
    ⟨some 47, .fadr 0 (.tmp 46), none, none⟩,
    ⟨some 48, .fadr 1 (.tmp 47), none, none⟩,
    ⟨some 49, .load 1 false (.tmp 48), none, none⟩,
    ⟨some 50, .mv (.tmp 2), none, none⟩,
    ⟨some 51, .bsl true 9 1 [(.tmp 50)], none, none⟩,
    ⟨some 52, .app false 9 1 (.tmp 49) (.tmp 51), none, none⟩,
    ⟨some 53, .nck (.tmp 44), none, none⟩,
    ⟨some 54, .fadr 0 (.tmp 53), none, none⟩,
    ⟨some 55, .fadr 1 (.tmp 54), none, none⟩,
    ⟨none, .store 1 (.tmp 55) (.tmp 52), none, none⟩]
def scans_builder_add_r7 : List RO := [
    ⟨some 56, .mv (.tmp 0), none, none⟩,
    ⟨some 57, .nck (.tmp 56), none, none⟩,
    ⟨some 58, .fadr 0 (.tmp 57), none, none⟩,
    ⟨some 59, .fadr 0 (.tmp 58), none, none⟩,
    ⟨some 60, .load 1 false (.tmp 59), none, none⟩,
    ⟨some 61, .len 0 (.tmp 60), none, none⟩,
    ⟨some 62, .bin .sub (.tmp 61) (.const (.int .i64 1)), none, none⟩,
    ⟨some 6, .mv (.tmp 62), none, none⟩]
def scans_builder_add_ic : IC := (.seq (.reg scans_builder_add_r0 [.keep [0, 2, 4] [40, 52, 1000000, 1000001, 1000002, 1000003, 1000004]]) (.seq (.block 0 scans_builder_add_l1) (.seq (.reg scans_builder_add_r3 [.keep [0, 2, 4] [40, 52, 1000000, 1000001, 1000002, 1000003, 1000004]]) (.seq (.reg scans_builder_add_r4 [.keep [0, 2, 4] [40, 52, 1000000, 1000001, 1000002, 1000003, 1000004]]) (.seq (.reg scans_builder_add_r5 [.keep [0, 2] [40, 52, 1000000, 1000001, 1000002, 1000003, 1000004]]) (.seq (.reg scans_builder_add_r6 [.keep [0] [40, 52, 1000000, 1000001, 1000002, 1000003, 1000004]]) (.seq (.reg scans_builder_add_r7 [.keep [6] [40, 52, 1000000, 1000001, 1000002, 1000003, 1000004]]) .ret)))))))
@[simp ↓] theorem scans_builder_add_g0_run : run P Γ scans_builder_add_g0 Q s = run P Γ (.gh (.seq (.seq (.reg scans_builder_add_r1 [.keep [0, 2, 4, 12] [40, 52, 1000000, 1000001, 1000002, 1000003, 1000004]]) (.cond (.tmp 12) .skip (.exit 0))) (.block 1 (.reg scans_builder_add_r2 [.keep [0, 2, 4] [40, 52, 1000000, 1000001, 1000002, 1000003, 1000004]]))) [.keep [0, 2, 4] [40, 52, 1000000, 1000001, 1000002, 1000003, 1000004]]) Q s := Eq.trans rfl rfl
@[simp ↓] theorem scans_builder_add_ic_run : run P Γ scans_builder_add_ic Q s = run P Γ (.seq (.reg scans_builder_add_r0 [.keep [0, 2, 4] [40, 52, 1000000, 1000001, 1000002, 1000003, 1000004]]) (.seq (.block 0 scans_builder_add_l1) (.seq (.reg scans_builder_add_r3 [.keep [0, 2, 4] [40, 52, 1000000, 1000001, 1000002, 1000003, 1000004]]) (.seq (.reg scans_builder_add_r4 [.keep [0, 2, 4] [40, 52, 1000000, 1000001, 1000002, 1000003, 1000004]]) (.seq (.reg scans_builder_add_r5 [.keep [0, 2] [40, 52, 1000000, 1000001, 1000002, 1000003, 1000004]]) (.seq (.reg scans_builder_add_r6 [.keep [0] [40, 52, 1000000, 1000001, 1000002, 1000003, 1000004]]) (.seq (.reg scans_builder_add_r7 [.keep [6] [40, 52, 1000000, 1000001, 1000002, 1000003, 1000004]]) .ret))))))) Q s := Eq.trans rfl rfl
theorem scans_builder_add_l1_run (h : ∀ K : St → Prop, K = run P Γ scans_builder_add_l1 Q → run P Γ scans_builder_add_g0 (thenX K Q) s) : run P Γ scans_builder_add_l1 Q s := run_loop h
attribute [simp] scans_builder_add_r0 scans_builder_add_r1 scans_builder_add_r2 scans_builder_add_r3 scans_builder_add_r4 scans_builder_add_r5 scans_builder_add_r6 scans_builder_add_r7
def scans_builder_add_rv : List RV := [.tmp 6]

/- probecard/netlists.Copy (function 66) -/
def netlists_Copy_r0 : List RO := [
    ⟨some 1, .box true (.tmp 0), none, none⟩,
    ⟨some 2, .alloc false [(.slice none 0 0), (.slice none 0 0), (.slice none 0 0), (.slice none 0 0)], none, none⟩]
def netlists_Copy_r1 : List RO := [
    ⟨some 8, .fadr 0 (.tmp 1), none, none⟩,
    ⟨some 9, .ldT 1 false (.tmp 8), none, none⟩,
    ⟨some 10, .ncall 96 [(.tmp 9)] 10000, none, none⟩,
    ⟨some 11, .fadr 1 (.tmp 1), none, none⟩,
    ⟨some 12, .ldT 1 false (.tmp 11), none, none⟩,
    ⟨some 13, .callT 97 [(.tmp 12)], none, none⟩,
    ⟨some 14, .fadr 2 (.tmp 1), none, none⟩,
    ⟨some 15, .ldT 1 false (.tmp 14), none, none⟩,
    ⟨some 16, .callT 98 [(.tmp 15)], none, none⟩,
    ⟨some 17, .fadr 3 (.tmp 1), none, none⟩,
    ⟨some 18, .ldT 1 false (.tmp 17), none, none⟩,
    ⟨some 19, .callT 99 [(.tmp 18)], none, none⟩,
    ⟨some 20, .build [(1, (.tmp 10)), (1, (.tmp 13)), (1, (.tmp 16)), (1, (.tmp 19))], none, none⟩,
    ⟨some 3, .alloc false [(.slice none 0 0), (.slice none 0 0), (.slice none 0 0), (.slice none 0 0)], none, none⟩,
    ⟨none, .stR 3 4 (.tmp 3) (.tmp 20), none, none⟩]
def netlists_Copy_r2 : List RO := [
    ⟨some 21, .fadr 0 (.tmp 3), none, none⟩,
    ⟨some 22, .load 1 false (.tmp 21), none, none⟩,
    ⟨some 23, .len 0 (.tmp 22), none, none⟩,
    ⟨some 24, .mv (.const (.int .i64 0)), none, none⟩]
def netlists_Copy_r3 : List RO := [
    ⟨some 25, .bin .lss (.tmp 24) (.tmp 23), none, none⟩]
def netlists_Copy_r4 : List RO := [
    ⟨some 26, .mv (.tmp 24), none, none⟩,
    ⟨some 27, .iadr 4 (.tmp 22) (.tmp 24), none, none⟩,
    ⟨some 28, .load 4 true (.tmp 27), none, none⟩,
    ⟨some 5, .alloc false [(.int .u8 0), (.slice none 0 0), (.int .i64 0), (.int .i64 0)], none, none⟩,
    ⟨some 4, .mv (.tmp 26), none, none⟩,
    ⟨none, .store 4 (.tmp 5) (.tmp 28), none, none⟩]
def netlists_Copy_r5 : List RO := [
    ⟨some 29, .fadr 0 (.tmp 3), none, none⟩,
    ⟨some 30, .ldR 3 1 false (.tmp 29), none, none⟩,
    ⟨some 31, .mv (.tmp 4), none, none⟩,
    ⟨some 32, .fadr 1 (.tmp 5), none, none⟩,
    ⟨some 33, .ldR 5 1 false (.tmp 32), none, none⟩,
    ⟨some 34, .callT 99 [(.tmp 33)], none, none⟩,
    ⟨some 35, .iadr 4 (.tmp 30) (.tmp 31), none, none⟩,
    ⟨some 36, .fadr 1 (.tmp 35), none, none⟩,
    ⟨none, .stR 14007 1 (.tmp 36) (.tmp 34), none, none⟩]
def netlists_Copy_r6 : List RO := [
    ⟨some 37, .bin .add (.tmp 24) (.const (.int .i64 1)), none, none⟩,
    ⟨some 24, .mv (.tmp 37), none, none⟩]
def netlists_Copy_g0 : IC := .gh (.seq (.reg netlists_Copy_r3 [.keep [2, 3, 22, 23, 24, 25] [2, 3, 14007]]) (.seq (.cond (.tmp 25) .skip (.exit 0)) (.seq (.block 1 (.seq (.reg netlists_Copy_r4 [.keep [2, 3, 4, 5, 22, 23, 24] [2, 3, 5, 14007]]) (.reg netlists_Copy_r5 [.keep [2, 3, 22, 23, 24] [2, 3, 14007]]))) (.reg netlists_Copy_r6 [.keep [2, 3, 22, 23, 24] [2, 3, 14007]])))) [.keep [2, 3, 22, 23, 24] [2, 3, 14007]]
def netlists_Copy_l1 : IC := .loop netlists_Copy_g0
def netlists_Copy_r7 : List RO := [
    ⟨some 38, .fadr 2 (.tmp 3), none, none⟩,
    ⟨some 39, .load 1 false (.tmp 38), none, none⟩,
    ⟨some 40, .len 0 (.tmp 39), none, none⟩,
    ⟨some 41, .mv (.const (.int .i64 0)), none, none⟩]
def netlists_Copy_r8 : List RO := [
    ⟨some 42, .bin .lss (.tmp 41) (.tmp 40), none, none⟩]
def netlists_Copy_r9 : List RO := [
    ⟨some 43, .mv (.tmp 41), none, none⟩,
    ⟨some 44, .iadr 3 (.tmp 39) (.tmp 41), none, none⟩,
    ⟨some 45, .load 3 true (.tmp 44), none, none⟩,
    ⟨some 7, .alloc false [(.slice none 0 0), (.slice none 0 0), (.int .i64 0)], none, none⟩,
    ⟨some 6, .mv (.tmp 43), none, none⟩,
    ⟨none, .store 3 (.tmp 7) (.tmp 45), none, none⟩]
def netlists_Copy_r10 : List RO := [
    ⟨some 46, .fadr 2 (.tmp 3), none, none⟩,
    ⟨some 47, .ldR 3 1 false (.tmp 46), none, none⟩,
    ⟨some 48, .mv (.tmp 6), none, none⟩,
    ⟨some 49, .fadr 2 (.tmp 3), none, none⟩,
    ⟨some 50, .ldR 3 1 false (.tmp 49), none, none⟩,
    ⟨some 51, .mv (.tmp 6), none, none⟩,
    ⟨some 52, .fadr 0 (.tmp 7), none, none⟩,
    ⟨some 53, .ldR 7 1 false (.tmp 52), none, none⟩,
    ⟨some 54, .callT 99 [(.tmp 53)], none, none⟩,
    ⟨some 55, .fadr 1 (.tmp 7), none, none⟩,
    ⟨some 56, .ldR 7 1 false (.tmp 55), none, none⟩,
    ⟨some 57, .callT 99 [(.tmp 56)], none, none⟩,
    ⟨some 58, .iadr 3 (.tmp 47) (.tmp 48), none, none⟩,
    ⟨some 59, .fadr 0 (.tmp 58), none, none⟩,
    ⟨none, .stR 14007 1 (.tmp 59) (.tmp 54), none, none⟩,
    ⟨some 60, .iadr 3 (.tmp 50) (.tmp 51), none, none⟩,
    ⟨some 61, .fadr 1 (.tmp 60), none, none⟩,
    ⟨none, .stR 14007 1 (.tmp 61) (.tmp 57), none, none⟩]
def netlists_Copy_r11 : List RO := [
    ⟨some 62, .bin .add (.tmp 41) (.const (.int .i64 1)), none, none⟩,
    ⟨some 41, .mv (.tmp 62), none, none⟩]
def netlists_Copy_g2 : IC := .gh (.seq (.reg netlists_Copy_r8 [.keep [2, 3, 39, 40, 41, 42] [2, 3, 14007]]) (.seq (.cond (.tmp 42) .skip (.exit 2)) (.seq (.block 3 (.seq (.reg netlists_Copy_r9 [.keep [2, 3, 6, 7, 39, 40, 41] [2, 3, 7, 14007]]) (.reg netlists_Copy_r10 [.keep [2, 3, 39, 40, 41] [2, 3, 14007]]))) (.reg netlists_Copy_r11 [.keep [2, 3, 39, 40, 41] [2, 3, 14007]])))) [.keep [2, 3, 39, 40, 41] [2, 3, 14007]]
def netlists_Copy_l3 : IC := .loop netlists_Copy_g2
def netlists_Copy_r12 : List RO := [
    ⟨some 63, .load 4 true (.tmp 3), none, none⟩,
    ⟨none, .store 4 (.tmp 2) (.tmp 63), none, none⟩]
def netlists_Copy_ic : IC := (.seq (.reg netlists_Copy_r0 [.keep [1, 2] [2, 14007]]) (.seq (.reg netlists_Copy_r1 [.keep [2, 3] [2, 3, 14007]]) (.seq (.seq (.reg netlists_Copy_r2 [.keep [2, 3, 22, 23, 24] [2, 3, 14007]]) (.gh (.block 0 netlists_Copy_l1) [.frz 14007])) (.seq (.seq (.reg netlists_Copy_r7 [.keep [2, 3, 39, 40, 41] [2, 3, 14007]]) (.block 2 netlists_Copy_l3)) (.seq (.reg netlists_Copy_r12 [.keep [2] [2, 14007]]) .ret)))))
@[simp ↓] theorem netlists_Copy_g0_run : run P Γ netlists_Copy_g0 Q s = run P Γ (.gh (.seq (.reg netlists_Copy_r3 [.keep [2, 3, 22, 23, 24, 25] [2, 3, 14007]]) (.seq (.cond (.tmp 25) .skip (.exit 0)) (.seq (.block 1 (.seq (.reg netlists_Copy_r4 [.keep [2, 3, 4, 5, 22, 23, 24] [2, 3, 5, 14007]]) (.reg netlists_Copy_r5 [.keep [2, 3, 22, 23, 24] [2, 3, 14007]]))) (.reg netlists_Copy_r6 [.keep [2, 3, 22, 23, 24] [2, 3, 14007]])))) [.keep [2, 3, 22, 23, 24] [2, 3, 14007]]) Q s := Eq.trans rfl rfl
@[simp ↓] theorem netlists_Copy_g2_run : run P Γ netlists_Copy_g2 Q s = run P Γ (.gh (.seq (.reg netlists_Copy_r8 [.keep [2, 3, 39, 40, 41, 42] [2, 3, 14007]]) (.seq (.cond (.tmp 42) .skip (.exit 2)) (.seq (.block 3 (.seq (.reg netlists_Copy_r9 [.keep [2, 3, 6, 7, 39, 40, 41] [2, 3, 7, 14007]]) (.reg netlists_Copy_r10 [.keep [2, 3, 39, 40, 41] [2, 3, 14007]]))) (.reg netlists_Copy_r11 [.keep [2, 3, 39, 40, 41] [2, 3, 14007]])))) [.keep [2, 3, 39, 40, 41] [2, 3, 14007]]) Q s := Eq.trans rfl rfl
@[simp ↓] theorem netlists_Copy_ic_run : run P Γ netlists_Copy_ic Q s = run P Γ (.seq (.reg netlists_Copy_r0 [.keep [1, 2] [2, 14007]]) (.seq (.reg netlists_Copy_r1 [.keep [2, 3] [2, 3, 14007]]) (.seq (.seq (.reg netlists_Copy_r2 [.keep [2, 3, 22, 23, 24] [2, 3, 14007]]) (.gh (.block 0 netlists_Copy_l1) [.frz 14007])) (.seq (.seq (.reg netlists_Copy_r7 [.keep [2, 3, 39, 40, 41] [2, 3, 14007]]) (.block 2 netlists_Copy_l3)) (.seq (.reg netlists_Copy_r12 [.keep [2] [2, 14007]]) .ret))))) Q s := Eq.trans rfl rfl
theorem netlists_Copy_l1_run (h : ∀ K : St → Prop, K = run P Γ netlists_Copy_l1 Q → run P Γ netlists_Copy_g0 (thenX K Q) s) : run P Γ netlists_Copy_l1 Q s := run_loop h
theorem netlists_Copy_l3_run (h : ∀ K : St → Prop, K = run P Γ netlists_Copy_l3 Q → run P Γ netlists_Copy_g2 (thenX K Q) s) : run P Γ netlists_Copy_l3 Q s := run_loop h
attribute [simp] netlists_Copy_r0 netlists_Copy_r1 netlists_Copy_r2 netlists_Copy_r3 netlists_Copy_r4 netlists_Copy_r5 netlists_Copy_r6 netlists_Copy_r7 netlists_Copy_r8 netlists_Copy_r9 netlists_Copy_r10 netlists_Copy_r11 netlists_Copy_r12
def netlists_Copy_rv : List RV := [.cell 2 4 true]

/- probecard/netlists.copied[probecard/api.Node] (function 96) -/
def netlists_copied_api_Node_r0 : List RO := [
    ⟨some 2, .mv (.const (.slice none 0 0)), none, none⟩]
def netlists_copied_api_Node_r1 : List RO := [
    ⟨some 3, .mv (.tmp 0), none, none⟩,
    ⟨some 4, .hcall 116 [(.tmp 3)] [] 4000, none, none⟩,
    ⟨some 5, .hcall 69 [(.tmp 4)] [4007] 5000, none, none⟩,
    ⟨some 2, .mv (.tmp 5), none, none⟩]
def netlists_copied_api_Node_ic : IC := (.seq (.reg netlists_copied_api_Node_r0 [.keep [0] []]) (.seq (.reg netlists_copied_api_Node_r1 [.keep [2] [4007]]) .ret))
@[simp ↓] theorem netlists_copied_api_Node_ic_run : run P Γ netlists_copied_api_Node_ic Q s = run P Γ (.seq (.reg netlists_copied_api_Node_r0 [.keep [0] []]) (.seq (.reg netlists_copied_api_Node_r1 [.keep [2] [4007]]) .ret)) Q s := Eq.trans rfl rfl
attribute [simp] netlists_copied_api_Node_r0 netlists_copied_api_Node_r1
def netlists_copied_api_Node_rv : List RV := [.tmp 2]

/- probecard/netlists.copied[string] (function 97) -/
def netlists_copied_string_r0 : List RO := [
    ⟨some 2, .mv (.const (.slice none 0 0)), none, none⟩]
def netlists_copied_string_r1 : List RO := [
    ⟨some 3, .mv (.tmp 0), none, none⟩,
    ⟨some 4, .call 117 [(.tmp 3)], none, none⟩,
    ⟨some 5, .call 70 [(.tmp 4)], none, none⟩,
    ⟨some 2, .mv (.tmp 5), none, none⟩]
def netlists_copied_string_ic : IC := (.seq (.reg netlists_copied_string_r0 [.keep [0] []]) (.seq (.reg netlists_copied_string_r1 [.keep [2] []]) .ret))
@[simp ↓] theorem netlists_copied_string_ic_run : run P Γ netlists_copied_string_ic Q s = run P Γ (.seq (.reg netlists_copied_string_r0 [.keep [0] []]) (.seq (.reg netlists_copied_string_r1 [.keep [2] []]) .ret)) Q s := Eq.trans rfl rfl
attribute [simp] netlists_copied_string_r0 netlists_copied_string_r1
def netlists_copied_string_rv : List RV := [.tmp 2]

/- probecard/netlists.copied[probecard/api.Memory] (function 98) -/
def netlists_copied_api_Memory_r0 : List RO := [
    ⟨some 2, .mv (.const (.slice none 0 0)), none, none⟩]
def netlists_copied_api_Memory_r1 : List RO := [
    ⟨some 3, .mv (.tmp 0), none, none⟩,
    ⟨some 4, .call 119 [(.tmp 3)], none, none⟩,
    ⟨some 5, .call 118 [(.tmp 4)], none, none⟩,
    ⟨some 2, .mv (.tmp 5), none, none⟩]
def netlists_copied_api_Memory_ic : IC := (.seq (.reg netlists_copied_api_Memory_r0 [.keep [0] []]) (.seq (.reg netlists_copied_api_Memory_r1 [.keep [2] []]) .ret))
@[simp ↓] theorem netlists_copied_api_Memory_ic_run : run P Γ netlists_copied_api_Memory_ic Q s = run P Γ (.seq (.reg netlists_copied_api_Memory_r0 [.keep [0] []]) (.seq (.reg netlists_copied_api_Memory_r1 [.keep [2] []]) .ret)) Q s := Eq.trans rfl rfl
attribute [simp] netlists_copied_api_Memory_r0 netlists_copied_api_Memory_r1
def netlists_copied_api_Memory_rv : List RV := [.tmp 2]

/- probecard/netlists.copied[int] (function 99) -/
def netlists_copied_int_r0 : List RO := [
    ⟨some 2, .mv (.const (.slice none 0 0)), none, none⟩]
def netlists_copied_int_r1 : List RO := [
    ⟨some 3, .mv (.tmp 0), none, none⟩,
    ⟨some 4, .call 43 [(.tmp 3)], none, none⟩,
    ⟨some 5, .call 42 [(.tmp 4)], none, none⟩,
    ⟨some 2, .mv (.tmp 5), none, none⟩]
def netlists_copied_int_ic : IC := (.seq (.reg netlists_copied_int_r0 [.keep [0] []]) (.seq (.reg netlists_copied_int_r1 [.keep [2] []]) .ret))
@[simp ↓] theorem netlists_copied_int_ic_run : run P Γ netlists_copied_int_ic Q s = run P Γ (.seq (.reg netlists_copied_int_r0 [.keep [0] []]) (.seq (.reg netlists_copied_int_r1 [.keep [2] []]) .ret)) Q s := Eq.trans rfl rfl
attribute [simp] netlists_copied_int_r0 netlists_copied_int_r1
def netlists_copied_int_rv : List RV := [.tmp 2]

/- slices.Clone[[]probecard/api.Node,probecard/api.Node] (function 116) -/
def slices_Clone_api_Node_r0 : List RO := [
    ⟨some 2, .mv (.const (.slice none 0 0)), none, none⟩]
def slices_Clone_api_Node_r1 : List RO := [
    ⟨some 3, .mv (.tmp 0), none, none⟩,
    ⟨some 4, .isNil true (.tmp 3), none, none⟩]
def slices_Clone_api_Node_r2 : List RO := [
    ⟨some 2, .mv (.const (.slice none 0 0)), none, none⟩]
def slices_Clone_api_Node_r3 : List RO := [
    ⟨some 5, .bsl true 48 4 [], none, none⟩,
    ⟨some 6, .mv (.tmp 0), none, none⟩,
    ⟨some 7, .app false 48 4 (.tmp 5) (.tmp 6), none, none⟩,
    ⟨some 2, .mv (.tmp 7), none, none⟩]
def slices_Clone_api_Node_ic : IC := (.seq (.reg slices_Clone_api_Node_r0 [.keep [0] []]) (.seq (.seq (.reg slices_Clone_api_Node_r1 [.keep [0, 4] []]) (.cond (.tmp 4) (.seq (.reg slices_Clone_api_Node_r2 [.keep [2] [7]]) .ret) .skip)) (.seq (.reg slices_Clone_api_Node_r3 [.keep [2] [7]]) .ret)))
@[simp ↓] theorem slices_Clone_api_Node_ic_run : run P Γ slices_Clone_api_Node_ic Q s = run P Γ (.seq (.reg slices_Clone_api_Node_r0 [.keep [0] []]) (.seq (.seq (.reg slices_Clone_api_Node_r1 [.keep [0, 4] []]) (.cond (.tmp 4) (.seq (.reg slices_Clone_api_Node_r2 [.keep [2] [7]]) .ret) .skip)) (.seq (.reg slices_Clone_api_Node_r3 [.keep [2] [7]]) .ret))) Q s := Eq.trans rfl rfl
attribute [simp] slices_Clone_api_Node_r0 slices_Clone_api_Node_r1 slices_Clone_api_Node_r2 slices_Clone_api_Node_r3
def slices_Clone_api_Node_rv : List RV := [.tmp 2]

/- slices.Clone[[]string,string] (function 117) -/
def slices_Clone_string_r0 : List RO := [
    ⟨some 2, .mv (.const (.slice none 0 0)), none, none⟩]
def slices_Clone_string_r1 : List RO := [
    ⟨some 3, .mv (.tmp 0), none, none⟩,
    ⟨some 4, .isNil true (.tmp 3), none, none⟩]
def slices_Clone_string_r2 : List RO := [
    ⟨some 2, .mv (.const (.slice none 0 0)), none, none⟩]
def slices_Clone_string_r3 : List RO := [
    ⟨some 5, .bsl true 9 1 [], none, none⟩,
    ⟨some 6, .mv (.tmp 0), none, none⟩,
    ⟨some 7, .appT 9 1 (.tmp 5) (.tmp 6), none, none⟩,
    ⟨some 2, .mv (.tmp 7), none, none⟩]
def slices_Clone_string_ic : IC := (.seq (.reg slices_Clone_string_r0 [.keep [0] []]) (.seq (.seq (.reg slices_Clone_string_r1 [.keep [0, 4] []]) (.cond (.tmp 4) (.seq (.reg slices_Clone_string_r2 [.keep [2] []]) .ret) .skip)) (.seq (.reg slices_Clone_string_r3 [.keep [2] []]) .ret)))
@[simp ↓] theorem slices_Clone_string_ic_run : run P Γ slices_Clone_string_ic Q s = run P Γ (.seq (.reg slices_Clone_string_r0 [.keep [0] []]) (.seq (.seq (.reg slices_Clone_string_r1 [.keep [0, 4] []]) (.cond (.tmp 4) (.seq (.reg slices_Clone_string_r2 [.keep [2] []]) .ret) .skip)) (.seq (.reg slices_Clone_string_r3 [.keep [2] []]) .ret))) Q s := Eq.trans rfl rfl
attribute [simp] slices_Clone_string_r0 slices_Clone_string_r1 slices_Clone_string_r2 slices_Clone_string_r3
def slices_Clone_string_rv : List RV := [.tmp 2]

/- slices.Clone[[]probecard/api.Memory,probecard/api.Memory] (function 119) -/
def slices_Clone_api_Memory_r0 : List RO := [
    ⟨some 2, .mv (.const (.slice none 0 0)), none, none⟩]
def slices_Clone_api_Memory_r1 : List RO := [
    ⟨some 3, .mv (.tmp 0), none, none⟩,
    ⟨some 4, .isNil true (.tmp 3), none, none⟩]
def slices_Clone_api_Memory_r2 : List RO := [
    ⟨some 2, .mv (.const (.slice none 0 0)), none, none⟩]
def slices_Clone_api_Memory_r3 : List RO := [
    ⟨some 5, .bsl true 102 3 [], none, none⟩,
    ⟨some 6, .mv (.tmp 0), none, none⟩,
    ⟨some 7, .appT 102 3 (.tmp 5) (.tmp 6), none, none⟩,
    ⟨some 2, .mv (.tmp 7), none, none⟩]
def slices_Clone_api_Memory_ic : IC := (.seq (.reg slices_Clone_api_Memory_r0 [.keep [0] []]) (.seq (.seq (.reg slices_Clone_api_Memory_r1 [.keep [0, 4] []]) (.cond (.tmp 4) (.seq (.reg slices_Clone_api_Memory_r2 [.keep [2] []]) .ret) .skip)) (.seq (.reg slices_Clone_api_Memory_r3 [.keep [2] []]) .ret)))
@[simp ↓] theorem slices_Clone_api_Memory_ic_run : run P Γ slices_Clone_api_Memory_ic Q s = run P Γ (.seq (.reg slices_Clone_api_Memory_r0 [.keep [0] []]) (.seq (.seq (.reg slices_Clone_api_Memory_r1 [.keep [0, 4] []]) (.cond (.tmp 4) (.seq (.reg slices_Clone_api_Memory_r2 [.keep [2] []]) .ret) .skip)) (.seq (.reg slices_Clone_api_Memory_r3 [.keep [2] []]) .ret))) Q s := Eq.trans rfl rfl
attribute [simp] slices_Clone_api_Memory_r0 slices_Clone_api_Memory_r1 slices_Clone_api_Memory_r2 slices_Clone_api_Memory_r3
def slices_Clone_api_Memory_rv : List RV := [.tmp 2]

/- slices.Clip[[]probecard/api.Node,probecard/api.Node] (function 69) -/
def slices_Clip_api_Node_r0 : List RO := [
    ⟨some 2, .mv (.const (.slice none 0 0)), none, none⟩]
def slices_Clip_api_Node_r1 : List RO := [
    ⟨some 3, .mv (.tmp 0), none, none⟩,
    ⟨some 4, .mv (.tmp 0), none, none⟩,
    ⟨some 5, .len 0 (.tmp 4), none, none⟩,
    ⟨some 6, .mv (.tmp 0), none, none⟩,
    ⟨some 7, .len 0 (.tmp 6), none, none⟩,
    ⟨some 8, .slice 4 (.tmp 3) none (some (.tmp 5)) (some (.tmp 7)), none, none⟩,
    ⟨some 2, .mv (.tmp 8), none, none⟩]
def slices_Clip_api_Node_ic : IC := (.seq (.reg slices_Clip_api_Node_r0 [.keep [0] [1000000]]) (.seq (.reg slices_Clip_api_Node_r1 [.keep [2] [1000000]]) .ret))
@[simp ↓] theorem slices_Clip_api_Node_ic_run : run P Γ slices_Clip_api_Node_ic Q s = run P Γ (.seq (.reg slices_Clip_api_Node_r0 [.keep [0] [1000000]]) (.seq (.reg slices_Clip_api_Node_r1 [.keep [2] [1000000]]) .ret)) Q s := Eq.trans rfl rfl
attribute [simp] slices_Clip_api_Node_r0 slices_Clip_api_Node_r1
def slices_Clip_api_Node_rv : List RV := [.tmp 2]

/- slices.Clip[[]string,string] (function 70) -/
def slices_Clip_string_r0 : List RO := [
    ⟨some 2, .mv (.const (.slice none 0 0)), none, none⟩]
def slices_Clip_string_r1 : List RO := [
    ⟨some 3, .mv (.tmp 0), none, none⟩,
    ⟨some 4, .mv (.tmp 0), none, none⟩,
    ⟨some 5, .len 0 (.tmp 4), none, none⟩,
    ⟨some 6, .mv (.tmp 0), none, none⟩,
    ⟨some 7, .len 0 (.tmp 6), none, none⟩,
    ⟨some 8, .slice 1 (.tmp 3) none (some (.tmp 5)) (some (.tmp 7)), none, none⟩,
    ⟨some 2, .mv (.tmp 8), none, none⟩]
def slices_Clip_string_ic : IC := (.seq (.reg slices_Clip_string_r0 [.keep [0] []]) (.seq (.reg slices_Clip_string_r1 [.keep [2] []]) .ret))
@[simp ↓] theorem slices_Clip_string_ic_run : run P Γ slices_Clip_string_ic Q s = run P Γ (.seq (.reg slices_Clip_string_r0 [.keep [0] []]) (.seq (.reg slices_Clip_string_r1 [.keep [2] []]) .ret)) Q s := Eq.trans rfl rfl
attribute [simp] slices_Clip_string_r0 slices_Clip_string_r1
def slices_Clip_string_rv : List RV := [.tmp 2]

/- slices.Clip[[]probecard/api.Memory,probecard/api.Memory] (function 118) -/
def slices_Clip_api_Memory_r0 : List RO := [
    ⟨some 2, .mv (.const (.slice none 0 0)), none, none⟩]
def slices_Clip_api_Memory_r1 : List RO := [
    ⟨some 3, .mv (.tmp 0), none, none⟩,
    ⟨some 4, .mv (.tmp 0), none, none⟩,
    ⟨some 5, .len 0 (.tmp 4), none, none⟩,
    ⟨some 6, .mv (.tmp 0), none, none⟩,
    ⟨some 7, .len 0 (.tmp 6), none, none⟩,
    ⟨some 8, .slice 3 (.tmp 3) none (some (.tmp 5)) (some (.tmp 7)), none, none⟩,
    ⟨some 2, .mv (.tmp 8), none, none⟩]
def slices_Clip_api_Memory_ic : IC := (.seq (.reg slices_Clip_api_Memory_r0 [.keep [0] []]) (.seq (.reg slices_Clip_api_Memory_r1 [.keep [2] []]) .ret))
@[simp ↓] theorem slices_Clip_api_Memory_ic_run : run P Γ slices_Clip_api_Memory_ic Q s = run P Γ (.seq (.reg slices_Clip_api_Memory_r0 [.keep [0] []]) (.seq (.reg slices_Clip_api_Memory_r1 [.keep [2] []]) .ret)) Q s := Eq.trans rfl rfl
attribute [simp] slices_Clip_api_Memory_r0 slices_Clip_api_Memory_r1
def slices_Clip_api_Memory_rv : List RV := [.tmp 2]

/- strconv.Itoa (function 68) -/
def strconv_Itoa_r0 : List RO := [
    ⟨some 2, .mv (.const (sV [])), none, none⟩]
def strconv_Itoa_r1 : List RO := [
    ⟨some 3, .mv (.tmp 0), none, none⟩,
    ⟨some 4, .call 100 [(.tmp 3)], none, none⟩,
    ⟨some 2, .mv (.tmp 4), none, none⟩]
def strconv_Itoa_ic : IC := (.seq (.reg strconv_Itoa_r0 [.keep [0] []]) (.seq (.reg strconv_Itoa_r1 [.keep [2] []]) .ret))
@[simp ↓] theorem strconv_Itoa_ic_run : run P Γ strconv_Itoa_ic Q s = run P Γ (.seq (.reg strconv_Itoa_r0 [.keep [0] []]) (.seq (.reg strconv_Itoa_r1 [.keep [2] []]) .ret)) Q s := Eq.trans rfl rfl
attribute [simp] strconv_Itoa_r0 strconv_Itoa_r1
def strconv_Itoa_rv : List RV := [.tmp 2]

/- internal/strconv.Itoa (function 100) -/
def i_strconv_Itoa_r0 : List RO := [
    ⟨some 2, .mv (.const (sV [])), none, none⟩]
def i_strconv_Itoa_r1 : List RO := [
    ⟨some 3, .mv (.tmp 0), none, none⟩,
    ⟨some 4, .call 120 [(.tmp 3), (.const (.int .i64 10))], none, none⟩,
    ⟨some 2, .mv (.tmp 4), none, none⟩]
def i_strconv_Itoa_ic : IC := (.seq (.reg i_strconv_Itoa_r0 [.keep [0] []]) (.seq (.reg i_strconv_Itoa_r1 [.keep [2] []]) .ret))
@[simp ↓] theorem i_strconv_Itoa_ic_run : run P Γ i_strconv_Itoa_ic Q s = run P Γ (.seq (.reg i_strconv_Itoa_r0 [.keep [0] []]) (.seq (.reg i_strconv_Itoa_r1 [.keep [2] []]) .ret)) Q s := Eq.trans rfl rfl
attribute [simp] i_strconv_Itoa_r0 i_strconv_Itoa_r1
def i_strconv_Itoa_rv : List RV := [.tmp 2]

/- internal/strconv.FormatInt (function 120) -/
def i_strconv_FormatInt_r0 : List RO := [
    ⟨some 4, .mv (.const (sV [])), none, none⟩]
def i_strconv_FormatInt_r1 : List RO := [
    ⟨some 10, .mv (.tmp 1), none, none⟩,
    ⟨some 11, .bin .eql (.tmp 10) (.const (.int .i64 10)), none, none⟩]
def i_strconv_FormatInt_r2 : List RO := [
    ⟨some 12, .mv (.tmp 0), none, none⟩,
    ⟨some 13, .bin .leq (.const (.int .i64 0)) (.tmp 12), none, none⟩,
    ⟨some 14, .mv (.tmp 13), none, none⟩,
    ⟨some 15, .mv (.tmp 0), some (14, true), none⟩,
    ⟨some 16, .bin .lss (.tmp 15) (.const (.int .i64 100)), some (14, true), none⟩,
    ⟨some 17, .pick (.tmp 14) (.tmp 16) (.const (.bool false)), none, none⟩]
def i_strconv_FormatInt_r3 : List RO := [
    ⟨some 18, .mv (.tmp 0), none, none⟩,
    ⟨some 19, .call 130 [(.tmp 18)], none, none⟩,
    ⟨some 4, .mv (.tmp 19), none, none⟩]
def i_strconv_FormatInt_r4 : List RO := [
    ⟨some 5, .alloc false [(.int .u8 0), (.int .u8 0), (.int .u8 0), (.int .u8 0), (.int .u8 0), (.int .u8 0), (.int .u8 0), (.int .u8 0), (.int .u8 0), (.int .u8 0), (.int .u8 0), (.int .u8 0), (.int .u8 0), (.int .u8 0), (.int .u8 0), (.int .u8 0), (.int .u8 0), (.int .u8 0), (.int .u8 0), (.int .u8 0), (.int .u8 0), (.int .u8 0), (.int .u8 0), (.int .u8 0)], none, none⟩]
def i_strconv_FormatInt_r5 : List RO := [
    ⟨some 20, .mv (.tmp 0), none, none⟩,
    ⟨some 21, .conv .u64 (.tmp 20), none, none⟩,
    ⟨some 6, .mv (.tmp 21), none, none⟩]
def i_strconv_FormatInt_r6 : List RO := [
    ⟨some 22, .mv (.tmp 0), none, none⟩,
    ⟨some 23, .bin .lss (.tmp 22) (.const (.int .i64 0)), none, none⟩]
def i_strconv_FormatInt_r7 : List RO := [
    ⟨some 24, .mv (.tmp 6), none, none⟩,
    ⟨some 25, .un .neg (.tmp 24), none, none⟩,
    ⟨some 6, .mv (.tmp 25), none, none⟩]
def i_strconv_FormatInt_r8 : List RO := [
    ⟨some 26, .mv (.tmp 6), none, none⟩,
    ⟨some 27, .call 131 [(.tmp 26)], none, none⟩,
    ⟨some 7, .mv (.tmp 27), none, none⟩]
def i_strconv_FormatInt_c0 : IC := (.seq (.seq (.reg i_strconv_FormatInt_r2 [.keep [0, 17] []]) (.cond (.tmp 17) (.seq (.reg i_strconv_FormatInt_r3 [.keep [4] []]) .ret) .skip)) (.seq (.reg i_strconv_FormatInt_r4 [.keep [0, 5] [5]]) (.seq (.reg i_strconv_FormatInt_r5 [.keep [0, 5, 6] [5]]) (.seq (.seq (.reg i_strconv_FormatInt_r6 [.keep [0, 5, 6, 23] [5]]) (.cond (.tmp 23) (.reg i_strconv_FormatInt_r7 [.keep [0, 5, 6] [5]]) .skip)) (.seq (.reg i_strconv_FormatInt_r8 [.keep [0, 5, 6, 7] [5]]) .dead)))))
def i_strconv_FormatInt_r14 : List RO := [
    ⟨some 45, .mv (.tmp 0), none, none⟩,
    ⟨some 46, .conv .u64 (.tmp 45), none, none⟩,
    ⟨some 47, .mv (.tmp 1), none, none⟩,
    ⟨some 48, .mv (.tmp 0), none, none⟩,
    ⟨some 49, .bin .lss (.tmp 48) (.const (.int .i64 0)), none, none⟩,
    ⟨some 50, .call 133 [(.const (.slice none 0 0)), (.tmp 46), (.tmp 47), (.tmp 49), (.const (.bool false))], none, none⟩,
    ⟨some 44, .mv (.tmp 50), none, none⟩,
    ⟨some 51, .ext (.tmp 44) 0, none, none⟩,
    ⟨some 52, .ext (.tmp 44) 1, none, none⟩,
    ⟨some 8, .mv (.tmp 51), none, none⟩,
    ⟨some 9, .mv (.tmp 52), none, none⟩]
def i_strconv_FormatInt_r15 : List RO := [
    ⟨some 53, .mv (.tmp 9), none, none⟩,
    ⟨some 4, .mv (.tmp 53), none, none⟩]
def i_strconv_FormatInt_ic : IC := (.seq (.reg i_strconv_FormatInt_r0 [.keep [0, 1] []]) (.seq (.seq (.reg i_strconv_FormatInt_r1 [.keep [0, 1, 11] []]) (.cond (.tmp 11) i_strconv_FormatInt_c0 .skip)) (.seq (.reg i_strconv_FormatInt_r14 [.keep [9] []]) (.seq (.reg i_strconv_FormatInt_r15 [.keep [4] []]) .ret))))
@[simp ↓] theorem i_strconv_FormatInt_c0_run : run P Γ i_strconv_FormatInt_c0 Q s = run P Γ (.seq (.seq (.reg i_strconv_FormatInt_r2 [.keep [0, 17] []]) (.cond (.tmp 17) (.seq (.reg i_strconv_FormatInt_r3 [.keep [4] []]) .ret) .skip)) (.seq (.reg i_strconv_FormatInt_r4 [.keep [0, 5] [5]]) (.seq (.reg i_strconv_FormatInt_r5 [.keep [0, 5, 6] [5]]) (.seq (.seq (.reg i_strconv_FormatInt_r6 [.keep [0, 5, 6, 23] [5]]) (.cond (.tmp 23) (.reg i_strconv_FormatInt_r7 [.keep [0, 5, 6] [5]]) .skip)) (.seq (.reg i_strconv_FormatInt_r8 [.keep [0, 5, 6, 7] [5]]) .dead))))) Q s := Eq.trans rfl rfl
@[simp ↓] theorem i_strconv_FormatInt_ic_run : run P Γ i_strconv_FormatInt_ic Q s = run P Γ (.seq (.reg i_strconv_FormatInt_r0 [.keep [0, 1] []]) (.seq (.seq (.reg i_strconv_FormatInt_r1 [.keep [0, 1, 11] []]) (.cond (.tmp 11) i_strconv_FormatInt_c0 .skip)) (.seq (.reg i_strconv_FormatInt_r14 [.keep [9] []]) (.seq (.reg i_strconv_FormatInt_r15 [.keep [4] []]) .ret)))) Q s := Eq.trans rfl rfl
attribute [simp] i_strconv_FormatInt_r0 i_strconv_FormatInt_r1 i_strconv_FormatInt_r2 i_strconv_FormatInt_r3 i_strconv_FormatInt_r4 i_strconv_FormatInt_r5 i_strconv_FormatInt_r6 i_strconv_FormatInt_r7 i_strconv_FormatInt_r8 i_strconv_FormatInt_r14 i_strconv_FormatInt_r15
def i_strconv_FormatInt_rv : List RV := [.tmp 4]

/- internal/strconv.small (function 130) -/
def i_strconv_small_r0 : List RO := [
    ⟨some 2, .mv (.const (sV [])), none, none⟩]
def i_strconv_small_r1 : List RO := [
    ⟨some 3, .mv (.tmp 0), none, none⟩,
    ⟨some 4, .bin .lss (.tmp 3) (.const (.int .i64 10)), none, none⟩]
def i_strconv_small_r2 : List RO := [
    ⟨some 5, .mv (.tmp 0), none, none⟩,
    ⟨some 6, .mv (.tmp 0), none, none⟩,
    ⟨some 7, .bin .add (.tmp 6) (.const (.int .i64 1)), none, none⟩,
    ⟨some 8, .slice 0 (.const (sV [48, 49, 50, 51, 52, 53, 54, 55, 56, 57, 97, 98, 99, 100, 101, 102, 103, 104, 105, 106, 107, 108, 109, 110, 111, 112, 113, 114, 115, 116, 117, 118, 119, 120, 121, 122])) (some (.tmp 5)) (some (.tmp 7)) none, none, none⟩,
    ⟨some 2, .mv (.tmp 8), none, none⟩]
def i_strconv_small_r3 : List RO := [
    ⟨some 9, .mv (.tmp 0), none, none⟩,
    ⟨some 10, .bin .mul (.tmp 9) (.const (.int .i64 2)), none, none⟩,
    ⟨some 11, .mv (.tmp 0), none, none⟩,
    ⟨some 12, .bin .mul (.tmp 11) (.const (.int .i64 2)), none, none⟩,
    ⟨some 13, .bin .add (.tmp 12) (.const (.int .i64 2)), none, none⟩,
    ⟨some 14, .slice 0 (.const (sV [48, 48, 48, 49, 48, 50, 48, 51, 48, 52, 48, 53, 48, 54, 48, 55, 48, 56, 48, 57, 49, 48, 49, 49, 49, 50, 49, 51, 49, 52, 49, 53, 49, 54, 49, 55, 49, 56, 49, 57, 50, 48, 50, 49, 50, 50, 50, 51, 50, 52, 50, 53, 50, 54, 50, 55, 50, 56, 50, 57, 51, 48, 51, 49, 51, 50, 51, 51, 51, 52, 51, 53, 51, 54, 51, 55, 51, 56, 51, 57, 52, 48, 52, 49, 52, 50, 52, 51, 52, 52, 52, 53, 52, 54, 52, 55, 52, 56, 52, 57, 53, 48, 53, 49, 53, 50, 53, 51, 53, 52, 53, 53, 53, 54, 53, 55, 53, 56, 53, 57, 54, 48, 54, 49, 54, 50, 54, 51, 54, 52, 54, 53, 54, 54, 54, 55, 54, 56, 54, 57, 55, 48, 55, 49, 55, 50, 55, 51, 55, 52, 55, 53, 55, 54, 55, 55, 55, 56, 55, 57, 56, 48, 56, 49, 56, 50, 56, 51, 56, 52, 56, 53, 56, 54, 56, 55, 56, 56, 56, 57, 57, 48, 57, 49, 57, 50, 57, 51, 57, 52, 57, 53, 57, 54, 57, 55, 57, 56, 57, 57])) (some (.tmp 10)) (some (.tmp 13)) none, none, none⟩,
    ⟨some 2, .mv (.tmp 14), none, none⟩]
def i_strconv_small_ic : IC := (.seq (.reg i_strconv_small_r0 [.keep [0] []]) (.seq (.seq (.reg i_strconv_small_r1 [.keep [0, 4] []]) (.cond (.tmp 4) (.seq (.reg i_strconv_small_r2 [.keep [2] []]) .ret) .skip)) (.seq (.reg i_strconv_small_r3 [.keep [2] []]) .ret)))
@[simp ↓] theorem i_strconv_small_ic_run : run P Γ i_strconv_small_ic Q s = run P Γ (.seq (.reg i_strconv_small_r0 [.keep [0] []]) (.seq (.seq (.reg i_strconv_small_r1 [.keep [0, 4] []]) (.cond (.tmp 4) (.seq (.reg i_strconv_small_r2 [.keep [2] []]) .ret) .skip)) (.seq (.reg i_strconv_small_r3 [.keep [2] []]) .ret))) Q s := Eq.trans rfl rfl
attribute [simp] i_strconv_small_r0 i_strconv_small_r1 i_strconv_small_r2 i_strconv_small_r3
def i_strconv_small_rv : List RV := [.tmp 2]
end
end Go.Lg

/- The abstract code is that of the program (by the kernel). Conditions: none. -/
namespace Go.Lg
open Go Go.Proofs
theorem scans_Insert_chk : chkF Tryd.prog 37 scans_Insert_ic 213 2 scans_Insert_rv = true := by kernel_rfl
theorem scans_builder_add_chk : chkF Tryd.prog 67 scans_builder_add_ic 63 3 scans_builder_add_rv = true := by kernel_rfl
theorem netlists_Copy_chk : chkF Tryd.prog 66 netlists_Copy_ic 64 1 netlists_Copy_rv = true := by kernel_rfl
theorem netlists_copied_api_Node_chk : chkF Tryd.prog 96 netlists_copied_api_Node_ic 6 1 netlists_copied_api_Node_rv = true := by kernel_rfl
theorem netlists_copied_string_chk : chkF Tryd.prog 97 netlists_copied_string_ic 6 1 netlists_copied_string_rv = true := by kernel_rfl
theorem netlists_copied_api_Memory_chk : chkF Tryd.prog 98 netlists_copied_api_Memory_ic 6 1 netlists_copied_api_Memory_rv = true := by kernel_rfl
theorem netlists_copied_int_chk : chkF Tryd.prog 99 netlists_copied_int_ic 6 1 netlists_copied_int_rv = true := by kernel_rfl
theorem slices_Clone_api_Node_chk : chkF Tryd.prog 116 slices_Clone_api_Node_ic 8 1 slices_Clone_api_Node_rv = true := by kernel_rfl
theorem slices_Clone_string_chk : chkF Tryd.prog 117 slices_Clone_string_ic 8 1 slices_Clone_string_rv = true := by kernel_rfl
theorem slices_Clone_api_Memory_chk : chkF Tryd.prog 119 slices_Clone_api_Memory_ic 8 1 slices_Clone_api_Memory_rv = true := by kernel_rfl
theorem slices_Clip_api_Node_chk : chkF Tryd.prog 69 slices_Clip_api_Node_ic 9 1 slices_Clip_api_Node_rv = true := by kernel_rfl
theorem slices_Clip_string_chk : chkF Tryd.prog 70 slices_Clip_string_ic 9 1 slices_Clip_string_rv = true := by kernel_rfl
theorem slices_Clip_api_Memory_chk : chkF Tryd.prog 118 slices_Clip_api_Memory_ic 9 1 slices_Clip_api_Memory_rv = true := by kernel_rfl
theorem strconv_Itoa_chk : chkF Tryd.prog 68 strconv_Itoa_ic 5 1 strconv_Itoa_rv = true := by kernel_rfl
theorem i_strconv_Itoa_chk : chkF Tryd.prog 100 i_strconv_Itoa_ic 5 1 i_strconv_Itoa_rv = true := by kernel_rfl
theorem i_strconv_FormatInt_chk : chkF Tryd.prog 120 i_strconv_FormatInt_ic 54 2 i_strconv_FormatInt_rv = true := by kernel_rfl
theorem i_strconv_small_chk : chkF Tryd.prog 130 i_strconv_small_ic 15 1 i_strconv_small_rv = true := by kernel_rfl
end Go.Lg

/- Small numbers as text; copies of lists. Conditions: none. -/
set_option linter.unusedSimpArgs false
set_option linter.unusedVariables false
set_option maxRecDepth 100000
namespace Go.Lg
open Go Go.Proofs
variable {Γ : Tables}

def itoaL (i : Nat) : List UInt8 := if i < 10 then [UInt8.ofNat (48 + i)] else [UInt8.ofNat (48 + i / 10), UInt8.ofNat (48 + i % 10)]

def dig1 : List UInt8 := [48, 49, 50, 51, 52, 53, 54, 55, 56, 57, 97, 98, 99, 100, 101, 102, 103, 104, 105, 106, 107, 108, 109, 110, 111, 112, 113, 114, 115, 116, 117, 118, 119, 120, 121, 122]
def dig2 : List UInt8 := (List.range 100).flatMap fun i => [UInt8.ofNat (48 + i / 10), UInt8.ofNat (48 + i % 10)]
theorem dig1_at : ∀ i, i < 10 → ((ByteArray.mk dig1.toArray).extract i (i + 1)).data.toList = [UInt8.ofNat (48 + i)] := by decide +kernel
theorem dig2_at : ∀ i, i < 100 → ((ByteArray.mk dig2.toArray).extract (i * 2) (i * 2 + 2)).data.toList = [UInt8.ofNat (48 + i / 10), UInt8.ofNat (48 + i % 10)] := by decide +kernel
theorem ba_of {a : ByteArray} {l : List UInt8} (h : a.data.toList = l) : a = ByteArray.mk l.toArray := by
  cases a; simp only at h; subst h; rfl

theorem small_spec (i : Nat) (hi : i < 100) : FreshCalls Tryd.prog Γ 130 [tI i] (tS (itoaL i)) := by
  refine run_freshQ i_strconv_small_chk rfl ?_
  by_cases h : i < 10
  · have h' : (i : Int) < 10 := by omega
    have e := ba_of (dig1_at i h)
    simp only [dig1] at e
    simp (disch := omega) [i_strconv_small_ic, sV, h, h', wrap_i64]
    have e1 : ((i : Int) + 1).toNat = i + 1 := by omega
    simp [i_strconv_small_rv, e1, e, itoaL, h, tS, sV]
    omega
  · have h' : ¬ (i : Int) < 10 := by omega
    have e := ba_of (dig2_at i hi)
    have d2 : dig2 = [48, 48, 48, 49, 48, 50, 48, 51, 48, 52, 48, 53, 48, 54, 48, 55, 48, 56, 48, 57, 49, 48, 49, 49, 49, 50, 49, 51, 49, 52, 49, 53, 49, 54, 49, 55, 49, 56, 49, 57, 50, 48, 50, 49, 50, 50, 50, 51, 50, 52, 50, 53, 50, 54, 50, 55, 50, 56, 50, 57, 51, 48, 51, 49, 51, 50, 51, 51, 51, 52, 51, 53, 51, 54, 51, 55, 51, 56, 51, 57, 52, 48, 52, 49, 52, 50, 52, 51, 52, 52, 52, 53, 52, 54, 52, 55, 52, 56, 52, 57, 53, 48, 53, 49, 53, 50, 53, 51, 53, 52, 53, 53, 53, 54, 53, 55, 53, 56, 53, 57, 54, 48, 54, 49, 54, 50, 54, 51, 54, 52, 54, 53, 54, 54, 54, 55, 54, 56, 54, 57, 55, 48, 55, 49, 55, 50, 55, 51, 55, 52, 55, 53, 55, 54, 55, 55, 55, 56, 55, 57, 56, 48, 56, 49, 56, 50, 56, 51, 56, 52, 56, 53, 56, 54, 56, 55, 56, 56, 56, 57, 57, 48, 57, 49, 57, 50, 57, 51, 57, 52, 57, 53, 57, 54, 57, 55, 57, 56, 57, 57] := by decide +kernel
    rw [d2] at e
    simp (disch := omega) [i_strconv_small_ic, sV, h, h', wrap_i64]
    have e1 : ((i : Int) * 2).toNat = i * 2 := by omega
    have e2 : ((i : Int) * 2 + 2).toNat = i * 2 + 2 := by omega
    simp [i_strconv_small_rv, e1, e2, e, itoaL, h, tS, sV]
    omega

theorem itoa_spec (i : Nat) (hi : i < 100) : FreshCalls Tryd.prog Γ 68 [tI i] (tS (itoaL i)) := by
  have h1 : FreshCalls Tryd.prog Γ 120 [tI i, tI 10] (tS (itoaL i)) := by
    refine run_freshQ i_strconv_FormatInt_chk rfl ?_
    have h0 : (0 : Int) ≤ i := by omega
    have h2 : (i : Int) < 100 := by omega
    simp (disch := omega) [i_strconv_FormatInt_ic, h2]
    refine callK_fresh (small_spec i hi) rfl ?_
    simp [i_strconv_FormatInt_rv, tS, sV]
  have h2 : FreshCalls Tryd.prog Γ 100 [tI i] (tS (itoaL i)) := by
    refine run_freshQ i_strconv_Itoa_chk rfl ?_
    simp [i_strconv_Itoa_ic]
    refine callK_fresh h1 rfl ?_
    simp [i_strconv_Itoa_rv, tS, sV]
  refine run_freshQ strconv_Itoa_chk rfl ?_
  simp [strconv_Itoa_ic]
  refine callK_fresh h2 rfl ?_
  simp [strconv_Itoa_rv, tS, sV]
end Go.Lg

/- The abstract code of some functions, as the program gen.py prints it. Conditions: none. -/
set_option linter.unusedVariables false
namespace Go.Lg
open Go
section
variable {P : Program} {Γ : Tables} {Q : AX → St → Prop} {s : St}
/- probecard/scans.Balance (function 13) -/
def scans_Balance_r0 : List RO := [
    ⟨some 2, .box true (.tmp 0), none, none⟩,
    ⟨some 4, .mv (.const (.slice none 0 0)), none, none⟩,
    ⟨some 5, .mv (.const (.int .i64 0)), none, none⟩]
def scans_Balance_r1 : List RO := [
    ⟨some 11, .load 4 true (.tmp 2), none, none⟩,
    ⟨some 12, .call 41 [(.tmp 11)], none, none⟩,
    ⟨some 6, .mv (.tmp 12), none, none⟩]
def scans_Balance_r2 : List RO := [
    ⟨some 14, .mv (.tmp 6), none, none⟩,
    ⟨some 15, .bin .neq (.tmp 14) (.const (.int .i64 0)), none, none⟩,
    ⟨some 13, .mv (.tmp 15), none, none⟩]
def scans_Balance_r3 : List RO := [
    ⟨some 16, .mv (.tmp 6), none, none⟩,
    ⟨some 4, .mv (.const (.slice none 0 0)), none, none⟩,
    ⟨some 5, .mv (.tmp 16), none, none⟩]
def scans_Balance_r4 : List RO := [
    ⟨some 18, .mv (.tmp 1), none, none⟩,
    ⟨some 19, .bin .lss (.tmp 18) (.const (.int .i64 1)), none, none⟩,
    ⟨some 17, .mv (.tmp 19), none, none⟩]
def scans_Balance_r5 : List RO := [
    ⟨some 4, .mv (.const (.slice none 0 0)), none, none⟩,
    ⟨some 5, .mv (.const (.int .i64 1)), none, none⟩]
def scans_Balance_r6 : List RO := [
    ⟨some 21, .mv (.tmp 1), none, none⟩,
    ⟨some 22, .bin .gtr (.tmp 21) (.const (.int .i64 64)), none, none⟩,
    ⟨some 20, .mv (.tmp 22), none, none⟩]
def scans_Balance_r7 : List RO := [
    ⟨some 4, .mv (.const (.slice none 0 0)), none, none⟩,
    ⟨some 5, .mv (.const (.int .i64 3)), none, none⟩]
def scans_Balance_r8 : List RO := [
    ⟨some 23, .load 4 true (.tmp 2), none, none⟩,
    ⟨some 24, .call 17 [(.tmp 23)], none, none⟩,
    ⟨some 7, .mv (.tmp 24), none, none⟩]
def scans_Balance_r9 : List RO := [
    ⟨some 25, .mv (.tmp 1), none, none⟩,
    ⟨some 26, .mv (.tmp 7), none, none⟩,
    ⟨some 27, .len 0 (.tmp 26), none, none⟩,
    ⟨some 28, .mmx false [(.tmp 25), (.tmp 27)], none, none⟩,
    ⟨some 1, .mv (.tmp 28), none, none⟩]
def scans_Balance_r10 : List RO := [
    ⟨some 8, .mv (.const (.slice none 0 0)), none, none⟩]
def scans_Balance_r11 : List RO := [
    ⟨some 29, .mv (.tmp 1), none, none⟩,
    ⟨some 30, .mv (.const (.int .i64 0)), none, none⟩]
def scans_Balance_r12 : List RO := [
    ⟨some 31, .bin .lss (.tmp 30) (.tmp 29), none, none⟩]
def scans_Balance_r13 : List RO := [
    ⟨some 32, .mv (.tmp 30), none, none⟩,
    ⟨some 9, .mv (.tmp 32), none, none⟩]
def scans_Balance_r14 : List RO := [
    ⟨some 33, .mv (.tmp 7), none, none⟩,
    ⟨some 34, .len 0 (.tmp 33), none, none⟩,
    ⟨some 35, .mv (.tmp 1), none, none⟩,
    ⟨some 36, .mv (.tmp 9), none, none⟩,
    ⟨some 37, .bin .sub (.tmp 35) (.tmp 36), none, none⟩,
    ⟨some 38, .bin .quo (.tmp 34) (.tmp 37), none, none⟩,
    ⟨some 10, .mv (.tmp 38), none, none⟩]
def scans_Balance_r15 : List RO := [
    ⟨some 39, .mv (.tmp 7), none, none⟩,
    ⟨some 40, .len 0 (.tmp 39), none, none⟩,
    ⟨some 41, .mv (.tmp 1), none, none⟩,
    ⟨some 42, .mv (.tmp 9), none, none⟩,
    ⟨some 43, .bin .sub (.tmp 41) (.tmp 42), none, none⟩,
    ⟨some 44, .bin .rem (.tmp 40) (.tmp 43), none, none⟩,
    ⟨some 45, .bin .gtr (.tmp 44) (.const (.int .i64 0)), none, none⟩]
def scans_Balance_r16 : List RO := [
    ⟨some 46, .mv (.tmp 10), none, none⟩,
    ⟨some 47, .bin .add (.tmp 46) (.const (.int .i64 1)), none, none⟩,
    ⟨some 10, .mv (.tmp 47), none, none⟩]
def scans_Balance_r17 : List RO := [
    ⟨some 48, .mv (.tmp 8), none, none⟩,
    ⟨some 49, .mv (.tmp 7), none, none⟩,
    ⟨some 50, .mv (.tmp 10), none, none⟩,
    ⟨some 51, .slice 1 (.tmp 49) none (some (.tmp 50)) none, none, none⟩,
    ⟨some 52, .call 43 [(.tmp 51)], none, none⟩,
    ⟨some 53, .call 42 [(.tmp 52)], none, none⟩,
    ⟨some 54, .bsl true 31 1 [(.tmp 53)], none, none⟩,
    ⟨some 55, .app false 31 1 (.tmp 48) (.tmp 54), none, none⟩,
    ⟨some 8, .mv (.tmp 55), none, none⟩]
def scans_Balance_r18 : List RO := [
    ⟨some 56, .mv (.tmp 7), none, none⟩,
    ⟨some 57, .mv (.tmp 10), none, none⟩,
    ⟨some 58, .slice 1 (.tmp 56) (some (.tmp 57)) none none, none, none⟩,
    ⟨some 7, .mv (.tmp 58), none, none⟩]
def scans_Balance_r19 : List RO := [
    ⟨some 59, .bin .add (.tmp 30) (.const (.int .i64 1)), none, none⟩,
    ⟨some 30, .mv (.tmp 59), none, none⟩]
def scans_Balance_g0 : IC := .gh (.seq (.reg scans_Balance_r12 [.keep [1, 7, 8, 29, 30, 31] [55]]) (.seq (.cond (.tmp 31) .skip (.exit 1)) (.seq (.block 2 (.seq (.reg scans_Balance_r13 [.keep [1, 7, 8, 9, 29, 30] [55]]) (.seq (.reg scans_Balance_r14 [.keep [1, 7, 8, 9, 10, 29, 30] [55]]) (.seq (.seq (.reg scans_Balance_r15 [.keep [1, 7, 8, 10, 29, 30, 45] [55]]) (.cond (.tmp 45) (.reg scans_Balance_r16 [.keep [1, 7, 8, 10, 29, 30] [55]]) .skip)) (.seq (.reg scans_Balance_r17 [.keep [1, 7, 8, 10, 29, 30] [55]]) (.reg scans_Balance_r18 [.keep [1, 7, 8, 29, 30] [55]])))))) (.reg scans_Balance_r19 [.keep [1, 7, 8, 29, 30] [55]])))) [.keep [1, 7, 8, 29, 30] [55]]
def scans_Balance_l1 : IC := .loop scans_Balance_g0
def scans_Balance_r20 : List RO := [
    ⟨some 60, .mv (.tmp 8), none, none⟩,
    ⟨some 61, .call 44 [(.tmp 60)], none, none⟩,
    ⟨some 4, .mv (.tmp 61), none, none⟩,
    ⟨some 5, .mv (.const (.int .i64 0)), none, none⟩]
def scans_Balance_ic : IC := (.seq (.reg scans_Balance_r0 [.keep [1, 2] []]) (.seq (.seq (.reg scans_Balance_r1 [.keep [1, 2, 6] []]) (.block 0 (.seq (.reg scans_Balance_r2 [.keep [1, 2, 6, 13] []]) (.cond (.tmp 13) (.seq (.reg scans_Balance_r3 [.keep [4, 5] []]) .ret) (.seq (.reg scans_Balance_r4 [.keep [1, 2, 17] []]) (.cond (.tmp 17) (.seq (.reg scans_Balance_r5 [.keep [4, 5] []]) .ret) (.seq (.reg scans_Balance_r6 [.keep [1, 2, 20] []]) (.cond (.tmp 20) (.seq (.reg scans_Balance_r7 [.keep [4, 5] []]) .ret) .skip)))))))) (.seq (.reg scans_Balance_r8 [.keep [1, 7] []]) (.seq (.reg scans_Balance_r9 [.keep [1, 7] []]) (.seq (.reg scans_Balance_r10 [.nl 8 55 31 1, .keep [1, 7, 8] [55]]) (.seq (.seq (.reg scans_Balance_r11 [.keep [1, 7, 8, 29, 30] [55]]) (.gh (.block 1 scans_Balance_l1) [.frz 55])) (.seq (.reg scans_Balance_r20 [.keep [4, 5] []]) .ret)))))))
@[simp ↓] theorem scans_Balance_g0_run : run P Γ scans_Balance_g0 Q s = run P Γ (.gh (.seq (.reg scans_Balance_r12 [.keep [1, 7, 8, 29, 30, 31] [55]]) (.seq (.cond (.tmp 31) .skip (.exit 1)) (.seq (.block 2 (.seq (.reg scans_Balance_r13 [.keep [1, 7, 8, 9, 29, 30] [55]]) (.seq (.reg scans_Balance_r14 [.keep [1, 7, 8, 9, 10, 29, 30] [55]]) (.seq (.seq (.reg scans_Balance_r15 [.keep [1, 7, 8, 10, 29, 30, 45] [55]]) (.cond (.tmp 45) (.reg scans_Balance_r16 [.keep [1, 7, 8, 10, 29, 30] [55]]) .skip)) (.seq (.reg scans_Balance_r17 [.keep [1, 7, 8, 10, 29, 30] [55]]) (.reg scans_Balance_r18 [.keep [1, 7, 8, 29, 30] [55]])))))) (.reg scans_Balance_r19 [.keep [1, 7, 8, 29, 30] [55]])))) [.keep [1, 7, 8, 29, 30] [55]]) Q s := Eq.trans rfl rfl
@[simp ↓] theorem scans_Balance_ic_run : run P Γ scans_Balance_ic Q s = run P Γ (.seq (.reg scans_Balance_r0 [.keep [1, 2] []]) (.seq (.seq (.reg scans_Balance_r1 [.keep [1, 2, 6] []]) (.block 0 (.seq (.reg scans_Balance_r2 [.keep [1, 2, 6, 13] []]) (.cond (.tmp 13) (.seq (.reg scans_Balance_r3 [.keep [4, 5] []]) .ret) (.seq (.reg scans_Balance_r4 [.keep [1, 2, 17] []]) (.cond (.tmp 17) (.seq (.reg scans_Balance_r5 [.keep [4, 5] []]) .ret) (.seq (.reg scans_Balance_r6 [.keep [1, 2, 20] []]) (.cond (.tmp 20) (.seq (.reg scans_Balance_r7 [.keep [4, 5] []]) .ret) .skip)))))))) (.seq (.reg scans_Balance_r8 [.keep [1, 7] []]) (.seq (.reg scans_Balance_r9 [.keep [1, 7] []]) (.seq (.reg scans_Balance_r10 [.nl 8 55 31 1, .keep [1, 7, 8] [55]]) (.seq (.seq (.reg scans_Balance_r11 [.keep [1, 7, 8, 29, 30] [55]]) (.gh (.block 1 scans_Balance_l1) [.frz 55])) (.seq (.reg scans_Balance_r20 [.keep [4, 5] []]) .ret))))))) Q s := Eq.trans rfl rfl
theorem scans_Balance_l1_run (h : ∀ K : St → Prop, K = run P Γ scans_Balance_l1 Q → run P Γ scans_Balance_g0 (thenX K Q) s) : run P Γ scans_Balance_l1 Q s := run_loop h
attribute [simp] scans_Balance_r0 scans_Balance_r1 scans_Balance_r2 scans_Balance_r3 scans_Balance_r4 scans_Balance_r5 scans_Balance_r6 scans_Balance_r7 scans_Balance_r8 scans_Balance_r9 scans_Balance_r10 scans_Balance_r11 scans_Balance_r12 scans_Balance_r13 scans_Balance_r14 scans_Balance_r15 scans_Balance_r16 scans_Balance_r17 scans_Balance_r18 scans_Balance_r19 scans_Balance_r20
def scans_Balance_rv : List RV := [.tmp 4, .tmp 5]

/- probecard/scans.Check (function 18) -/
def scans_Check_r0 : List RO := [
    ⟨some 2, .box true (.tmp 0), none, none⟩,
    ⟨some 4, .mv (.const (.int .i64 0)), none, none⟩]
def scans_Check_r1 : List RO := [
    ⟨some 11, .load 4 true (.tmp 2), none, none⟩,
    ⟨some 12, .call 41 [(.tmp 11)], none, none⟩,
    ⟨some 5, .mv (.tmp 12), none, none⟩]
def scans_Check_r2 : List RO := [
    ⟨some 13, .mv (.tmp 5), none, none⟩,
    ⟨some 14, .bin .neq (.tmp 13) (.const (.int .i64 0)), none, none⟩]
def scans_Check_r3 : List RO := [
    ⟨some 15, .mv (.tmp 5), none, none⟩,
    ⟨some 4, .mv (.tmp 15), none, none⟩]
def scans_Check_r4 : List RO := [
    ⟨some 16, .mv (.tmp 1), none, none⟩,
    ⟨some 17, .len 0 (.tmp 16), none, none⟩,
    ⟨some 18, .bin .gtr (.tmp 17) (.const (.int .i64 64)), none, none⟩]
def scans_Check_r5 : List RO := [
    ⟨some 4, .mv (.const (.int .i64 3)), none, none⟩]
def scans_Check_r6 : List RO := [
    ⟨some 19, .mkmap, none, none⟩,
    ⟨some 6, .mv (.tmp 19), none, none⟩]
def scans_Check_r7 : List RO := [
    ⟨some 20, .mv (.tmp 1), none, none⟩,
    ⟨some 21, .len 0 (.tmp 20), none, none⟩,
    ⟨some 22, .mv (.const (.int .i64 0)), none, none⟩]
def scans_Check_r8 : List RO := [
    ⟨some 23, .bin .lss (.tmp 22) (.tmp 21), none, none⟩]
def scans_Check_r9 : List RO := [
    ⟨some 24, .iadr 1 (.tmp 20) (.tmp 22), none, none⟩,
    ⟨some 25, .load 1 false (.tmp 24), none, none⟩,
    ⟨some 8, .mv (.tmp 25), none, none⟩]
def scans_Check_r10 : List RO := [
    ⟨some 26, .mv (.tmp 8), none, none⟩,
    ⟨some 27, .len 0 (.tmp 26), none, none⟩,
    ⟨some 28, .bin .eql (.tmp 27) (.const (.int .i64 0)), none, none⟩]
def scans_Check_r11 : List RO := [
    ⟨some 4, .mv (.const (.int .i64 1)), none, none⟩]
def scans_Check_r12 : List RO := [
    ⟨some 29, .mv (.tmp 8), none, none⟩,
    ⟨some 30, .len 0 (.tmp 29), none, none⟩,
    ⟨some 31, .mv (.const (.int .i64 0)), none, none⟩]
def scans_Check_r13 : List RO := [
    ⟨some 32, .bin .lss (.tmp 31) (.tmp 30), none, none⟩]
def scans_Check_r14 : List RO := [
    ⟨some 33, .iadr 1 (.tmp 29) (.tmp 31), none, none⟩,
    ⟨some 34, .load 1 false (.tmp 33), none, none⟩,
    ⟨some 10, .mv (.tmp 34), none, none⟩]
def scans_Check_r15 : List RO := [
    ⟨some 35, .mv (.tmp 10), none, none⟩,
    ⟨some 36, .bin .lss (.tmp 35) (.const (.int .i64 0)), none, none⟩,
    ⟨some 37, .mv (.tmp 36), none, none⟩,
    ⟨some 38, .mv (.tmp 10), some (37, false), none⟩,
    ⟨some 39, .fadr 0 (.tmp 2), some (37, false), none⟩,
    ⟨some 40, .load 1 false (.tmp 39), some (37, false), none⟩,
    ⟨some 41, .len 0 (.tmp 40), some (37, false), none⟩,
    ⟨some 42, .bin .geq (.tmp 38) (.tmp 41), some (37, false), none⟩,
    ⟨some 43, .pick (.tmp 37) (.const (.bool true)) (.tmp 42), none, none⟩,
    ⟨some 44, .mv (.tmp 43), none, none⟩,
    ⟨some 45, .fadr 0 (.tmp 2), some (44, false), none⟩,
    ⟨some 46, .load 1 false (.tmp 45), some (44, false), none⟩,
    ⟨some 47, .mv (.tmp 10), some (44, false), none⟩,
    ⟨some 48, .iadr 4 (.tmp 46) (.tmp 47), some (44, false), none⟩,
    ⟨some 49, .fadr 0 (.tmp 48), some (44, false), none⟩,
    ⟨some 50, .load 1 false (.tmp 49), some (44, false), none⟩,
    ⟨some 51, .bin .neq (.tmp 50) (.const (.int .u8 14)), some (44, false), none⟩,
    ⟨some 52, .pick (.tmp 44) (.const (.bool true)) (.tmp 51), none, none⟩,
    ⟨some 53, .mv (.tmp 52), none, none⟩,
    ⟨some 54, .mv (.tmp 6), some (53, false), none⟩,
    ⟨some 55, .mv (.tmp 10), some (53, false), none⟩,
    ⟨some 56, .lkup (.int .i64) (.bool false) false (.tmp 54) (.tmp 55), some (53, false), none⟩,
    ⟨some 57, .pick (.tmp 53) (.const (.bool true)) (.tmp 56), none, none⟩]
def scans_Check_r16 : List RO := [
    ⟨some 4, .mv (.const (.int .i64 1)), none, none⟩]
def scans_Check_r17 : List RO := [
    ⟨some 58, .mv (.tmp 6), none, none⟩,
    ⟨some 59, .mv (.tmp 10), none, none⟩,
    ⟨none, .mup (.int .i64) (.tmp 58) (.tmp 59) (.const (.bool true)), none, none⟩]
def scans_Check_r18 : List RO := [
    ⟨some 60, .bin .add (.tmp 31) (.const (.int .i64 1)), none, none⟩,
    ⟨some 31, .mv (.tmp 60), none, none⟩]
def scans_Check_g0 : IC := .gh (.seq (.reg scans_Check_r13 [.keep [2, 6, 20, 21, 22, 29, 30, 31, 32] [19]]) (.seq (.cond (.tmp 32) .skip (.exit 2)) (.seq (.block 3 (.seq (.reg scans_Check_r14 [.keep [2, 6, 10, 20, 21, 22, 29, 30, 31] [19]]) (.seq (.seq (.reg scans_Check_r15 [.keep [2, 6, 10, 20, 21, 22, 29, 30, 31, 57] [19]]) (.cond (.tmp 57) (.seq (.reg scans_Check_r16 [.keep [4] []]) .ret) .skip)) (.reg scans_Check_r17 [.keep [2, 6, 20, 21, 22, 29, 30, 31] [19]])))) (.reg scans_Check_r18 [.keep [2, 6, 20, 21, 22, 29, 30, 31] [19]])))) [.keep [2, 6, 20, 21, 22, 29, 30, 31] [19]]
def scans_Check_l1 : IC := .loop scans_Check_g0
def scans_Check_r19 : List RO := [
    ⟨some 61, .bin .add (.tmp 22) (.const (.int .i64 1)), none, none⟩,
    ⟨some 22, .mv (.tmp 61), none, none⟩]
def scans_Check_g2 : IC := .gh (.seq (.reg scans_Check_r8 [.keep [2, 6, 20, 21, 22, 23] [19]]) (.seq (.cond (.tmp 23) .skip (.exit 0)) (.seq (.block 1 (.seq (.reg scans_Check_r9 [.keep [2, 6, 8, 20, 21, 22] [19]]) (.seq (.seq (.reg scans_Check_r10 [.keep [2, 6, 8, 20, 21, 22, 28] [19]]) (.cond (.tmp 28) (.seq (.reg scans_Check_r11 [.keep [4] []]) .ret) .skip)) (.seq (.reg scans_Check_r12 [.keep [2, 6, 20, 21, 22, 29, 30, 31] [19]]) (.block 2 scans_Check_l1))))) (.reg scans_Check_r19 [.keep [2, 6, 20, 21, 22] [19]])))) [.keep [2, 6, 20, 21, 22] [19]]
def scans_Check_l3 : IC := .loop scans_Check_g2
def scans_Check_r20 : List RO := [
    ⟨some 62, .mv (.tmp 6), none, none⟩,
    ⟨some 63, .len 2 (.tmp 62), none, none⟩,
    ⟨some 64, .load 4 true (.tmp 2), none, none⟩,
    ⟨some 65, .call 17 [(.tmp 64)], none, none⟩,
    ⟨some 66, .len 0 (.tmp 65), none, none⟩,
    ⟨some 67, .bin .neq (.tmp 63) (.tmp 66), none, none⟩]
def scans_Check_r21 : List RO := [
    ⟨some 4, .mv (.const (.int .i64 8)), none, none⟩]
def scans_Check_r22 : List RO := [
    ⟨some 4, .mv (.const (.int .i64 0)), none, none⟩]
def scans_Check_ic : IC := (.seq (.reg scans_Check_r0 [.keep [1, 2] []]) (.seq (.seq (.reg scans_Check_r1 [.keep [1, 2, 5] []]) (.seq (.reg scans_Check_r2 [.keep [1, 2, 5, 14] []]) (.cond (.tmp 14) (.seq (.reg scans_Check_r3 [.keep [4] []]) .ret) .skip))) (.seq (.seq (.reg scans_Check_r4 [.keep [1, 2, 18] []]) (.cond (.tmp 18) (.seq (.reg scans_Check_r5 [.keep [4] []]) .ret) .skip)) (.seq (.reg scans_Check_r6 [.keep [1, 2, 6] [19]]) (.seq (.seq (.reg scans_Check_r7 [.keep [2, 6, 20, 21, 22] [19]]) (.block 0 scans_Check_l3)) (.seq (.seq (.reg scans_Check_r20 [.keep [67] []]) (.cond (.tmp 67) (.seq (.reg scans_Check_r21 [.keep [4] []]) .ret) .skip)) (.seq (.reg scans_Check_r22 [.keep [4] []]) .ret)))))))
@[simp ↓] theorem scans_Check_g0_run : run P Γ scans_Check_g0 Q s = run P Γ (.gh (.seq (.reg scans_Check_r13 [.keep [2, 6, 20, 21, 22, 29, 30, 31, 32] [19]]) (.seq (.cond (.tmp 32) .skip (.exit 2)) (.seq (.block 3 (.seq (.reg scans_Check_r14 [.keep [2, 6, 10, 20, 21, 22, 29, 30, 31] [19]]) (.seq (.seq (.reg scans_Check_r15 [.keep [2, 6, 10, 20, 21, 22, 29, 30, 31, 57] [19]]) (.cond (.tmp 57) (.seq (.reg scans_Check_r16 [.keep [4] []]) .ret) .skip)) (.reg scans_Check_r17 [.keep [2, 6, 20, 21, 22, 29, 30, 31] [19]])))) (.reg scans_Check_r18 [.keep [2, 6, 20, 21, 22, 29, 30, 31] [19]])))) [.keep [2, 6, 20, 21, 22, 29, 30, 31] [19]]) Q s := Eq.trans rfl rfl
@[simp ↓] theorem scans_Check_g2_run : run P Γ scans_Check_g2 Q s = run P Γ (.gh (.seq (.reg scans_Check_r8 [.keep [2, 6, 20, 21, 22, 23] [19]]) (.seq (.cond (.tmp 23) .skip (.exit 0)) (.seq (.block 1 (.seq (.reg scans_Check_r9 [.keep [2, 6, 8, 20, 21, 22] [19]]) (.seq (.seq (.reg scans_Check_r10 [.keep [2, 6, 8, 20, 21, 22, 28] [19]]) (.cond (.tmp 28) (.seq (.reg scans_Check_r11 [.keep [4] []]) .ret) .skip)) (.seq (.reg scans_Check_r12 [.keep [2, 6, 20, 21, 22, 29, 30, 31] [19]]) (.block 2 scans_Check_l1))))) (.reg scans_Check_r19 [.keep [2, 6, 20, 21, 22] [19]])))) [.keep [2, 6, 20, 21, 22] [19]]) Q s := Eq.trans rfl rfl
@[simp ↓] theorem scans_Check_ic_run : run P Γ scans_Check_ic Q s = run P Γ (.seq (.reg scans_Check_r0 [.keep [1, 2] []]) (.seq (.seq (.reg scans_Check_r1 [.keep [1, 2, 5] []]) (.seq (.reg scans_Check_r2 [.keep [1, 2, 5, 14] []]) (.cond (.tmp 14) (.seq (.reg scans_Check_r3 [.keep [4] []]) .ret) .skip))) (.seq (.seq (.reg scans_Check_r4 [.keep [1, 2, 18] []]) (.cond (.tmp 18) (.seq (.reg scans_Check_r5 [.keep [4] []]) .ret) .skip)) (.seq (.reg scans_Check_r6 [.keep [1, 2, 6] [19]]) (.seq (.seq (.reg scans_Check_r7 [.keep [2, 6, 20, 21, 22] [19]]) (.block 0 scans_Check_l3)) (.seq (.seq (.reg scans_Check_r20 [.keep [67] []]) (.cond (.tmp 67) (.seq (.reg scans_Check_r21 [.keep [4] []]) .ret) .skip)) (.seq (.reg scans_Check_r22 [.keep [4] []]) .ret))))))) Q s := Eq.trans rfl rfl
theorem scans_Check_l1_run (h : ∀ K : St → Prop, K = run P Γ scans_Check_l1 Q → run P Γ scans_Check_g0 (thenX K Q) s) : run P Γ scans_Check_l1 Q s := run_loop h
theorem scans_Check_l3_run (h : ∀ K : St → Prop, K = run P Γ scans_Check_l3 Q → run P Γ scans_Check_g2 (thenX K Q) s) : run P Γ scans_Check_l3 Q s := run_loop h
attribute [simp] scans_Check_r0 scans_Check_r1 scans_Check_r2 scans_Check_r3 scans_Check_r4 scans_Check_r5 scans_Check_r6 scans_Check_r7 scans_Check_r8 scans_Check_r9 scans_Check_r10 scans_Check_r11 scans_Check_r12 scans_Check_r13 scans_Check_r14 scans_Check_r15 scans_Check_r16 scans_Check_r17 scans_Check_r18 scans_Check_r19 scans_Check_r20 scans_Check_r21 scans_Check_r22
def scans_Check_rv : List RV := [.tmp 4]

/- probecard/scans.Length (function 21) -/
def scans_Length_r0 : List RO := [
    ⟨some 3, .box true (.tmp 0), none, none⟩,
    ⟨some 6, .mv (.const (.int .i64 0)), none, none⟩,
    ⟨some 7, .mv (.const (.int .i64 0)), none, none⟩]
def scans_Length_r1 : List RO := [
    ⟨some 14, .load 4 true (.tmp 3), none, none⟩,
    ⟨some 15, .mv (.tmp 1), none, none⟩,
    ⟨some 16, .mv (.tmp 2), none, none⟩,
    ⟨some 17, .call 49 [(.tmp 14), (.tmp 15), (.tmp 16)], none, none⟩,
    ⟨some 13, .mv (.tmp 17), none, none⟩,
    ⟨some 18, .ext (.tmp 13) 0, none, none⟩,
    ⟨some 19, .ext (.tmp 13) 1, none, none⟩,
    ⟨some 8, .mv (.tmp 18), none, none⟩,
    ⟨some 9, .mv (.tmp 19), none, none⟩]
def scans_Length_r2 : List RO := [
    ⟨some 10, .mv (.const (.int .i64 0)), none, none⟩]
def scans_Length_r3 : List RO := [
    ⟨some 20, .mv (.tmp 1), none, none⟩,
    ⟨some 21, .len 0 (.tmp 20), none, none⟩,
    ⟨some 22, .mv (.const (.int .i64 0)), none, none⟩]
def scans_Length_r4 : List RO := [
    ⟨some 23, .bin .lss (.tmp 22) (.tmp 21), none, none⟩]
def scans_Length_r5 : List RO := [
    ⟨some 24, .iadr 1 (.tmp 20) (.tmp 22), none, none⟩,
    ⟨some 25, .load 1 false (.tmp 24), none, none⟩,
    ⟨some 12, .mv (.tmp 25), none, none⟩]
def scans_Length_r6 : List RO := [
    ⟨some 26, .mv (.tmp 10), none, none⟩,
    ⟨some 27, .mv (.tmp 12), none, none⟩,
    ⟨some 28, .mv (.tmp 8), none, none⟩,
    ⟨some 29, .call 50 [(.tmp 27), (.tmp 28)], none, none⟩,
    ⟨some 30, .bin .add (.tmp 26) (.tmp 29), none, none⟩,
    ⟨some 10, .mv (.tmp 30), none, none⟩]
def scans_Length_r7 : List RO := [
    ⟨some 31, .bin .add (.tmp 22) (.const (.int .i64 1)), none, none⟩,
    ⟨some 22, .mv (.tmp 31), none, none⟩]
def scans_Length_g0 : IC := .gh (.seq (.reg scans_Length_r4 [.keep [8, 9, 10, 20, 21, 22, 23] []]) (.seq (.cond (.tmp 23) .skip (.exit 0)) (.seq (.block 1 (.seq (.reg scans_Length_r5 [.keep [8, 9, 10, 12, 20, 21, 22] []]) (.reg scans_Length_r6 [.keep [8, 9, 10, 20, 21, 22] []]))) (.reg scans_Length_r7 [.keep [8, 9, 10, 20, 21, 22] []])))) [.keep [8, 9, 10, 20, 21, 22] []]
def scans_Length_l1 : IC := .loop scans_Length_g0
def scans_Length_r8 : List RO := [
    ⟨some 32, .mv (.tmp 9), none, none⟩,
    ⟨some 33, .bin .neq (.tmp 32) (.const (.int .i64 0)), none, none⟩]
def scans_Length_r9 : List RO := [
    ⟨some 34, .mv (.tmp 9), none, none⟩,
    ⟨some 6, .mv (.const (.int .i64 0)), none, none⟩,
    ⟨some 7, .mv (.tmp 34), none, none⟩]
def scans_Length_r10 : List RO := [
    ⟨some 35, .mv (.tmp 10), none, none⟩,
    ⟨some 6, .mv (.tmp 35), none, none⟩,
    ⟨some 7, .mv (.const (.int .i64 0)), none, none⟩]
def scans_Length_ic : IC := (.seq (.reg scans_Length_r0 [.keep [1, 2, 3] []]) (.seq (.reg scans_Length_r1 [.keep [1, 8, 9] []]) (.seq (.reg scans_Length_r2 [.keep [1, 8, 9, 10] []]) (.seq (.seq (.reg scans_Length_r3 [.keep [8, 9, 10, 20, 21, 22] []]) (.block 0 scans_Length_l1)) (.seq (.seq (.reg scans_Length_r8 [.keep [9, 10, 33] []]) (.cond (.tmp 33) (.seq (.reg scans_Length_r9 [.keep [6, 7] []]) .ret) .skip)) (.seq (.reg scans_Length_r10 [.keep [6, 7] []]) .ret))))))
@[simp ↓] theorem scans_Length_g0_run : run P Γ scans_Length_g0 Q s = run P Γ (.gh (.seq (.reg scans_Length_r4 [.keep [8, 9, 10, 20, 21, 22, 23] []]) (.seq (.cond (.tmp 23) .skip (.exit 0)) (.seq (.block 1 (.seq (.reg scans_Length_r5 [.keep [8, 9, 10, 12, 20, 21, 22] []]) (.reg scans_Length_r6 [.keep [8, 9, 10, 20, 21, 22] []]))) (.reg scans_Length_r7 [.keep [8, 9, 10, 20, 21, 22] []])))) [.keep [8, 9, 10, 20, 21, 22] []]) Q s := Eq.trans rfl rfl
@[simp ↓] theorem scans_Length_ic_run : run P Γ scans_Length_ic Q s = run P Γ (.seq (.reg scans_Length_r0 [.keep [1, 2, 3] []]) (.seq (.reg scans_Length_r1 [.keep [1, 8, 9] []]) (.seq (.reg scans_Length_r2 [.keep [1, 8, 9, 10] []]) (.seq (.seq (.reg scans_Length_r3 [.keep [8, 9, 10, 20, 21, 22] []]) (.block 0 scans_Length_l1)) (.seq (.seq (.reg scans_Length_r8 [.keep [9, 10, 33] []]) (.cond (.tmp 33) (.seq (.reg scans_Length_r9 [.keep [6, 7] []]) .ret) .skip)) (.seq (.reg scans_Length_r10 [.keep [6, 7] []]) .ret)))))) Q s := Eq.trans rfl rfl
theorem scans_Length_l1_run (h : ∀ K : St → Prop, K = run P Γ scans_Length_l1 Q → run P Γ scans_Length_g0 (thenX K Q) s) : run P Γ scans_Length_l1 Q s := run_loop h
attribute [simp] scans_Length_r0 scans_Length_r1 scans_Length_r2 scans_Length_r3 scans_Length_r4 scans_Length_r5 scans_Length_r6 scans_Length_r7 scans_Length_r8 scans_Length_r9 scans_Length_r10
def scans_Length_rv : List RV := [.tmp 6, .tmp 7]

/- probecard/scans.Shorten (function 22) -/
def scans_Shorten_r0 : List RO := [
    ⟨some 3, .box true (.tmp 0), none, none⟩,
    ⟨some 6, .mv (.const (.slice none 0 0)), none, none⟩,
    ⟨some 7, .mv (.const (.int .i64 0)), none, none⟩]
def scans_Shorten_r1 : List RO := [
    ⟨some 14, .load 4 true (.tmp 3), none, none⟩,
    ⟨some 15, .mv (.tmp 1), none, none⟩,
    ⟨some 16, .mv (.tmp 2), none, none⟩,
    ⟨some 17, .call 49 [(.tmp 14), (.tmp 15), (.tmp 16)], none, none⟩,
    ⟨some 13, .mv (.tmp 17), none, none⟩,
    ⟨some 18, .ext (.tmp 13) 0, none, none⟩,
    ⟨some 19, .ext (.tmp 13) 1, none, none⟩,
    ⟨some 8, .mv (.tmp 18), none, none⟩,
    ⟨some 9, .mv (.tmp 19), none, none⟩]
def scans_Shorten_r2 : List RO := [
    ⟨some 20, .mv (.tmp 9), none, none⟩,
    ⟨some 21, .bin .neq (.tmp 20) (.const (.int .i64 0)), none, none⟩]
def scans_Shorten_r3 : List RO := [
    ⟨some 22, .mv (.tmp 9), none, none⟩,
    ⟨some 6, .mv (.const (.slice none 0 0)), none, none⟩,
    ⟨some 7, .mv (.tmp 22), none, none⟩]
def scans_Shorten_r4 : List RO := [
    ⟨some 10, .mv (.const (.slice none 0 0)), none, none⟩]
def scans_Shorten_r5 : List RO := [
    ⟨some 23, .mv (.tmp 1), none, none⟩,
    ⟨some 24, .len 0 (.tmp 23), none, none⟩,
    ⟨some 25, .mv (.const (.int .i64 0)), none, none⟩]
def scans_Shorten_r6 : List RO := [
    ⟨some 26, .bin .lss (.tmp 25) (.tmp 24), none, none⟩]
def scans_Shorten_r7 : List RO := [
    ⟨some 27, .iadr 1 (.tmp 23) (.tmp 25), none, none⟩,
    ⟨some 28, .load 1 false (.tmp 27), none, none⟩,
    ⟨some 12, .mv (.tmp 28), none, none⟩]
def scans_Shorten_r8 : List RO := [
    ⟨some 29, .mv (.tmp 10), none, none⟩,
    ⟨some 30, .mv (.tmp 12), none, none⟩,
    ⟨some 31, .mv (.tmp 8), none, none⟩,
    ⟨some 32, .call 51 [(.tmp 30), (.tmp 31)], none, none⟩,
    ⟨some 33, .bsl true 31 1 [(.tmp 32)], none, none⟩,
    ⟨some 34, .app false 31 1 (.tmp 29) (.tmp 33), none, none⟩,
    ⟨some 10, .mv (.tmp 34), none, none⟩]
def scans_Shorten_r9 : List RO := [
    ⟨some 35, .bin .add (.tmp 25) (.const (.int .i64 1)), none, none⟩,
    ⟨some 25, .mv (.tmp 35), none, none⟩]
def scans_Shorten_g0 : IC := .gh (.seq (.reg scans_Shorten_r6 [.keep [8, 10, 23, 24, 25, 26] [34]]) (.seq (.cond (.tmp 26) .skip (.exit 0)) (.seq (.block 1 (.seq (.reg scans_Shorten_r7 [.keep [8, 10, 12, 23, 24, 25] [34]]) (.reg scans_Shorten_r8 [.keep [8, 10, 23, 24, 25] [34]]))) (.reg scans_Shorten_r9 [.keep [8, 10, 23, 24, 25] [34]])))) [.keep [8, 10, 23, 24, 25] [34]]
def scans_Shorten_l1 : IC := .loop scans_Shorten_g0
def scans_Shorten_r10 : List RO := [
    ⟨some 36, .mv (.tmp 10), none, none⟩,
    ⟨some 37, .call 44 [(.tmp 36)], none, none⟩,
    ⟨some 6, .mv (.tmp 37), none, none⟩,
    ⟨some 7, .mv (.const (.int .i64 0)), none, none⟩]
def scans_Shorten_ic : IC := (.seq (.reg scans_Shorten_r0 [.keep [1, 2, 3] []]) (.seq (.reg scans_Shorten_r1 [.keep [1, 8, 9] []]) (.seq (.seq (.reg scans_Shorten_r2 [.keep [1, 8, 9, 21] []]) (.cond (.tmp 21) (.seq (.reg scans_Shorten_r3 [.keep [6, 7] []]) .ret) .skip)) (.seq (.reg scans_Shorten_r4 [.nl 10 34 31 1, .keep [1, 8, 10] [34]]) (.seq (.seq (.reg scans_Shorten_r5 [.keep [8, 10, 23, 24, 25] [34]]) (.gh (.block 0 scans_Shorten_l1) [.frz 34])) (.seq (.reg scans_Shorten_r10 [.keep [6, 7] []]) .ret))))))
@[simp ↓] theorem scans_Shorten_g0_run : run P Γ scans_Shorten_g0 Q s = run P Γ (.gh (.seq (.reg scans_Shorten_r6 [.keep [8, 10, 23, 24, 25, 26] [34]]) (.seq (.cond (.tmp 26) .skip (.exit 0)) (.seq (.block 1 (.seq (.reg scans_Shorten_r7 [.keep [8, 10, 12, 23, 24, 25] [34]]) (.reg scans_Shorten_r8 [.keep [8, 10, 23, 24, 25] [34]]))) (.reg scans_Shorten_r9 [.keep [8, 10, 23, 24, 25] [34]])))) [.keep [8, 10, 23, 24, 25] [34]]) Q s := Eq.trans rfl rfl
@[simp ↓] theorem scans_Shorten_ic_run : run P Γ scans_Shorten_ic Q s = run P Γ (.seq (.reg scans_Shorten_r0 [.keep [1, 2, 3] []]) (.seq (.reg scans_Shorten_r1 [.keep [1, 8, 9] []]) (.seq (.seq (.reg scans_Shorten_r2 [.keep [1, 8, 9, 21] []]) (.cond (.tmp 21) (.seq (.reg scans_Shorten_r3 [.keep [6, 7] []]) .ret) .skip)) (.seq (.reg scans_Shorten_r4 [.nl 10 34 31 1, .keep [1, 8, 10] [34]]) (.seq (.seq (.reg scans_Shorten_r5 [.keep [8, 10, 23, 24, 25] [34]]) (.gh (.block 0 scans_Shorten_l1) [.frz 34])) (.seq (.reg scans_Shorten_r10 [.keep [6, 7] []]) .ret)))))) Q s := Eq.trans rfl rfl
theorem scans_Shorten_l1_run (h : ∀ K : St → Prop, K = run P Γ scans_Shorten_l1 Q → run P Γ scans_Shorten_g0 (thenX K Q) s) : run P Γ scans_Shorten_l1 Q s := run_loop h
attribute [simp] scans_Shorten_r0 scans_Shorten_r1 scans_Shorten_r2 scans_Shorten_r3 scans_Shorten_r4 scans_Shorten_r5 scans_Shorten_r6 scans_Shorten_r7 scans_Shorten_r8 scans_Shorten_r9 scans_Shorten_r10
def scans_Shorten_rv : List RV := [.tmp 6, .tmp 7]

/- probecard/scans.placed (function 49) -/
def scans_placed_r0 : List RO := [
    ⟨some 3, .box true (.tmp 0), none, none⟩,
    ⟨some 6, .mv (.const (.map none)), none, none⟩,
    ⟨some 7, .mv (.const (.int .i64 0)), none, none⟩]
def scans_placed_r1 : List RO := [
    ⟨some 13, .load 4 true (.tmp 3), none, none⟩,
    ⟨some 14, .mv (.tmp 1), none, none⟩,
    ⟨some 15, .call 18 [(.tmp 13), (.tmp 14)], none, none⟩,
    ⟨some 8, .mv (.tmp 15), none, none⟩]
def scans_placed_r2 : List RO := [
    ⟨some 16, .mv (.tmp 8), none, none⟩,
    ⟨some 17, .bin .neq (.tmp 16) (.const (.int .i64 0)), none, none⟩]
def scans_placed_r3 : List RO := [
    ⟨some 18, .mv (.tmp 8), none, none⟩,
    ⟨some 6, .mv (.const (.map none)), none, none⟩,
    ⟨some 7, .mv (.tmp 18), none, none⟩]
def scans_placed_r4 : List RO := [
    ⟨some 19, .load 4 true (.tmp 3), none, none⟩,
    ⟨some 20, .call 17 [(.tmp 19)], none, none⟩,
    ⟨some 9, .mv (.tmp 20), none, none⟩]
def scans_placed_r5 : List RO := [
    ⟨some 21, .mv (.tmp 2), none, none⟩,
    ⟨some 22, .len 0 (.tmp 21), none, none⟩,
    ⟨some 23, .mv (.tmp 9), none, none⟩,
    ⟨some 24, .len 0 (.tmp 23), none, none⟩,
    ⟨some 25, .bin .neq (.tmp 22) (.tmp 24), none, none⟩]
def scans_placed_r6 : List RO := [
    ⟨some 6, .mv (.const (.map none)), none, none⟩,
    ⟨some 7, .mv (.const (.int .i64 8)), none, none⟩]
def scans_placed_r7 : List RO := [
    ⟨some 26, .mkmap, none, none⟩,
    ⟨some 10, .mv (.tmp 26), none, none⟩]
def scans_placed_r8 : List RO := [
    ⟨some 27, .mv (.tmp 2), none, none⟩,
    ⟨some 28, .len 0 (.tmp 27), none, none⟩,
    ⟨some 29, .mv (.const (.int .i64 0)), none, none⟩]
def scans_placed_r9 : List RO := [
    ⟨some 30, .bin .lss (.tmp 29) (.tmp 28), none, none⟩]
def scans_placed_r10 : List RO := [
    ⟨some 31, .mv (.tmp 29), none, none⟩,
    ⟨some 32, .iadr 2 (.tmp 27) (.tmp 29), none, none⟩,
    ⟨some 33, .load 2 true (.tmp 32), none, none⟩,
    ⟨some 12, .alloc false [(.int .i64 0), (.int .i64 0)], none, none⟩,
    ⟨some 11, .mv (.tmp 31), none, none⟩,
    ⟨none, .store 2 (.tmp 12) (.tmp 33), none, none⟩]
def scans_placed_r11 : List RO := [
    ⟨some 34, .fadr 0 (.tmp 12), none, none⟩,
    ⟨some 35, .load 1 false (.tmp 34), none, none⟩,
    ⟨some 36, .bin .lss (.tmp 35) (.const (.int .i64 (-1000000))), none, none⟩,
    ⟨some 37, .mv (.tmp 36), none, none⟩,
    ⟨some 38, .fadr 0 (.tmp 12), some (37, false), none⟩,
    ⟨some 39, .load 1 false (.tmp 38), some (37, false), none⟩,
    ⟨some 40, .bin .gtr (.tmp 39) (.const (.int .i64 1000000)), some (37, false), none⟩,
    ⟨some 41, .pick (.tmp 37) (.const (.bool true)) (.tmp 40), none, none⟩,
    ⟨some 42, .mv (.tmp 41), none, none⟩,
    ⟨some 43, .fadr 1 (.tmp 12), some (42, false), none⟩,
    ⟨some 44, .load 1 false (.tmp 43), some (42, false), none⟩,
    ⟨some 45, .bin .lss (.tmp 44) (.const (.int .i64 (-1000000))), some (42, false), none⟩,
    ⟨some 46, .pick (.tmp 42) (.const (.bool true)) (.tmp 45), none, none⟩,
    ⟨some 47, .mv (.tmp 46), none, none⟩,
    ⟨some 48, .fadr 1 (.tmp 12), some (47, false), none⟩,
    ⟨some 49, .load 1 false (.tmp 48), some (47, false), none⟩,
    ⟨some 50, .bin .gtr (.tmp 49) (.const (.int .i64 1000000)), some (47, false), none⟩,
    ⟨some 51, .pick (.tmp 47) (.const (.bool true)) (.tmp 50), none, none⟩]
def scans_placed_r12 : List RO := [
    ⟨some 6, .mv (.const (.map none)), none, none⟩,
    ⟨some 7, .mv (.const (.int .i64 1)), none, none⟩]
def scans_placed_r13 : List RO := [
    ⟨some 52, .mv (.tmp 10), none, none⟩,
    ⟨some 53, .mv (.tmp 9), none, none⟩,
    ⟨some 54, .mv (.tmp 11), none, none⟩,
    ⟨some 55, .iadr 1 (.tmp 53) (.tmp 54), none, none⟩,
    ⟨some 56, .load 1 false (.tmp 55), none, none⟩,
    ⟨some 57, .load 2 true (.tmp 12), none, none⟩,
    ⟨none, .mup (.int .i64) (.tmp 52) (.tmp 56) (.tmp 57), none, none⟩]
def scans_placed_r14 : List RO := [
    ⟨some 58, .bin .add (.tmp 29) (.const (.int .i64 1)), none, none⟩,
    ⟨some 29, .mv (.tmp 58), none, none⟩]
def scans_placed_g0 : IC := .gh (.seq (.reg scans_placed_r9 [.keep [9, 10, 27, 28, 29, 30] [26]]) (.seq (.cond (.tmp 30) .skip (.exit 0)) (.seq (.block 1 (.seq (.reg scans_placed_r10 [.keep [9, 10, 11, 12, 27, 28, 29] [12, 26]]) (.seq (.seq (.reg scans_placed_r11 [.keep [9, 10, 11, 12, 27, 28, 29, 51] [12, 26]]) (.cond (.tmp 51) (.seq (.reg scans_placed_r12 [.keep [6, 7] [26]]) .ret) .skip)) (.reg scans_placed_r13 [.keep [9, 10, 27, 28, 29] [26]])))) (.reg scans_placed_r14 [.keep [9, 10, 27, 28, 29] [26]])))) [.keep [9, 10, 27, 28, 29] [26]]
def scans_placed_l1 : IC := .loop scans_placed_g0
def scans_placed_r15 : List RO := [
    ⟨some 59, .mv (.tmp 10), none, none⟩,
    ⟨some 6, .mv (.tmp 59), none, none⟩,
    ⟨some 7, .mv (.const (.int .i64 0)), none, none⟩]
def scans_placed_ic : IC := (.seq (.reg scans_placed_r0 [.keep [1, 2, 3] []]) (.seq (.seq (.reg scans_placed_r1 [.keep [2, 3, 8] []]) (.seq (.reg scans_placed_r2 [.keep [2, 3, 8, 17] []]) (.cond (.tmp 17) (.seq (.reg scans_placed_r3 [.keep [6, 7] [26]]) .ret) .skip))) (.seq (.reg scans_placed_r4 [.keep [2, 9] []]) (.seq (.seq (.reg scans_placed_r5 [.keep [2, 9, 25] []]) (.cond (.tmp 25) (.seq (.reg scans_placed_r6 [.keep [6, 7] [26]]) .ret) .skip)) (.seq (.reg scans_placed_r7 [.keep [2, 9, 10] [26]]) (.seq (.seq (.reg scans_placed_r8 [.keep [9, 10, 27, 28, 29] [26]]) (.block 0 scans_placed_l1)) (.seq (.reg scans_placed_r15 [.keep [6, 7] [26]]) .ret)))))))
@[simp ↓] theorem scans_placed_g0_run : run P Γ scans_placed_g0 Q s = run P Γ (.gh (.seq (.reg scans_placed_r9 [.keep [9, 10, 27, 28, 29, 30] [26]]) (.seq (.cond (.tmp 30) .skip (.exit 0)) (.seq (.block 1 (.seq (.reg scans_placed_r10 [.keep [9, 10, 11, 12, 27, 28, 29] [12, 26]]) (.seq (.seq (.reg scans_placed_r11 [.keep [9, 10, 11, 12, 27, 28, 29, 51] [12, 26]]) (.cond (.tmp 51) (.seq (.reg scans_placed_r12 [.keep [6, 7] [26]]) .ret) .skip)) (.reg scans_placed_r13 [.keep [9, 10, 27, 28, 29] [26]])))) (.reg scans_placed_r14 [.keep [9, 10, 27, 28, 29] [26]])))) [.keep [9, 10, 27, 28, 29] [26]]) Q s := Eq.trans rfl rfl
@[simp ↓] theorem scans_placed_ic_run : run P Γ scans_placed_ic Q s = run P Γ (.seq (.reg scans_placed_r0 [.keep [1, 2, 3] []]) (.seq (.seq (.reg scans_placed_r1 [.keep [2, 3, 8] []]) (.seq (.reg scans_placed_r2 [.keep [2, 3, 8, 17] []]) (.cond (.tmp 17) (.seq (.reg scans_placed_r3 [.keep [6, 7] [26]]) .ret) .skip))) (.seq (.reg scans_placed_r4 [.keep [2, 9] []]) (.seq (.seq (.reg scans_placed_r5 [.keep [2, 9, 25] []]) (.cond (.tmp 25) (.seq (.reg scans_placed_r6 [.keep [6, 7] [26]]) .ret) .skip)) (.seq (.reg scans_placed_r7 [.keep [2, 9, 10] [26]]) (.seq (.seq (.reg scans_placed_r8 [.keep [9, 10, 27, 28, 29] [26]]) (.block 0 scans_placed_l1)) (.seq (.reg scans_placed_r15 [.keep [6, 7] [26]]) .ret))))))) Q s := Eq.trans rfl rfl
theorem scans_placed_l1_run (h : ∀ K : St → Prop, K = run P Γ scans_placed_l1 Q → run P Γ scans_placed_g0 (thenX K Q) s) : run P Γ scans_placed_l1 Q s := run_loop h
attribute [simp] scans_placed_r0 scans_placed_r1 scans_placed_r2 scans_placed_r3 scans_placed_r4 scans_placed_r5 scans_placed_r6 scans_placed_r7 scans_placed_r8 scans_placed_r9 scans_placed_r10 scans_placed_r11 scans_placed_r12 scans_placed_r13 scans_placed_r14 scans_placed_r15
def scans_placed_rv : List RV := [.tmp 6, .tmp 7]

/- probecard/scans.length (function 50) -/
def scans_length_r0 : List RO := [
    ⟨some 4, .mv (.const (.int .i64 0)), none, none⟩]
def scans_length_r1 : List RO := [
    ⟨some 5, .mv (.const (.int .i64 0)), none, none⟩]
def scans_length_r2 : List RO := [
    ⟨some 6, .mv (.const (.int .i64 1)), none, none⟩]
def scans_length_r3 : List RO := [
    ⟨some 9, .mv (.tmp 6), none, none⟩,
    ⟨some 10, .mv (.tmp 0), none, none⟩,
    ⟨some 11, .len 0 (.tmp 10), none, none⟩,
    ⟨some 12, .bin .lss (.tmp 9) (.tmp 11), none, none⟩]
def scans_length_r5 : List RO := [
    ⟨some 15, .mv (.tmp 1), none, none⟩,
    ⟨some 16, .mv (.tmp 0), none, none⟩,
    ⟨some 17, .mv (.tmp 6), none, none⟩,
    ⟨some 18, .bin .sub (.tmp 17) (.const (.int .i64 1)), none, none⟩,
    ⟨some 19, .iadr 1 (.tmp 16) (.tmp 18), none, none⟩,
    ⟨some 20, .ldT 1 false (.tmp 19), none, none⟩,
    ⟨some 21, .lkT (.int .i64) (.agg #[(.int .i64 0), (.int .i64 0)]) false (.tmp 15) (.tmp 20), none, none⟩,
    ⟨some 22, .mv (.tmp 1), none, none⟩,
    ⟨some 23, .mv (.tmp 0), none, none⟩,
    ⟨some 24, .mv (.tmp 6), none, none⟩,
    ⟨some 25, .iadr 1 (.tmp 23) (.tmp 24), none, none⟩,
    ⟨some 26, .ldT 1 false (.tmp 25), none, none⟩,
    ⟨some 27, .lkT (.int .i64) (.agg #[(.int .i64 0), (.int .i64 0)]) false (.tmp 22) (.tmp 26), none, none⟩,
    ⟨some 7, .alloc false [(.int .i64 0), (.int .i64 0)], none, none⟩,
    ⟨some 8, .alloc false [(.int .i64 0), (.int .i64 0)], none, none⟩,
    ⟨none, .stR 7 2 (.tmp 7) (.tmp 21), none, none⟩,
    ⟨none, .stR 8 2 (.tmp 8) (.tmp 27), none, none⟩]
def scans_length_r6 : List RO := [
    ⟨some 28, .mv (.tmp 5), none, none⟩,
    ⟨some 29, .fadr 0 (.tmp 7), none, none⟩,
    ⟨some 30, .load 1 false (.tmp 29), none, none⟩,
    ⟨some 31, .fadr 0 (.tmp 8), none, none⟩,
    ⟨some 32, .load 1 false (.tmp 31), none, none⟩,
    ⟨some 33, .bin .sub (.tmp 30) (.tmp 32), none, none⟩,
    ⟨some 34, .call 79 [(.tmp 33)], none, none⟩,
    ⟨some 35, .fadr 1 (.tmp 7), none, none⟩,
    ⟨some 36, .load 1 false (.tmp 35), none, none⟩,
    ⟨some 37, .fadr 1 (.tmp 8), none, none⟩,
    ⟨some 38, .load 1 false (.tmp 37), none, none⟩,
    ⟨some 39, .bin .sub (.tmp 36) (.tmp 38), none, none⟩,
    ⟨some 40, .call 79 [(.tmp 39)], none, none⟩,
    ⟨some 41, .bin .add (.tmp 34) (.tmp 40), none, none⟩,
    ⟨some 42, .bin .add (.tmp 28) (.tmp 41), none, none⟩,
    ⟨some 5, .mv (.tmp 42), none, none⟩]
def scans_length_r4 : List RO := [
    ⟨some 13, .mv (.tmp 6), none, none⟩,
    ⟨some 14, .bin .add (.tmp 13) (.const (.int .i64 1)), none, none⟩,
    ⟨some 6, .mv (.tmp 14), none, none⟩]
def scans_length_g0 : IC := .gh (.seq (.seq (.reg scans_length_r3 [.keep [0, 1, 5, 6, 12] []]) (.cond (.tmp 12) .skip (.exit 0))) (.seq (.block 1 (.seq (.reg scans_length_r5 [.keep [0, 1, 5, 6, 7, 8] [7, 8]]) (.reg scans_length_r6 [.keep [0, 1, 5, 6] []]))) (.reg scans_length_r4 [.keep [0, 1, 5, 6] []]))) [.keep [0, 1, 5, 6] []]
def scans_length_l1 : IC := .loop scans_length_g0
def scans_length_r7 : List RO := [
    ⟨some 43, .mv (.tmp 5), none, none⟩,
    ⟨some 4, .mv (.tmp 43), none, none⟩]
def scans_length_ic : IC := (.seq (.reg scans_length_r0 [.keep [0, 1] []]) (.seq (.reg scans_length_r1 [.keep [0, 1, 5] []]) (.seq (.seq (.reg scans_length_r2 [.keep [0, 1, 5, 6] []]) (.block 0 scans_length_l1)) (.seq (.reg scans_length_r7 [.keep [4] []]) .ret))))
@[simp ↓] theorem scans_length_g0_run : run P Γ scans_length_g0 Q s = run P Γ (.gh (.seq (.seq (.reg scans_length_r3 [.keep [0, 1, 5, 6, 12] []]) (.cond (.tmp 12) .skip (.exit 0))) (.seq (.block 1 (.seq (.reg scans_length_r5 [.keep [0, 1, 5, 6, 7, 8] [7, 8]]) (.reg scans_length_r6 [.keep [0, 1, 5, 6] []]))) (.reg scans_length_r4 [.keep [0, 1, 5, 6] []]))) [.keep [0, 1, 5, 6] []]) Q s := Eq.trans rfl rfl
@[simp ↓] theorem scans_length_ic_run : run P Γ scans_length_ic Q s = run P Γ (.seq (.reg scans_length_r0 [.keep [0, 1] []]) (.seq (.reg scans_length_r1 [.keep [0, 1, 5] []]) (.seq (.seq (.reg scans_length_r2 [.keep [0, 1, 5, 6] []]) (.block 0 scans_length_l1)) (.seq (.reg scans_length_r7 [.keep [4] []]) .ret)))) Q s := Eq.trans rfl rfl
theorem scans_length_l1_run (h : ∀ K : St → Prop, K = run P Γ scans_length_l1 Q → run P Γ scans_length_g0 (thenX K Q) s) : run P Γ scans_length_l1 Q s := run_loop h
attribute [simp] scans_length_r0 scans_length_r1 scans_length_r2 scans_length_r3 scans_length_r5 scans_length_r6 scans_length_r4 scans_length_r7
def scans_length_rv : List RV := [.tmp 4]

/- probecard/scans.shorter (function 51) -/
def scans_shorter_r0 : List RO := [
    ⟨some 4, .mv (.const (.slice none 0 0)), none, none⟩]
def scans_shorter_r1 : List RO := [
    ⟨some 9, .mv (.tmp 0), none, none⟩,
    ⟨some 10, .hcall 43 [(.tmp 9)] [10007] 10000, none, none⟩,
    ⟨some 11, .hcall 42 [(.tmp 10)] [10007] 11000, none, none⟩,
    ⟨some 0, .mv (.tmp 11), none, none⟩]
def scans_shorter_r2 : List RO := [
    ⟨some 12, .mv (.tmp 0), none, none⟩,
    ⟨some 13, .mv (.tmp 1), none, none⟩,
    ⟨some 14, .call 50 [(.tmp 12), (.tmp 13)], none, none⟩,
    ⟨some 5, .mv (.tmp 14), none, none⟩]
def scans_shorter_r3 : List RO := [
    ⟨some 15, .mv (.tmp 0), none, none⟩,
    ⟨some 16, .len 0 (.tmp 15), none, none⟩,
    ⟨some 17, .mv (.const (.int .i64 0)), none, none⟩]
def scans_shorter_r4 : List RO := [
    ⟨some 18, .bin .lss (.tmp 17) (.tmp 16), none, none⟩]
def scans_shorter_r5 : List RO := [
    ⟨some 19, .mv (.tmp 17), none, none⟩,
    ⟨some 6, .mv (.tmp 19), none, none⟩]
def scans_shorter_r6 : List RO := [
    ⟨some 20, .mv (.tmp 6), none, none⟩,
    ⟨some 21, .bin .add (.tmp 20) (.const (.int .i64 1)), none, none⟩,
    ⟨some 7, .mv (.tmp 21), none, none⟩]
def scans_shorter_r7 : List RO := [
    ⟨some 22, .mv (.tmp 7), none, none⟩,
    ⟨some 23, .mv (.tmp 0), none, none⟩,
    ⟨some 24, .len 0 (.tmp 23), none, none⟩,
    ⟨some 25, .bin .lss (.tmp 22) (.tmp 24), none, none⟩]
def scans_shorter_r9 : List RO := [
    ⟨some 28, .mv (.tmp 0), none, none⟩,
    ⟨some 29, .mv (.tmp 6), none, none⟩,
    ⟨some 30, .mv (.tmp 7), none, none⟩,
    ⟨some 31, .bin .add (.tmp 30) (.const (.int .i64 1)), none, none⟩,
    ⟨some 32, .slice 1 (.tmp 28) (some (.tmp 29)) (some (.tmp 31)) none, none, none⟩,
    ⟨some 33, .hcall 80 [(.tmp 32)] [10007] 33000, none, none⟩]
def scans_shorter_r10 : List RO := [
    ⟨some 34, .mv (.tmp 0), none, none⟩,
    ⟨some 35, .mv (.tmp 1), none, none⟩,
    ⟨some 36, .call 50 [(.tmp 34), (.tmp 35)], none, none⟩,
    ⟨some 8, .mv (.tmp 36), none, none⟩]
def scans_shorter_r11 : List RO := [
    ⟨some 37, .mv (.tmp 8), none, none⟩,
    ⟨some 38, .mv (.tmp 5), none, none⟩,
    ⟨some 39, .bin .lss (.tmp 37) (.tmp 38), none, none⟩]
def scans_shorter_r12 : List RO := [
    ⟨some 40, .mv (.tmp 8), none, none⟩,
    ⟨some 5, .mv (.tmp 40), none, none⟩]
def scans_shorter_r13 : List RO := [
    ⟨some 41, .mv (.tmp 0), none, none⟩,
    ⟨some 42, .mv (.tmp 6), none, none⟩,
    ⟨some 43, .mv (.tmp 7), none, none⟩,
    ⟨some 44, .bin .add (.tmp 43) (.const (.int .i64 1)), none, none⟩,
    ⟨some 45, .slice 1 (.tmp 41) (some (.tmp 42)) (some (.tmp 44)) none, none, none⟩,
    ⟨some 46, .hcall 80 [(.tmp 45)] [10007] 46000, none, none⟩]
def scans_shorter_r8 : List RO := [
    ⟨some 26, .mv (.tmp 7), none, none⟩,
    ⟨some 27, .bin .add (.tmp 26) (.const (.int .i64 1)), none, none⟩,
    ⟨some 7, .mv (.tmp 27), none, none⟩]
def scans_shorter_g0 : IC := .gh (.seq (.seq (.reg scans_shorter_r7 [.keep [0, 1, 5, 6, 7, 16, 17, 25] [10007]]) (.cond (.tmp 25) .skip (.exit 4))) (.seq (.block 5 (.seq (.reg scans_shorter_r9 [.keep [0, 1, 5, 6, 7, 16, 17] [10007]]) (.seq (.seq (.reg scans_shorter_r10 [.keep [0, 1, 5, 6, 7, 8, 16, 17] [10007]]) (.seq (.reg scans_shorter_r11 [.keep [0, 1, 5, 6, 7, 8, 16, 17, 39] [10007]]) (.cond (.tmp 39) (.seq (.reg scans_shorter_r12 [.keep [0, 1, 5] [10007]]) (.exit 1)) .skip))) (.reg scans_shorter_r13 [.keep [0, 1, 5, 6, 7, 16, 17] [10007]])))) (.reg scans_shorter_r8 [.keep [0, 1, 5, 6, 7, 16, 17] [10007]]))) [.keep [0, 1, 5, 6, 7, 16, 17] [10007]]
def scans_shorter_l1 : IC := .loop scans_shorter_g0
def scans_shorter_r14 : List RO := [
    ⟨some 47, .bin .add (.tmp 17) (.const (.int .i64 1)), none, none⟩,
    ⟨some 17, .mv (.tmp 47), none, none⟩]
def scans_shorter_g2 : IC := .gh (.seq (.reg scans_shorter_r4 [.keep [0, 1, 5, 16, 17, 18] [10007]]) (.seq (.cond (.tmp 18) .skip (.exit 2)) (.seq (.block 3 (.seq (.reg scans_shorter_r5 [.keep [0, 1, 5, 6, 16, 17] [10007]]) (.seq (.reg scans_shorter_r6 [.keep [0, 1, 5, 6, 7, 16, 17] [10007]]) (.block 4 scans_shorter_l1)))) (.reg scans_shorter_r14 [.keep [0, 1, 5, 16, 17] [10007]])))) [.keep [0, 1, 5, 16, 17] [10007]]
def scans_shorter_l3 : IC := .loop scans_shorter_g2
def scans_shorter_r15 : List RO := [
    ⟨some 48, .mv (.tmp 0), none, none⟩,
    ⟨some 4, .mv (.tmp 48), none, none⟩]
def scans_shorter_g4 : IC := .gh (.block 1 (.seq (.seq (.reg scans_shorter_r3 [.keep [0, 1, 5, 16, 17] [10007]]) (.block 2 scans_shorter_l3)) (.seq (.reg scans_shorter_r15 [.keep [4] [10007]]) .ret))) [.keep [0, 1, 5] [10007]]
def scans_shorter_l5 : IC := .loop scans_shorter_g4
def scans_shorter_ic : IC := (.seq (.reg scans_shorter_r0 [.keep [0, 1] [10007]]) (.scope (.seq (.reg scans_shorter_r1 [.keep [0, 1] [10007]]) (.seq (.reg scans_shorter_r2 [.keep [0, 1, 5] [10007]]) (.seq .skip (.block 0 scans_shorter_l5))))))
@[simp ↓] theorem scans_shorter_g0_run : run P Γ scans_shorter_g0 Q s = run P Γ (.gh (.seq (.seq (.reg scans_shorter_r7 [.keep [0, 1, 5, 6, 7, 16, 17, 25] [10007]]) (.cond (.tmp 25) .skip (.exit 4))) (.seq (.block 5 (.seq (.reg scans_shorter_r9 [.keep [0, 1, 5, 6, 7, 16, 17] [10007]]) (.seq (.seq (.reg scans_shorter_r10 [.keep [0, 1, 5, 6, 7, 8, 16, 17] [10007]]) (.seq (.reg scans_shorter_r11 [.keep [0, 1, 5, 6, 7, 8, 16, 17, 39] [10007]]) (.cond (.tmp 39) (.seq (.reg scans_shorter_r12 [.keep [0, 1, 5] [10007]]) (.exit 1)) .skip))) (.reg scans_shorter_r13 [.keep [0, 1, 5, 6, 7, 16, 17] [10007]])))) (.reg scans_shorter_r8 [.keep [0, 1, 5, 6, 7, 16, 17] [10007]]))) [.keep [0, 1, 5, 6, 7, 16, 17] [10007]]) Q s := Eq.trans rfl rfl
@[simp ↓] theorem scans_shorter_g2_run : run P Γ scans_shorter_g2 Q s = run P Γ (.gh (.seq (.reg scans_shorter_r4 [.keep [0, 1, 5, 16, 17, 18] [10007]]) (.seq (.cond (.tmp 18) .skip (.exit 2)) (.seq (.block 3 (.seq (.reg scans_shorter_r5 [.keep [0, 1, 5, 6, 16, 17] [10007]]) (.seq (.reg scans_shorter_r6 [.keep [0, 1, 5, 6, 7, 16, 17] [10007]]) (.block 4 scans_shorter_l1)))) (.reg scans_shorter_r14 [.keep [0, 1, 5, 16, 17] [10007]])))) [.keep [0, 1, 5, 16, 17] [10007]]) Q s := Eq.trans rfl rfl
@[simp ↓] theorem scans_shorter_g4_run : run P Γ scans_shorter_g4 Q s = run P Γ (.gh (.block 1 (.seq (.seq (.reg scans_shorter_r3 [.keep [0, 1, 5, 16, 17] [10007]]) (.block 2 scans_shorter_l3)) (.seq (.reg scans_shorter_r15 [.keep [4] [10007]]) .ret))) [.keep [0, 1, 5] [10007]]) Q s := Eq.trans rfl rfl
@[simp ↓] theorem scans_shorter_ic_run : run P Γ scans_shorter_ic Q s = run P Γ (.seq (.reg scans_shorter_r0 [.keep [0, 1] [10007]]) (.scope (.seq (.reg scans_shorter_r1 [.keep [0, 1] [10007]]) (.seq (.reg scans_shorter_r2 [.keep [0, 1, 5] [10007]]) (.seq .skip (.block 0 scans_shorter_l5)))))) Q s := Eq.trans rfl rfl
theorem scans_shorter_l1_run (h : ∀ K : St → Prop, K = run P Γ scans_shorter_l1 Q → run P Γ scans_shorter_g0 (thenX K Q) s) : run P Γ scans_shorter_l1 Q s := run_loop h
theorem scans_shorter_l3_run (h : ∀ K : St → Prop, K = run P Γ scans_shorter_l3 Q → run P Γ scans_shorter_g2 (thenX K Q) s) : run P Γ scans_shorter_l3 Q s := run_loop h
theorem scans_shorter_l5_run (h : ∀ K : St → Prop, K = run P Γ scans_shorter_l5 Q → run P Γ scans_shorter_g4 (thenX K Q) s) : run P Γ scans_shorter_l5 Q s := run_loop h
attribute [simp] scans_shorter_r0 scans_shorter_r1 scans_shorter_r2 scans_shorter_r3 scans_shorter_r4 scans_shorter_r5 scans_shorter_r6 scans_shorter_r7 scans_shorter_r9 scans_shorter_r10 scans_shorter_r11 scans_shorter_r12 scans_shorter_r13 scans_shorter_r8 scans_shorter_r14 scans_shorter_r15
def scans_shorter_rv : List RV := [.tmp 4]

/- probecard/scans.abs (function 79) -/
def scans_abs_r0 : List RO := [
    ⟨some 2, .mv (.const (.int .i64 0)), none, none⟩]
def scans_abs_r1 : List RO := [
    ⟨some 3, .mv (.tmp 0), none, none⟩,
    ⟨some 4, .mv (.tmp 0), none, none⟩,
    ⟨some 5, .un .neg (.tmp 4), none, none⟩,
    ⟨some 6, .mmx true [(.tmp 3), (.tmp 5)], none, none⟩,
    ⟨some 2, .mv (.tmp 6), none, none⟩]
def scans_abs_ic : IC := (.seq (.reg scans_abs_r0 [.keep [0] []]) (.seq (.reg scans_abs_r1 [.keep [2] []]) .ret))
@[simp ↓] theorem scans_abs_ic_run : run P Γ scans_abs_ic Q s = run P Γ (.seq (.reg scans_abs_r0 [.keep [0] []]) (.seq (.reg scans_abs_r1 [.keep [2] []]) .ret)) Q s := Eq.trans rfl rfl
attribute [simp] scans_abs_r0 scans_abs_r1
def scans_abs_rv : List RV := [.tmp 2]

/- slices.Reverse[[]int,int] (function 80) -/
def slices_Reverse_int_r0 : List RO := [
    ⟨some 4, .mv (.tmp 0), none, none⟩,
    ⟨some 5, .len 0 (.tmp 4), none, none⟩,
    ⟨some 6, .bin .sub (.tmp 5) (.const (.int .i64 1)), none, none⟩,
    ⟨some 2, .mv (.const (.int .i64 0)), none, none⟩,
    ⟨some 3, .mv (.tmp 6), none, none⟩]
def slices_Reverse_int_r1 : List RO := [
    ⟨some 7, .mv (.tmp 2), none, none⟩,
    ⟨some 8, .mv (.tmp 3), none, none⟩,
    ⟨some 9, .bin .lss (.tmp 7) (.tmp 8), none, none⟩]
def slices_Reverse_int_r3 : List RO := [
    ⟨some 14, .mv (.tmp 0), none, none⟩,
    ⟨some 15, .mv (.tmp 2), none, none⟩,
    ⟨some 16, .mv (.tmp 0), none, none⟩,
    ⟨some 17, .mv (.tmp 3), none, none⟩,
    ⟨some 18, .mv (.tmp 0), none, none⟩,
    ⟨some 19, .mv (.tmp 3), none, none⟩,
    ⟨some 20, .iadr 1 (.tmp 18) (.tmp 19), none, none⟩,
    ⟨some 21, .ldR 1000000 1 false (.tmp 20), none, none⟩,
    ⟨some 22, .mv (.tmp 0), none, none⟩,
    ⟨some 23, .mv (.tmp 2), none, none⟩,
    ⟨some 24, .iadr 1 (.tmp 22) (.tmp 23), none, none⟩,
    ⟨some 25, .ldR 1000000 1 false (.tmp 24), none, none⟩,
    ⟨some 26, .iadr 1 (.tmp 14) (.tmp 15), none, none⟩,
    ⟨none, .stR 1000000 1 (.tmp 26) (.tmp 21), none, none⟩,
    ⟨some 27, .iadr 1 (.tmp 16) (.tmp 17), none, none⟩,
    ⟨none, .stR 1000000 1 (.tmp 27) (.tmp 25), none, none⟩]
def slices_Reverse_int_r2 : List RO := [
    ⟨some 10, .mv (.tmp 2), none, none⟩,
    ⟨some 11, .bin .add (.tmp 10) (.const (.int .i64 1)), none, none⟩,
    ⟨some 12, .mv (.tmp 3), none, none⟩,
    ⟨some 13, .bin .sub (.tmp 12) (.const (.int .i64 1)), none, none⟩,
    ⟨some 2, .mv (.tmp 11), none, none⟩,
    ⟨some 3, .mv (.tmp 13), none, none⟩]
def slices_Reverse_int_g0 : IC := .gh (.seq (.seq (.reg slices_Reverse_int_r1 [.keep [0, 2, 3, 9] [1000000]]) (.cond (.tmp 9) .skip (.exit 0))) (.seq (.block 1 (.reg slices_Reverse_int_r3 [.keep [0, 2, 3] [1000000]])) (.reg slices_Reverse_int_r2 [.keep [0, 2, 3] [1000000]]))) [.keep [0, 2, 3] [1000000]]
def slices_Reverse_int_l1 : IC := .loop slices_Reverse_int_g0
def slices_Reverse_int_ic : IC := (.seq (.reg slices_Reverse_int_r0 [.keep [0, 2, 3] [1000000]]) (.block 0 slices_Reverse_int_l1))
@[simp ↓] theorem slices_Reverse_int_g0_run : run P Γ slices_Reverse_int_g0 Q s = run P Γ (.gh (.seq (.seq (.reg slices_Reverse_int_r1 [.keep [0, 2, 3, 9] [1000000]]) (.cond (.tmp 9) .skip (.exit 0))) (.seq (.block 1 (.reg slices_Reverse_int_r3 [.keep [0, 2, 3] [1000000]])) (.reg slices_Reverse_int_r2 [.keep [0, 2, 3] [1000000]]))) [.keep [0, 2, 3] [1000000]]) Q s := Eq.trans rfl rfl
@[simp ↓] theorem slices_Reverse_int_ic_run : run P Γ slices_Reverse_int_ic Q s = run P Γ (.seq (.reg slices_Reverse_int_r0 [.keep [0, 2, 3] [1000000]]) (.block 0 slices_Reverse_int_l1)) Q s := Eq.trans rfl rfl
theorem slices_Reverse_int_l1_run (h : ∀ K : St → Prop, K = run P Γ slices_Reverse_int_l1 Q → run P Γ slices_Reverse_int_g0 (thenX K Q) s) : run P Γ slices_Reverse_int_l1 Q s := run_loop h
attribute [simp] slices_Reverse_int_r0 slices_Reverse_int_r1 slices_Reverse_int_r3 slices_Reverse_int_r2
def slices_Reverse_int_rv : List RV := []

/- probecard/probecardlaw34.lives (function 16) -/
def law34_lives_r0 : List RO := [
    ⟨some 0, .mv (.const (.bool false)), none, none⟩]
def law34_lives_r1 : List RO := [
    ⟨some 9, .call 47 [(.const (.int .i64 5))], none, none⟩,
    ⟨some 10, .call 13 [(.tmp 9), (.const (.int .i64 2))], none, none⟩,
    ⟨some 8, .mv (.tmp 10), none, none⟩,
    ⟨some 11, .ext (.tmp 8) 0, none, none⟩,
    ⟨some 12, .ext (.tmp 8) 1, none, none⟩,
    ⟨some 1, .mv (.tmp 11), none, none⟩,
    ⟨some 2, .mv (.tmp 12), none, none⟩]
def law34_lives_r2 : List RO := [
    ⟨some 13, .build [(1, (.const (.int .i64 0))), (1, (.const (.int .i64 0)))], none, none⟩,
    ⟨some 14, .build [(1, (.const (.int .i64 5))), (1, (.const (.int .i64 0)))], none, none⟩,
    ⟨some 15, .build [(1, (.const (.int .i64 1))), (1, (.const (.int .i64 0)))], none, none⟩,
    ⟨some 16, .bsl true 93 2 [(.tmp 13), (.tmp 14), (.tmp 15)], none, none⟩,
    ⟨some 3, .mv (.tmp 16), none, none⟩]
def law34_lives_r3 : List RO := [
    ⟨some 18, .call 47 [(.const (.int .i64 3))], none, none⟩,
    ⟨some 19, .bsl true 3 1 [(.const (.int .i64 1)), (.const (.int .i64 2)), (.const (.int .i64 3))], none, none⟩,
    ⟨some 20, .bsl true 31 1 [(.tmp 19)], none, none⟩,
    ⟨some 21, .mv (.tmp 3), none, none⟩,
    ⟨some 22, .call 21 [(.tmp 18), (.tmp 20), (.tmp 21)], none, none⟩,
    ⟨some 17, .mv (.tmp 22), none, none⟩,
    ⟨some 23, .ext (.tmp 17) 0, none, none⟩,
    ⟨some 24, .ext (.tmp 17) 1, none, none⟩,
    ⟨some 4, .mv (.tmp 23), none, none⟩,
    ⟨some 5, .mv (.tmp 24), none, none⟩]
def law34_lives_r4 : List RO := [
    ⟨some 26, .call 47 [(.const (.int .i64 3))], none, none⟩,
    ⟨some 27, .bsl true 3 1 [(.const (.int .i64 1)), (.const (.int .i64 2)), (.const (.int .i64 3))], none, none⟩,
    ⟨some 28, .bsl true 31 1 [(.tmp 27)], none, none⟩,
    ⟨some 29, .mv (.tmp 3), none, none⟩,
    ⟨some 30, .call 22 [(.tmp 26), (.tmp 28), (.tmp 29)], none, none⟩,
    ⟨some 25, .mv (.tmp 30), none, none⟩,
    ⟨some 31, .ext (.tmp 25) 0, none, none⟩,
    ⟨some 32, .ext (.tmp 25) 1, none, none⟩,
    ⟨some 6, .mv (.tmp 31), none, none⟩,
    ⟨some 7, .mv (.tmp 32), none, none⟩]
def law34_lives_r5 : List RO := [
    ⟨some 33, .mv (.tmp 2), none, none⟩,
    ⟨some 34, .bin .neq (.tmp 33) (.const (.int .i64 0)), none, none⟩,
    ⟨some 35, .mv (.tmp 34), none, none⟩,
    ⟨some 36, .mv (.tmp 5), some (35, false), none⟩,
    ⟨some 37, .bin .neq (.tmp 36) (.const (.int .i64 0)), some (35, false), none⟩,
    ⟨some 38, .pick (.tmp 35) (.const (.bool true)) (.tmp 37), none, none⟩,
    ⟨some 39, .mv (.tmp 38), none, none⟩,
    ⟨some 40, .mv (.tmp 7), some (39, false), none⟩,
    ⟨some 41, .bin .neq (.tmp 40) (.const (.int .i64 0)), some (39, false), none⟩,
    ⟨some 42, .pick (.tmp 39) (.const (.bool true)) (.tmp 41), none, none⟩,
    ⟨some 43, .mv (.tmp 42), none, none⟩,
    ⟨some 44, .mv (.tmp 1), some (43, false), none⟩,
    ⟨some 45, .len 0 (.tmp 44), some (43, false), none⟩,
    ⟨some 46, .bin .neq (.tmp 45) (.const (.int .i64 2)), some (43, false), none⟩,
    ⟨some 47, .pick (.tmp 43) (.const (.bool true)) (.tmp 46), none, none⟩,
    ⟨some 48, .mv (.tmp 47), none, none⟩,
    ⟨some 49, .mv (.tmp 1), some (48, false), none⟩,
    ⟨some 50, .iadr 1 (.tmp 49) (.const (.int .i64 0)), some (48, false), none⟩,
    ⟨some 51, .load 1 false (.tmp 50), some (48, false), none⟩,
    ⟨some 52, .len 0 (.tmp 51), some (48, false), none⟩,
    ⟨some 53, .bin .neq (.tmp 52) (.const (.int .i64 3)), some (48, false), none⟩,
    ⟨some 54, .pick (.tmp 48) (.const (.bool true)) (.tmp 53), none, none⟩,
    ⟨some 55, .mv (.tmp 54), none, none⟩,
    ⟨some 56, .mv (.tmp 1), some (55, false), none⟩,
    ⟨some 57, .iadr 1 (.tmp 56) (.const (.int .i64 1)), some (55, false), none⟩,
    ⟨some 58, .load 1 false (.tmp 57), some (55, false), none⟩,
    ⟨some 59, .len 0 (.tmp 58), some (55, false), none⟩,
    ⟨some 60, .bin .neq (.tmp 59) (.const (.int .i64 2)), some (55, false), none⟩,
    ⟨some 61, .pick (.tmp 55) (.const (.bool true)) (.tmp 60), none, none⟩,
    ⟨some 62, .mv (.tmp 61), none, none⟩,
    ⟨some 63, .mv (.tmp 6), some (62, false), none⟩,
    ⟨some 64, .len 0 (.tmp 63), some (62, false), none⟩,
    ⟨some 65, .bin .neq (.tmp 64) (.const (.int .i64 1)), some (62, false), none⟩,
    ⟨some 66, .pick (.tmp 62) (.const (.bool true)) (.tmp 65), none, none⟩,
    ⟨some 67, .mv (.tmp 66), none, none⟩,
    ⟨some 68, .mv (.tmp 6), some (67, false), none⟩,
    ⟨some 69, .iadr 1 (.tmp 68) (.const (.int .i64 0)), some (67, false), none⟩,
    ⟨some 70, .load 1 false (.tmp 69), some (67, false), none⟩,
    ⟨some 71, .len 0 (.tmp 70), some (67, false), none⟩,
    ⟨some 72, .bin .neq (.tmp 71) (.const (.int .i64 3)), some (67, false), none⟩,
    ⟨some 73, .pick (.tmp 67) (.const (.bool true)) (.tmp 72), none, none⟩]
def law34_lives_r6 : List RO := [
    ⟨some 0, .mv (.const (.bool false)), none, none⟩]
def law34_lives_r7 : List RO := [
    ⟨some 74, .mv (.tmp 1), none, none⟩,
    ⟨some 75, .iadr 1 (.tmp 74) (.const (.int .i64 0)), none, none⟩,
    ⟨some 76, .load 1 false (.tmp 75), none, none⟩,
    ⟨some 77, .iadr 1 (.tmp 76) (.const (.int .i64 0)), none, none⟩,
    ⟨some 78, .load 1 false (.tmp 77), none, none⟩,
    ⟨some 79, .bin .eql (.tmp 78) (.const (.int .i64 1)), none, none⟩,
    ⟨some 80, .mv (.tmp 79), none, none⟩,
    ⟨some 81, .mv (.tmp 1), some (80, true), none⟩,
    ⟨some 82, .iadr 1 (.tmp 81) (.const (.int .i64 1)), some (80, true), none⟩,
    ⟨some 83, .load 1 false (.tmp 82), some (80, true), none⟩,
    ⟨some 84, .iadr 1 (.tmp 83) (.const (.int .i64 1)), some (80, true), none⟩,
    ⟨some 85, .load 1 false (.tmp 84), some (80, true), none⟩,
    ⟨some 86, .bin .eql (.tmp 85) (.const (.int .i64 5)), some (80, true), none⟩,
    ⟨some 87, .pick (.tmp 80) (.tmp 86) (.const (.bool false)), none, none⟩,
    ⟨some 88, .mv (.tmp 87), none, none⟩,
    ⟨some 89, .mv (.tmp 4), some (88, true), none⟩,
    ⟨some 90, .bin .eql (.tmp 89) (.const (.int .i64 9)), some (88, true), none⟩,
    ⟨some 91, .pick (.tmp 88) (.tmp 90) (.const (.bool false)), none, none⟩,
    ⟨some 92, .mv (.tmp 91), none, none⟩,
    ⟨some 93, .mv (.tmp 6), some (92, true), none⟩,
    ⟨some 94, .iadr 1 (.tmp 93) (.const (.int .i64 0)), some (92, true), none⟩,
    ⟨some 95, .load 1 false (.tmp 94), some (92, true), none⟩,
    ⟨some 96, .iadr 1 (.tmp 95) (.const (.int .i64 0)), some (92, true), none⟩,
    ⟨some 97, .load 1 false (.tmp 96), some (92, true), none⟩,
    ⟨some 98, .bin .eql (.tmp 97) (.const (.int .i64 2)), some (92, true), none⟩,
    ⟨some 99, .pick (.tmp 92) (.tmp 98) (.const (.bool false)), none, none⟩,
    ⟨some 100, .mv (.tmp 99), none, none⟩,
    ⟨some 101, .mv (.tmp 6), some (100, true), none⟩,
    ⟨some 102, .iadr 1 (.tmp 101) (.const (.int .i64 0)), some (100, true), none⟩,
    ⟨some 103, .load 1 false (.tmp 102), some (100, true), none⟩,
    ⟨some 104, .iadr 1 (.tmp 103) (.const (.int .i64 1)), some (100, true), none⟩,
    ⟨some 105, .load 1 false (.tmp 104), some (100, true), none⟩,
    ⟨some 106, .bin .eql (.tmp 105) (.const (.int .i64 3)), some (100, true), none⟩,
    ⟨some 107, .pick (.tmp 100) (.tmp 106) (.const (.bool false)), none, none⟩,
    ⟨some 108, .mv (.tmp 107), none, none⟩,
    ⟨some 109, .mv (.tmp 6), some (108, true), none⟩,
    ⟨some 110, .iadr 1 (.tmp 109) (.const (.int .i64 0)), some (108, true), none⟩,
    ⟨some 111, .load 1 false (.tmp 110), some (108, true), none⟩,
    ⟨some 112, .iadr 1 (.tmp 111) (.const (.int .i64 2)), some (108, true), none⟩,
    ⟨some 113, .load 1 false (.tmp 112), some (108, true), none⟩,
    ⟨some 114, .bin .eql (.tmp 113) (.const (.int .i64 1)), some (108, true), none⟩,
    ⟨some 115, .pick (.tmp 108) (.tmp 114) (.const (.bool false)), none, none⟩,
    ⟨some 0, .mv (.tmp 115), none, none⟩]
def law34_lives_ic : IC := (.seq (.reg law34_lives_r0 [.keep [] []]) (.seq (.reg law34_lives_r1 [.keep [1, 2] []]) (.seq (.reg law34_lives_r2 [.keep [1, 2, 3] []]) (.seq (.reg law34_lives_r3 [.keep [1, 2, 3, 4, 5] []]) (.seq (.reg law34_lives_r4 [.keep [1, 2, 4, 5, 6, 7] []]) (.seq (.seq (.reg law34_lives_r5 [.keep [1, 4, 6, 73] []]) (.cond (.tmp 73) (.seq (.reg law34_lives_r6 [.keep [0] []]) .ret) .skip)) (.seq (.reg law34_lives_r7 [.keep [0] []]) .ret)))))))
@[simp ↓] theorem law34_lives_ic_run : run P Γ law34_lives_ic Q s = run P Γ (.seq (.reg law34_lives_r0 [.keep [] []]) (.seq (.reg law34_lives_r1 [.keep [1, 2] []]) (.seq (.reg law34_lives_r2 [.keep [1, 2, 3] []]) (.seq (.reg law34_lives_r3 [.keep [1, 2, 3, 4, 5] []]) (.seq (.reg law34_lives_r4 [.keep [1, 2, 4, 5, 6, 7] []]) (.seq (.seq (.reg law34_lives_r5 [.keep [1, 4, 6, 73] []]) (.cond (.tmp 73) (.seq (.reg law34_lives_r6 [.keep [0] []]) .ret) .skip)) (.seq (.reg law34_lives_r7 [.keep [0] []]) .ret))))))) Q s := Eq.trans rfl rfl
attribute [simp] law34_lives_r0 law34_lives_r1 law34_lives_r2 law34_lives_r3 law34_lives_r4 law34_lives_r5 law34_lives_r6 law34_lives_r7
def law34_lives_rv : List RV := [.tmp 0]

/- probecard/probecardlaw34.row (function 47) -/
def law34_row_r0 : List RO := [
    ⟨some 2, .alloc false [(.slice none 0 0), (.slice none 0 0), (.slice none 0 0), (.slice none 0 0)], none, none⟩]
def law34_row_r1 : List RO := [
    ⟨some 5, .build [(1, (.const (.int .u8 0))), (1, (.const (.slice none 0 0))), (1, (.const (.int .i64 0))), (1, (.const (.int .i64 0)))], none, none⟩,
    ⟨some 6, .bsl false 48 4 [(.tmp 5)], none, some 20⟩,
    ⟨some 7, .bsl false 9 1 [(.const (sV [97]))], none, some 32⟩,
    ⟨some 8, .bsl true 3 1 [(.const (.int .i64 0))], none, none⟩,
    ⟨some 9, .build [(1, (.tmp 6)), (1, (.tmp 7)), (1, (.const (.slice none 0 0))), (1, (.tmp 8))], none, none⟩,
    ⟨some 3, .alloc false [(.slice none 0 0), (.slice none 0 0), (.slice none 0 0), (.slice none 0 0)], none, none⟩,
    ⟨none, .store 4 (.tmp 3) (.tmp 9), none, none⟩]
def law34_row_r2 : List RO := [
    ⟨some 4, .mv (.const (.int .i64 0)), none, none⟩]
def law34_row_r3 : List RO := [
    ⟨some 10, .mv (.tmp 4), none, none⟩,
    ⟨some 11, .mv (.tmp 0), none, none⟩,
    ⟨some 12, .bin .lss (.tmp 10) (.tmp 11), none, none⟩]
def law34_row_r5 : List RO := [
    ⟨some 15, .fadr 0 (.tmp 3), none, none⟩,
    ⟨some 16, .load 1 false (.tmp 15), none, none⟩,
    ⟨some 17, .bsl true 3 1 [(.const (.int .i64 0))], none, none⟩,
    ⟨some 18, .build [(1, (.const (.int .u8 14))), (1, (.tmp 17)), (1, (.const (.int .i64 0))), (1, (.const (.int .i64 0)))], none, none⟩,
    ⟨some 19, .bsl true 48 4 [(.tmp 18)], none, none⟩,
    ⟨some 20, .app false 48 4 (.tmp 16) (.tmp 19), none, none⟩,
    ⟨some 21, .fadr 0 (.tmp 3), none, none⟩,
    ⟨none, .store 1 (.tmp 21) (.tmp 20), none, none⟩]
def law34_row_r6 : List RO := [
    ⟨some 22, .fadr 1 (.tmp 3), none, none⟩,
    ⟨some 23, .ldR 3 1 false (.tmp 22), none, none⟩,
    ⟨some 24, .mv (.tmp 4), none, none⟩,
    ⟨some 25, .bin .rem (.tmp 24) (.const (.int .i64 10)), none, none⟩,
    ⟨some 26, .mv (.tmp 4), none, none⟩,
    ⟨some 27, .bin .rem (.tmp 26) (.const (.int .i64 10)), none, none⟩,
    ⟨some 28, .bin .add (.tmp 27) (.const (.int .i64 1)), none, none⟩,
    ⟨some 29, .slice 0 (.const (sV [48, 49, 50, 51, 52, 53, 54, 55, 56, 57])) (some (.tmp 25)) (some (.tmp 28)) none, none, none⟩,
    ⟨some 30, .bin .add (.const (sV [102])) (.tmp 29), none, none⟩,
    ⟨some 31, .bsl true 9 1 [(.tmp 30)], none, none⟩,
    ⟨some 32, .app false 9 1 (.tmp 23) (.tmp 31), none, none⟩,
    ⟨some 33, .fadr 1 (.tmp 3), none, none⟩,
    ⟨none, .stR 3 1 (.tmp 33) (.tmp 32), none, none⟩]
def law34_row_r4 : List RO := [
    ⟨some 13, .mv (.tmp 4), none, none⟩,
    ⟨some 14, .bin .add (.tmp 13) (.const (.int .i64 1)), none, none⟩,
    ⟨some 4, .mv (.tmp 14), none, none⟩]
def law34_row_g0 : IC := .gh (.seq (.seq (.reg law34_row_r3 [.keep [0, 2, 3, 4, 12] [2, 3, 20, 32]]) (.cond (.tmp 12) .skip (.exit 0))) (.seq (.block 1 (.seq (.reg law34_row_r5 [.keep [0, 2, 3, 4] [2, 3, 20, 32]]) (.reg law34_row_r6 [.keep [0, 2, 3, 4] [2, 3, 20, 32]]))) (.reg law34_row_r4 [.keep [0, 2, 3, 4] [2, 3, 20, 32]]))) [.keep [0, 2, 3, 4] [2, 3, 20, 32]]
def law34_row_l1 : IC := .loop law34_row_g0
def law34_row_r7 : List RO := [
    ⟨some 34, .load 4 true (.tmp 3), none, none⟩,
    ⟨none, .store 4 (.tmp 2) (.tmp 34), none, none⟩]
def law34_row_ic : IC := (.seq (.reg law34_row_r0 [.keep [0, 2] [2, 20, 32]]) (.seq (.reg law34_row_r1 [.keep [0, 2, 3] [2, 3, 20, 32]]) (.seq (.seq (.reg law34_row_r2 [.keep [0, 2, 3, 4] [2, 3, 20, 32]]) (.block 0 law34_row_l1)) (.seq (.reg law34_row_r7 [.keep [2] [2, 20, 32]]) .ret))))
@[simp ↓] theorem law34_row_g0_run : run P Γ law34_row_g0 Q s = run P Γ (.gh (.seq (.seq (.reg law34_row_r3 [.keep [0, 2, 3, 4, 12] [2, 3, 20, 32]]) (.cond (.tmp 12) .skip (.exit 0))) (.seq (.block 1 (.seq (.reg law34_row_r5 [.keep [0, 2, 3, 4] [2, 3, 20, 32]]) (.reg law34_row_r6 [.keep [0, 2, 3, 4] [2, 3, 20, 32]]))) (.reg law34_row_r4 [.keep [0, 2, 3, 4] [2, 3, 20, 32]]))) [.keep [0, 2, 3, 4] [2, 3, 20, 32]]) Q s := Eq.trans rfl rfl
@[simp ↓] theorem law34_row_ic_run : run P Γ law34_row_ic Q s = run P Γ (.seq (.reg law34_row_r0 [.keep [0, 2] [2, 20, 32]]) (.seq (.reg law34_row_r1 [.keep [0, 2, 3] [2, 3, 20, 32]]) (.seq (.seq (.reg law34_row_r2 [.keep [0, 2, 3, 4] [2, 3, 20, 32]]) (.block 0 law34_row_l1)) (.seq (.reg law34_row_r7 [.keep [2] [2, 20, 32]]) .ret)))) Q s := Eq.trans rfl rfl
theorem law34_row_l1_run (h : ∀ K : St → Prop, K = run P Γ law34_row_l1 Q → run P Γ law34_row_g0 (thenX K Q) s) : run P Γ law34_row_l1 Q s := run_loop h
attribute [simp] law34_row_r0 law34_row_r1 law34_row_r2 law34_row_r3 law34_row_r5 law34_row_r6 law34_row_r4 law34_row_r7
def law34_row_rv : List RV := [.cell 2 4 true]
end
end Go.Lg

/- The abstract code is that of the program (by the kernel). Conditions: none. -/
namespace Go.Lg
open Go Go.Proofs
theorem scans_Balance_chk : chkF Tryd.prog 13 scans_Balance_ic 62 2 scans_Balance_rv = true := by kernel_rfl
theorem scans_Check_chk : chkF Tryd.prog 18 scans_Check_ic 68 2 scans_Check_rv = true := by kernel_rfl
theorem scans_Length_chk : chkF Tryd.prog 21 scans_Length_ic 36 3 scans_Length_rv = true := by kernel_rfl
theorem scans_Shorten_chk : chkF Tryd.prog 22 scans_Shorten_ic 38 3 scans_Shorten_rv = true := by kernel_rfl
theorem scans_placed_chk : chkF Tryd.prog 49 scans_placed_ic 60 3 scans_placed_rv = true := by kernel_rfl
theorem scans_length_chk : chkF Tryd.prog 50 scans_length_ic 44 2 scans_length_rv = true := by kernel_rfl
theorem scans_shorter_chk : chkF Tryd.prog 51 scans_shorter_ic 49 2 scans_shorter_rv = true := by kernel_rfl
theorem scans_abs_chk : chkF Tryd.prog 79 scans_abs_ic 7 1 scans_abs_rv = true := by kernel_rfl
theorem slices_Reverse_int_chk : chkF Tryd.prog 80 slices_Reverse_int_ic 28 1 slices_Reverse_int_rv = true := by kernel_rfl
theorem law34_lives_chk : chkF Tryd.prog 16 law34_lives_ic 116 0 law34_lives_rv = true := by kernel_rfl
theorem law34_row_chk : chkF Tryd.prog 47 law34_row_ic 35 1 law34_row_rv = true := by kernel_rfl
end Go.Lg

/- scans.Check. Conditions: none. -/
set_option linter.unusedSimpArgs false
set_option linter.unusedVariables false
set_option maxRecDepth 100000
namespace Go.Lg
open Go Go.Proofs
variable {Γ : Tables}

def seenI (l : List Int) : List (Value × T) := l.map fun n => (.int .i64 n, tB true)
theorem seenI_find (x : Int) : ∀ l : List Int, findM (.int .i64 x) (seenI l) = if x ∈ l then some (tB true) else none
  | [] => rfl
  | y :: l => by
    have ih := seenI_find x l
    simp only [seenI, List.map_cons, findM, keyEq, int_beq] at ih ⊢
    by_cases h : x = y
    · simp [h]
    · simp [h, ih]
theorem seenI_set (x : Int) : ∀ l : List Int, x ∉ l → setM (.int .i64 x) (tB true) (seenI l) = seenI (l ++ [x])
  | [], _ => rfl
  | y :: l, h => by
    have ih := seenI_set x l (fun hm => h (List.mem_cons_of_mem _ hm))
    have hne : x ≠ y := fun e => h (by simp [e])
    simp only [seenI, List.map_cons, setM, keyEq, int_beq, List.cons_append] at ih ⊢
    simp [hne, ih]
theorem seenI_fit (l : List Int) : keysFit (.int .i64) (seenI l) := by
  intro e he; obtain ⟨s, _, rfl⟩ := List.mem_map.1 he; rfl
theorem seenI_len (l : List Int) : (seenI l).length = l.length := by simp [seenI]

def elemBad (c : Cir) (done : List Int) (n : Int) : Bool := decide (n < 0 ∨ (c.nodes.l.length : Int) ≤ n ∨ kindAt c n.toNat ≠ 14 ∨ n ∈ done)
def goElems (c : Cir) : List Int → List Int → Option (List Int)
  | done, [] => some done
  | done, n :: l => if elemBad c done n then none else goElems c (done ++ [n]) l
def goChains (c : Cir) : List Int → List (Sl Int) → Option (List Int)
  | done, [] => some done
  | done, s :: l => if s.l = [] then none else (goElems c done s.l).bind fun d => goChains c d l

theorem elems_loop {Q : AX → St → Prop} (c : Cir) (hn : c.nodes.l.length ≤ 1000000000) (chs : T) (a21 a22 : T) (s : Sl Int) (hs : s.l.length ≤ 1000000000) (R : Option (List Int))
    (h0 : ∀ d, R = some d → Q (.exit 2) ⟨[(2, .t (.ip (tC c) 0)), (6, .lm 19), (20, .t chs), (21, .t a21), (22, .t a22), (29, .t (tSl s)), (30, .t (tI s.l.length)), (31, .t (tI s.l.length)), (32, .t (tB false))], [(19, .mp (seenI d))]⟩)
    (h1 : R = none → Q .ret ⟨[(4, .t (tI 1))], []⟩) : ∀ (kk k : Nat) (done : List Int), kk + k = s.l.length → goElems c done (s.l.drop k) = R →
    run Tryd.prog Γ scans_Check_l1 Q ⟨[(2, .t (.ip (tC c) 0)), (6, .lm 19), (20, .t chs), (21, .t a21), (22, .t a22), (29, .t (tSl s)), (30, .t (tI s.l.length)), (31, .t (tI k))], [(19, .mp (seenI done))]⟩
  | 0, k, done, h, hR => by
    refine scans_Check_l1_run fun K hK => ?_
    have h2 : ¬ k < s.l.length := by omega
    have h3 : k = s.l.length := by omega
    simp [h2]
    subst h3
    rw [List.drop_of_length_le (Nat.le_refl _)] at hR
    exact h0 _ hR.symm
  | kk + 1, k, done, h, hR => by
    refine scans_Check_l1_run fun K hK => ?_
    have h2 : k < s.l.length := by omega
    rw [List.drop_eq_getElem_cons h2] at hR
    simp only [goElems] at hR
    have hfit := seenI_fit done
    generalize hx : s.l[k] = n at hR
    by_cases b1 : n < 0
    · rw [if_pos (show elemBad c done n = true by simp [elemBad, b1])] at hR
      simp (disch := omega) [h2, tSl, enc1_len, enc1_get (0 : Int), enc1_wid, hx, b1]
      exact h1 hR.symm
    by_cases b2 : (c.nodes.l.length : Int) ≤ n
    · rw [if_pos (show elemBad c done n = true by simp [elemBad, b2])] at hR
      simp (disch := omega) [h2, tSl, enc1_len, enc1_get (0 : Int), enc1_wid, hx, b1, b2, tC, tNodes, encN_len]
      exact h1 hR.symm
    have hj : n.toNat < c.nodes.l.length := by omega
    have hk : kindAt c n.toNat = c.nodes.l[n.toNat].k := by simp [kindAt, hj]
    by_cases b3 : c.nodes.l[n.toNat].k = 14
    case neg =>
      rw [if_pos (show elemBad c done n = true by simp [elemBad, hk, b3])] at hR
      simp (disch := omega) [h2, tSl, enc1_len, enc1_get (0 : Int), enc1_wid, hx, b1, b2, tC, tNodes, encN_len, encN_get Nd.d, tNd_wid, tNd, hj, b3]
      exact ⟨by omega, h1 hR.symm⟩
    by_cases b4 : n ∈ done
    · rw [if_pos (show elemBad c done n = true by simp [elemBad, b4])] at hR
      simp (disch := omega) [h2, tSl, enc1_len, enc1_get (0 : Int), enc1_wid, hx, b1, b2, tC, tNodes, encN_len, encN_get Nd.d, tNd_wid, tNd, hj, b3, KT.fits, hfit, seenI_find, b4]
      exact ⟨by omega, h1 hR.symm⟩
    rw [if_neg (show ¬ elemBad c done n = true by simp [elemBad, b1, b2, hk, b3, b4])] at hR
    simp (disch := omega) [h2, tSl, enc1_len, enc1_get (0 : Int), enc1_wid, hx, b1, b2, tC, tNodes, encN_len, encN_get Nd.d, tNd_wid, tNd, hj, b3, KT.fits, hfit, seenI_find, b4, seenI_set, wrap_i64]
    refine ⟨by omega, ?_⟩
    rw [hK]
    have := elems_loop c hn chs a21 a22 s hs R h0 h1 kk (k + 1) (done ++ [n]) (by omega) hR
    simpa [tSl, tC, tNodes] using this

theorem chains_loop {Q : AX → St → Prop} (c : Cir) (hn : c.nodes.l.length ≤ 1000000000) (chs : Sl (Sl Int)) (hl : chs.l.length ≤ 1000000000) (hs : ∀ s ∈ chs.l, s.l.length ≤ 1000000000) (R : Option (List Int))
    (h0 : ∀ d, R = some d → Q (.exit 0) ⟨[(2, .t (.ip (tC c) 0)), (6, .lm 19), (20, .t (tChs chs)), (21, .t (tI chs.l.length)), (22, .t (tI chs.l.length)), (23, .t (tB false))], [(19, .mp (seenI d))]⟩)
    (h1 : R = none → Q .ret ⟨[(4, .t (tI 1))], []⟩) : ∀ (kk k : Nat) (done : List Int), kk + k = chs.l.length → goChains c done (chs.l.drop k) = R →
    run Tryd.prog Γ scans_Check_l3 Q ⟨[(2, .t (.ip (tC c) 0)), (6, .lm 19), (20, .t (tChs chs)), (21, .t (tI chs.l.length)), (22, .t (tI k))], [(19, .mp (seenI done))]⟩
  | 0, k, done, h, hR => by
    refine scans_Check_l3_run fun K hK => ?_
    have h2 : ¬ k < chs.l.length := by omega
    have h3 : k = chs.l.length := by omega
    simp [h2]
    subst h3
    rw [List.drop_of_length_le (Nat.le_refl _)] at hR
    exact h0 _ hR.symm
  | kk + 1, k, done, h, hR => by
    refine scans_Check_l3_run fun K hK => ?_
    have h2 : k < chs.l.length := by omega
    have hsl := hs _ (List.getElem_mem h2)
    rw [List.drop_eq_getElem_cons h2] at hR
    simp only [goChains] at hR
    by_cases he : chs.l[k].l = []
    · rw [if_pos he] at hR
      simp (disch := omega) [h2, tChs, enc1_len, enc1_get Sl.d, enc1_wid, tSl, he, enc1_nil]
      exact h1 hR.symm
    rw [if_neg he] at hR
    have he' : ¬ chs.l[k].l.length = 0 := fun e => he (List.eq_nil_of_length_eq_zero e)
    simp (disch := omega) [h2, tChs, enc1_len, enc1_get Sl.d, enc1_wid, tSl, he, he']
    refine elems_loop c hn (.sl (enc1 tSl chs.l) chs.cap chs.nl) (tI chs.l.length) (tI k) chs.l[k] hsl (goElems c done chs.l[k].l) (fun d hd => ?_) (fun hd => ?_) chs.l[k].l.length 0 done (by omega) rfl
    · rw [hd] at hR
      simp (disch := omega) [wrap_i64]
      rw [hK]
      have := chains_loop c hn chs hl hs R h0 h1 kk (k + 1) d (by omega) hR
      simpa [tChs] using this
    · rw [hd] at hR
      simp
      exact h1 hR.symm

def checkErr (c : Cir) (chs : List (Sl Int)) : Int :=
  if plainErr c ≠ 0 then plainErr c else if 64 < chs.length then 3 else match goChains c [] chs with
    | none => 1
    | some d => if d.length ≠ (states c).length then 8 else 0

theorem scheck_spec (hΓ : GOk Γ) (c : Cir) (hc : COk c) (chs : Sl (Sl Int)) (hl : chs.l.length ≤ 1000000000) (hs : ∀ s ∈ chs.l, s.l.length ≤ 1000000000) : FreshCalls Tryd.prog Γ 18 [.agg (tC c), tChs chs] (tI (checkErr c chs.l)) := by
  refine run_freshQ scans_Check_chk rfl ?_
  simp [scans_Check_ic, tC, tNodes, tNames, tMems, tSl]
  refine callK_fresh (plain_spec hΓ c hc) rfl ?_
  by_cases h1 : plainErr c = 0
  case neg =>
    have : checkErr c chs.l = plainErr c := by unfold checkErr; rw [if_pos h1]
    simp [h1, scans_Check_rv, this]
  have hp : checkErr c chs.l = if 64 < chs.l.length then 3 else match goChains c [] chs.l with
    | none => 1
    | some d => if d.length ≠ (states c).length then 8 else 0 := by unfold checkErr; rw [if_neg (show ¬ (plainErr c ≠ 0) by simp [h1])]
  by_cases h2 : 64 < chs.l.length
  · rw [if_pos h2] at hp
    have h2' : (64 : Int) < chs.l.length := by omega
    simp [h1, tChs, enc1_len, h2', scans_Check_rv, hp]
  rw [if_neg h2] at hp
  have h2' : ¬ (64 : Int) < chs.l.length := by omega
  simp [h1, tChs, enc1_len, h2']
  refine chains_loop c hc.nodes chs hl hs (goChains c [] chs.l) (fun d hd => ?_) (fun hd => ?_) chs.l.length 0 [] (by omega) rfl
  case refine_2 =>
    rw [hd] at hp
    simp [scans_Check_rv, hp]
  rw [hd] at hp
  simp only at hp
  simp [seenI_len, tC, tNodes, tNames, tMems, tSl]
  refine callK_pure (states_spec c hc) rfl ?_
  by_cases h3 : d.length = (states c).length
  · rw [if_neg (show ¬ (d.length ≠ (states c).length) by simp [h3])] at hp
    simp [enc1_len, h3, scans_Check_rv, hp]
  · rw [if_pos h3] at hp
    have h3' : ¬ (d.length : Int) = (states c).length := by omega
    simp [enc1_len, h3, h3', scans_Check_rv, hp]
end Go.Lg

/- abs, length, Reverse. Conditions: none. -/
set_option linter.unusedSimpArgs false
set_option linter.unusedVariables false
set_option maxRecDepth 100000
namespace Go.Lg
open Go Go.Proofs
variable {Γ : Tables}

abbrev Pnt := Int × Int
def tPnt (p : Pnt) : T := .agg [tI p.1, tI p.2]
def cPnt (p : Pnt) : List T := [tI p.1, tI p.2]
/-- The positions, as a map. -/
def atM (l : List (Int × Pnt)) : List (Value × T) := l.map fun p => (.int .i64 p.1, tPnt p.2)
def atOf (l : List (Int × Pnt)) (n : Int) : Pnt := match l.find? (fun p => p.1 == n) with | some p => p.2 | none => (0, 0)
theorem atM_fit (l : List (Int × Pnt)) : keysFit (.int .i64) (atM l) := by
  intro e he; obtain ⟨s, _, rfl⟩ := List.mem_map.1 he; rfl
theorem atM_find (n : Int) : ∀ l : List (Int × Pnt), (findM (.int .i64 n) (atM l)).getD (.agg [tI 0, tI 0]) = tPnt (atOf l n)
  | [] => rfl
  | p :: l => by
    have ih := atM_find n l
    simp only [atM, List.map_cons, findM, keyEq, int_beq, atOf, List.find?_cons] at ih ⊢
    by_cases h : n = p.1
    · simp [h]
    · have h' : ¬ p.1 = n := fun e => h e.symm
      simp only [h, h', decide_false, Bool.false_eq_true, ↓reduceIte]
      exact ih

theorem abs_spec (n : Int) (h : -4000000 ≤ n ∧ n ≤ 4000000) : FreshCalls Tryd.prog Γ 79 [tI n] (tI (max n (-n))) := by
  refine run_freshQ scans_abs_chk rfl ?_
  simp (disch := omega) [scans_abs_ic, scans_abs_rv, wrap_i64]
  split <;> omega

def Small (l : List (Int × Pnt)) : Prop := ∀ p ∈ l, -1000000 ≤ p.2.1 ∧ p.2.1 ≤ 1000000 ∧ -1000000 ≤ p.2.2 ∧ p.2.2 ≤ 1000000
theorem Small.at {l : List (Int × Pnt)} (h : Small l) (n : Int) : -1000000 ≤ (atOf l n).1 ∧ (atOf l n).1 ≤ 1000000 ∧ -1000000 ≤ (atOf l n).2 ∧ (atOf l n).2 ≤ 1000000 := by
  unfold atOf
  split
  · rename_i p hp
    exact h p (List.mem_of_find?_eq_some hp)
  · simp
def dist (p q : Pnt) : Int := max (p.1 - q.1) (-(p.1 - q.1)) + max (p.2 - q.2) (-(p.2 - q.2))
theorem dist_le {l : List (Int × Pnt)} (h : Small l) (a b : Int) : 0 ≤ dist (atOf l a) (atOf l b) ∧ dist (atOf l a) (atOf l b) ≤ 4000000 := by
  have h1 := h.at a
  have h2 := h.at b
  unfold dist; omega

def lenS (m : List (Int × Pnt)) : List Int → Int
  | a :: b :: l => dist (atOf m a) (atOf m b) + lenS m (b :: l)
  | _ => 0
theorem lenS_snoc (m : List (Int × Pnt)) (b : Int) : ∀ (l : List Int) (a : Int), lenS m (l ++ [a, b]) = lenS m (l ++ [a]) + dist (atOf m a) (atOf m b)
  | [], a => by simp [lenS]
  | [x], a => by simp [lenS]
  | x :: y :: l, a => by
    have := lenS_snoc m b (y :: l) a
    simp only [List.cons_append, lenS] at this ⊢
    omega
theorem lenS_le {m : List (Int × Pnt)} (h : Small m) : ∀ l : List Int, 0 ≤ lenS m l ∧ lenS m l ≤ 4000000 * l.length
  | [] => by simp [lenS]
  | [a] => by simp [lenS]
  | a :: b :: l => by
    have h1 := lenS_le h (b :: l)
    have h2 := dist_le h a b
    simp only [lenS, List.length_cons] at h1 ⊢
    omega

theorem length_loop {Q : AX → St → Prop} (m : List (Int × Pnt)) (hm : Small m) (l : List Int) (cap : Option Nat) (nl : Option Bool) (hl : l.length ≤ 1000000000)
    (h0 : Q (.exit 0) ⟨[(0, .t (.sl (ints l) cap nl)), (1, .t (.mp (atM m))), (5, .t (tI (lenS m l))), (6, .t (tI (max 1 l.length : Nat))), (12, .t (tB false))], []⟩) :
    ∀ (kk i : Nat), kk + i = max 1 l.length → 1 ≤ i →
    run Tryd.prog Γ scans_length_l1 Q ⟨[(0, .t (.sl (ints l) cap nl)), (1, .t (.mp (atM m))), (5, .t (tI (lenS m (l.take i)))), (6, .t (tI i))], []⟩
  | 0, i, h, h1 => by
    refine scans_length_l1_run fun K hK => ?_
    have h2 : ¬ i < l.length := by omega
    simp [h2, enc1_len]
    have h3 : i = max 1 l.length := by omega
    subst h3
    rw [List.take_of_length_le (by omega)]
    exact_mod_cast h0
  | kk + 1, i, h, h1 => by
    refine scans_length_l1_run fun K hK => ?_
    have h2 : i < l.length := by omega
    have h4 : i - 1 < l.length := by omega
    have hi : ((i : Int) - 1).toNat = i - 1 := by omega
    have hfit := atM_fit m
    have hle := lenS_le hm (l.take i)
    have hlt : (l.take i).length = i := by simp; omega
    have e0 : l.take i = l.take (i - 1) ++ [l[i - 1]] := by
      have := List.take_add_one (l := l) (i := i - 1)
      rw [show i - 1 + 1 = i by omega] at this
      rw [this]; simp [h4]
    have t1 : l.take (i + 1) = l.take i ++ [l[i]] := by rw [List.take_add_one]; simp [h2]
    have e1 : l.take (i + 1) = l.take (i - 1) ++ [l[i - 1], l[i]] := t1.trans ((congrArg (· ++ [l[i]]) e0).trans (List.append_assoc _ _ _))
    have hs := lenS_snoc m l[i] (l.take (i - 1)) l[i - 1]
    rw [← e0, ← e1] at hs
    have ha := hm.at l[i - 1]
    have hb := hm.at l[i]
    have hd : dist (atOf m l[i - 1]) (atOf m l[i]) = max ((atOf m l[i - 1]).1 - (atOf m l[i]).1) (-((atOf m l[i - 1]).1 - (atOf m l[i]).1)) + max ((atOf m l[i - 1]).2 - (atOf m l[i]).2) (-((atOf m l[i - 1]).2 - (atOf m l[i]).2)) := rfl
    rw [hd] at hs
    have f1 := atM_find l[i - 1] m
    have f2 := atM_find l[i] m
    simp only [tPnt] at f1 f2
    obtain ⟨a1, a2, a3, a4⟩ := ha
    obtain ⟨b1, b2, b3, b4⟩ := hb
    have k1 := abs_spec (Γ := Γ) ((atOf m l[i - 1]).1 - (atOf m l[i]).1) (by omega)
    have k2 := abs_spec (Γ := Γ) ((atOf m l[i - 1]).2 - (atOf m l[i]).2) (by omega)
    have ih := length_loop m hm l cap nl hl h0 kk (i + 1) (by omega) (by omega)
    rw [hs] at ih
    generalize atOf m l[i - 1] = p at *
    generalize atOf m l[i] = q at *
    simp (disch := omega) [h2, h4, hi, enc1_len, enc1_get (0 : Int), enc1_wid, wrap_i64, KT.fits, hfit, f1, f2]
    refine ⟨by omega, ?_⟩
    refine callK_fresh k1 rfl ?_
    simp (disch := omega) [wrap_i64]
    refine callK_fresh k2 rfl ?_
    simp (disch := omega) [wrap_i64]
    rw [hK]
    exact_mod_cast ih

theorem length_spec (m : List (Int × Pnt)) (hm : Small m) (l : List Int) (cap : Option Nat) (nl : Option Bool) (hl : l.length ≤ 1000000000) : FreshCalls Tryd.prog Γ 50 [.sl (ints l) cap nl, .mp (atM m)] (tI (lenS m l)) := by
  refine run_freshQ scans_length_chk rfl ?_
  simp [scans_length_ic]
  have h1 : lenS m (l.take 1) = 0 := by
    match l with
    | [] => rfl
    | [a] => rfl
    | a :: b :: l => rfl
  have := length_loop (Γ := Γ) (Q := blockX 0 (thenX (run Tryd.prog Γ (.seq (.reg scans_length_r7 [.keep [4] []]) .ret) (ret true scans_length_rv fun r => r = tI (lenS m l))) (ret true scans_length_rv fun r => r = tI (lenS m l)))) m hm l cap nl hl (by simp [scans_length_rv]) (max 1 l.length - 1) 1 (by omega) (by omega)
  rw [h1] at this
  exact this

/-- The part from a to b of a list, turned. -/
def revL : Nat → Nat → Nat → List Int → List Int
  | 0, _, _, l => l
  | f + 1, a, b, l => if a < b then revL f (a + 1) (b - 1) (swapL l a b) else l
theorem revL_len : ∀ {f a b : Nat} {l : List Int}, (revL f a b l).length = l.length
  | 0, _, _, _ => rfl
  | f + 1, a, b, l => by
    simp only [revL]
    split
    · rw [revL_len]; exact swapL_len
    · rfl

theorem reverse_loop {Q : AX → St → Prop} (ty : Nat) (off len : Nat) (cap : Option Nat) (R : List Int) (hlen : len ≤ 1000000000)
    (h0 : ∀ a b : Int, Q (.exit 0) ⟨[(0, .ls 1000000 off len cap), (2, .t (tI a)), (3, .t (tI b)), (9, .t (tB false))], [(1000000, .sl ty 1 (ints R))]⟩) :
    ∀ (f a : Nat) (b : Int) (l : List Int), (b < len ∧ -1 ≤ b) → b + 1 ≤ f + a → a ≤ len → off + len ≤ l.length → revL f (off + a) ((off + b).toNat) l = R →
    run Tryd.prog Γ slices_Reverse_int_l1 Q ⟨[(0, .ls 1000000 off len cap), (2, .t (tI a)), (3, .t (tI b))], [(1000000, .sl ty 1 (ints l))]⟩
  | 0, a, b, l, hb, hf, ha, hl, hR => by
    refine slices_Reverse_int_l1_run fun K hK => ?_
    have h2 : ¬ (a : Int) < b := by omega
    simp [h2]
    simp only [revL] at hR
    subst hR
    exact h0 _ _
  | f + 1, a, b, l, hb, hf, ha, hl, hR => by
    refine slices_Reverse_int_l1_run fun K hK => ?_
    simp only [revL] at hR
    by_cases h2 : (a : Int) < b
    case neg =>
      rw [if_neg (by omega)] at hR
      simp [h2]
      subst hR
      exact h0 _ _
    rw [if_pos (by omega)] at hR
    have hbn : (off + b).toNat = off + b.toNat := by omega
    have hb2 : b.toNat < len := by omega
    have la : off + a < l.length := by omega
    have lb : off + b.toNat < l.length := by omega
    have hsw : swapL l (off + a) (off + b).toNat = (l.set (off + a) l[off + b.toNat]).set (off + b.toNat) l[off + a] := by
      unfold swapL
      rw [hbn]
      simp [la, lb]
    rw [hsw] at hR
    have ih := reverse_loop ty off len cap R hlen h0 f (a + 1) (b - 1) ((l.set (off + a) l[off + b.toNat]).set (off + b.toNat) l[off + a]) (by omega) (by omega) (by omega) (by simp; omega) (by
      rw [← hR]; congr 1; omega)
    simp (disch := omega) [h2, hb2, enc1_len, enc1_get (0 : Int), enc1_wid, enc1_set, wrap_i64, la, lb]
    refine ⟨by omega, by omega, by omega, ?_⟩
    rw [hK]
    exact_mod_cast ih

def revP (l : List Int) (off len : Nat) : List Int := revL (len + 1) off (off + len - 1) l

theorem reverse_h (ty off len : Nat) (cap : Option Nat) (l : List Int) (hl : off + len ≤ l.length) (hlen : len ≤ 1000000000) (h1 : 1 ≤ len) : HCalls Tryd.prog Γ 80 [(1000000, .sl ty 1 (ints l))] [.ls 1000000 off len cap] (.t (.tup [])) [(1000000, .sl ty 1 (ints (revP l off len)))] := by
  refine run_handQ slices_Reverse_int_chk rfl ?_
  simp (disch := omega) [slices_Reverse_int_ic, wrap_i64]
  have := reverse_loop (Γ := Γ) (Q := blockX 0 (retH slices_Reverse_int_rv fun r h => r = .t (.tup []) ∧ h = [(1000000, .sl ty 1 (ints (revP l off len)))])) ty off len cap (revP l off len) hlen (fun a b => by simp [slices_Reverse_int_rv]) (len + 1) 0 (len - 1) l (by omega) (by omega) (by omega) hl (by
    unfold revP; congr 1; omega)
  exact this
end Go.Lg

/- placed and Length. Conditions: none. -/
set_option linter.unusedSimpArgs false
set_option linter.unusedVariables false
set_option maxRecDepth 100000
namespace Go.Lg
open Go Go.Proofs
variable {Γ : Tables}

def tPts (s : Sl Pnt) : T := .sl (encN cPnt s.l) s.cap s.nl
theorem cPnt_wid {l : List Pnt} : wid 2 (encN cPnt l) := encN_wid fun _ => rfl

theorem states_nodup (c : Cir) : (states c).Nodup := (ofL_nodup _ _ _).2

theorem atM_set (n : Int) (p : Pnt) : ∀ l : List (Int × Pnt), n ∉ l.map (·.1) → setM (.int .i64 n) (tPnt p) (atM l) = atM (l ++ [(n, p)])
  | [], _ => rfl
  | y :: l, h => by
    have ih := atM_set n p l (fun hm => h (List.mem_cons_of_mem _ hm))
    have hne : ¬ n = y.1 := fun e => h (by simp [e])
    simp only [atM, List.map_cons, setM, keyEq, int_beq, List.cons_append] at ih ⊢
    simp [hne, ih]

def ptBad (p : Pnt) : Bool := decide (p.1 < -1000000 ∨ 1000000 < p.1 ∨ p.2 < -1000000 ∨ 1000000 < p.2)

theorem placed_loop {Q : AX → St → Prop} (st : List Int) (hnd : st.Nodup) (at' : Sl Pnt) (hl : at'.l.length ≤ 1000000000) (he : at'.l.length = st.length)
    (h0 : at'.l.any ptBad = false → Q (.exit 0) ⟨[(9, .t (.sl (ints st) (some st.length) none)), (10, .lm 26), (27, .t (tPts at')), (28, .t (tI at'.l.length)), (29, .t (tI at'.l.length)), (30, .t (tB false))], [(26, .mp (atM (st.zip at'.l)))]⟩)
    (h1 : at'.l.any ptBad = true → ∀ m, Q .ret ⟨[(6, .t (.mp [])), (7, .t (tI 1))], [(26, .mp (atM m))]⟩) : ∀ (kk i : Nat), kk + i = at'.l.length → (∀ j, j < i → ∀ p, at'.l[j]? = some p → ptBad p = false) →
    run Tryd.prog Γ scans_placed_l1 Q ⟨[(9, .t (.sl (ints st) (some st.length) none)), (10, .lm 26), (27, .t (tPts at')), (28, .t (tI at'.l.length)), (29, .t (tI i))], [(26, .mp (atM ((st.zip at'.l).take i)))]⟩
  | 0, i, h, hq => by
    refine scans_placed_l1_run fun K hK => ?_
    have h2 : ¬ i < at'.l.length := by omega
    have h3 : i = at'.l.length := by omega
    simp [h2]
    subst h3
    rw [List.take_of_length_le (by simp [List.length_zip]; omega)]
    refine h0 (List.any_eq_false.2 fun p hp => ?_)
    obtain ⟨j, hj, rfl⟩ := List.getElem_of_mem hp
    simp [hq j hj _ (List.getElem?_eq_getElem hj)]
  | kk + 1, i, h, hq => by
    refine scans_placed_l1_run fun K hK => ?_
    have h2 : i < at'.l.length := by omega
    have h2' : i < st.length := by omega
    have hget : (encN cPnt at'.l)[i]?.getD [] = cPnt at'.l[i] := by simp [encN, h2]
    have hzl : i < (st.zip at'.l).length := by simp [List.length_zip]; omega
    have hzt : (st.zip at'.l).take (i + 1) = (st.zip at'.l).take i ++ [(st[i], at'.l[i])] := by
      rw [List.take_add_one, List.getElem?_eq_getElem hzl]; simp
    have hnm : st[i] ∉ ((st.zip at'.l).take i).map (·.1) := by
      intro hm
      obtain ⟨p, hp, hpe⟩ := List.mem_map.1 hm
      obtain ⟨j, hj, rfl⟩ := List.getElem_of_mem hp
      simp [List.length_zip] at hj
      simp at hpe
      exact (List.pairwise_iff_getElem.1 hnd j i (by omega) h2' (by omega)) hpe
    have hset := atM_set st[i] at'.l[i] _ hnm
    rw [← hzt] at hset
    have hfit := atM_fit ((st.zip at'.l).take i)
    have hbad : at'.l[i] ∈ at'.l := List.getElem_mem h2
    have fail : ptBad at'.l[i] = true → at'.l.any ptBad = true := fun hb => List.any_eq_true.2 ⟨_, hbad, hb⟩
    generalize hp : at'.l[i] = p at *
    obtain ⟨x, y⟩ := p
    by_cases b1 : x < -1000000
    · simp (disch := omega) [h2, tPts, encN_len, hget, cPnt_wid, cPnt, b1]
      exact h1 (fail (by simp [ptBad, b1])) _
    by_cases b2 : 1000000 < x
    · simp (disch := omega) [h2, tPts, encN_len, hget, cPnt_wid, cPnt, b1, b2]
      exact h1 (fail (by simp [ptBad, b2])) _
    by_cases b3 : y < -1000000
    · simp (disch := omega) [h2, tPts, encN_len, hget, cPnt_wid, cPnt, b1, b2, b3]
      exact h1 (fail (by simp [ptBad, b3])) _
    by_cases b4 : 1000000 < y
    · simp (disch := omega) [h2, tPts, encN_len, hget, cPnt_wid, cPnt, b1, b2, b3, b4]
      exact h1 (fail (by simp [ptBad, b4])) _
    have ih := placed_loop st hnd at' hl he h0 h1 kk (i + 1) (by omega) (fun j hj q hqq => by
      rcases Nat.lt_succ_iff_lt_or_eq.1 hj with hj | rfl
      · exact hq j hj q hqq
      · rw [List.getElem?_eq_getElem h2, hp] at hqq
        simp only [Option.some.injEq] at hqq; subst hqq
        simp [ptBad, b1, b2, b3, b4])
    simp only [tPnt] at hset
    simp (disch := omega) [h2, h2', tPts, encN_len, hget, cPnt_wid, cPnt, b1, b2, b3, b4, enc1_len, enc1_get (0 : Int), enc1_wid, KT.fits, hfit, hset, wrap_i64]
    rw [hK]
    simpa [tPts] using ih

def placedErr (c : Cir) (chs : List (Sl Int)) (at' : List Pnt) : Int :=
  if checkErr c chs ≠ 0 then checkErr c chs else if at'.length ≠ (states c).length then 8 else if at'.any ptBad = true then 1 else 0
def placedM (c : Cir) (chs : List (Sl Int)) (at' : List Pnt) : List (Int × Pnt) := if placedErr c chs at' = 0 then (states c).zip at' else []

theorem placed_spec (hΓ : GOk Γ) (c : Cir) (hc : COk c) (chs : Sl (Sl Int)) (hl : chs.l.length ≤ 1000000000) (hs : ∀ s ∈ chs.l, s.l.length ≤ 1000000000) (at' : Sl Pnt) (ha : at'.l.length ≤ 1000000000) :
    PureCalls Tryd.prog Γ 49 [.agg (tC c), tChs chs, tPts at'] (.tup [.mp (atM (placedM c chs.l at'.l)), tI (placedErr c chs.l at'.l)]) := by
  refine run_pureQ scans_placed_chk rfl ?_
  simp [scans_placed_ic, tC, tNodes, tNames, tMems, tSl]
  refine callK_fresh (scheck_spec hΓ c hc chs hl hs) rfl ?_
  by_cases h1 : checkErr c chs.l = 0
  case neg =>
    have : placedErr c chs.l at'.l = checkErr c chs.l := by unfold placedErr; rw [if_pos h1]
    simp [h1, scans_placed_rv, placedM, this, atM]
  have hp : placedErr c chs.l at'.l = if at'.l.length ≠ (states c).length then 8 else if at'.l.any ptBad = true then 1 else 0 := by
    unfold placedErr; rw [if_neg (show ¬ (checkErr c chs.l ≠ 0) by simp [h1])]
  simp [h1]
  refine callK_pure (states_spec c hc) rfl ?_
  by_cases h2 : at'.l.length = (states c).length
  case neg =>
    rw [if_pos h2] at hp
    have h2' : ¬ (at'.l.length : Int) = (states c).length := by omega
    simp [tPts, encN_len, enc1_len, h2, h2', scans_placed_rv, hp, placedM, atM]
  rw [if_neg (show ¬ (at'.l.length ≠ (states c).length) by simp [h2])] at hp
  have hpl := fun Q h0 h1 => placed_loop (Γ := Γ) (Q := Q) (states c) (states_nodup c) at' ha h2 h0 h1 at'.l.length 0 (by omega) (by simp)
  simp [tPts, encN_len, enc1_len, h2]
  simp only [tPts, h2] at hpl
  refine hpl _ (fun hb => ?_) (fun hb m => ?_)
  · rw [if_neg (by simp [hb])] at hp
    simp [scans_placed_rv, hp, placedM]
  · rw [if_pos hb] at hp
    simp [scans_placed_rv, hp, placedM, atM]

def lenTot (m : List (Int × Pnt)) (l : List (Sl Int)) : Int := (l.map fun s => lenS m s.l).sum

theorem lenTot_snoc (m : List (Int × Pnt)) (l : List (Sl Int)) (s : Sl Int) : lenTot m (l ++ [s]) = lenTot m l + lenS m s.l := by simp [lenTot]
theorem lenTot_le {m : List (Int × Pnt)} (hm : Small m) : ∀ l : List (Sl Int), (∀ s ∈ l, s.l.length ≤ 1000000000) → 0 ≤ lenTot m l ∧ lenTot m l ≤ 4000000000000000 * l.length
  | [], _ => by simp [lenTot]
  | s :: l, h => by
    have h1 := lenTot_le hm l fun x hx => h x (List.mem_cons_of_mem _ hx)
    have h2 := lenS_le hm s.l
    have h3 := h s List.mem_cons_self
    simp only [lenTot, List.map_cons, List.sum_cons, List.length_cons] at h1 ⊢
    omega
theorem lenS_nil : ∀ l : List Int, lenS [] l = 0
  | [] => rfl
  | [_] => rfl
  | a :: b :: l => by simp only [lenS, lenS_nil (b :: l)]; simp [atOf, dist]
theorem lenTot_nil (l : List (Sl Int)) : lenTot [] l = 0 := by
  induction l with
  | nil => rfl
  | cons s l ih => simp only [lenTot, List.map_cons, List.sum_cons, lenS_nil] at ih ⊢; omega

theorem Length_loop {Q : AX → St → Prop} (m : List (Int × Pnt)) (hm : Small m) (chs : Sl (Sl Int)) (hl : chs.l.length ≤ 1000000000) (hs : ∀ s ∈ chs.l, s.l.length ≤ 1000000000) (hb : m = [] ∨ chs.l.length ≤ 64) (e : Int)
    (h0 : Q (.exit 0) ⟨[(8, .t (.mp (atM m))), (9, .t (tI e)), (10, .t (tI (lenTot m chs.l))), (20, .t (tChs chs)), (21, .t (tI chs.l.length)), (22, .t (tI chs.l.length)), (23, .t (tB false))], []⟩) : ∀ (kk i : Nat), kk + i = chs.l.length →
    run Tryd.prog Γ scans_Length_l1 Q ⟨[(8, .t (.mp (atM m))), (9, .t (tI e)), (10, .t (tI (lenTot m (chs.l.take i)))), (20, .t (tChs chs)), (21, .t (tI chs.l.length)), (22, .t (tI i))], []⟩
  | 0, i, h => by
    refine scans_Length_l1_run fun K hK => ?_
    have h2 : ¬ i < chs.l.length := by omega
    have h3 : i = chs.l.length := by omega
    simp [h2]
    subst h3
    simpa using h0
  | kk + 1, i, h => by
    refine scans_Length_l1_run fun K hK => ?_
    have h2 : i < chs.l.length := by omega
    have hsl := hs _ (List.getElem_mem h2)
    have ht : chs.l.take (i + 1) = chs.l.take i ++ [chs.l[i]] := by rw [List.take_add_one]; simp [h2]
    have hsn := lenTot_snoc m (chs.l.take i) chs.l[i]
    rw [← ht] at hsn
    have b1 := lenS_le hm chs.l[i].l
    have b2 := lenTot_le hm (chs.l.take i) fun s hs' => hs s (List.mem_of_mem_take hs')
    have b3 : (chs.l.take i).length = i := by simp; omega
    have b4 : 0 ≤ lenTot m (chs.l.take i) + lenS m chs.l[i].l ∧ lenTot m (chs.l.take i) + lenS m chs.l[i].l ≤ 4611686018427387904 := by
      rcases hb with rfl | hb
      · rw [lenS_nil, lenTot_nil]; omega
      · omega
    have e1 := length_spec (Γ := Γ) m hm chs.l[i].l chs.l[i].cap chs.l[i].nl hsl
    have ih := Length_loop m hm chs hl hs hb e h0 kk (i + 1) (by omega)
    rw [hsn] at ih
    simp (disch := omega) [h2, tChs, enc1_len, enc1_get Sl.d, enc1_wid, tSl]
    refine callK_fresh e1 rfl ?_
    simp (disch := omega) [wrap_i64]
    rw [hK]
    simpa [tChs] using ih

theorem placedM_small (c : Cir) (chs : List (Sl Int)) (at' : List Pnt) : Small (placedM c chs at') := by
  unfold placedM
  split
  · rename_i h
    intro p hp
    have hb : ptBad p.2 = false := by
      unfold placedErr at h
      split at h
      · rename_i h'; exact absurd h h'
      split at h
      · cases h
      split at h
      · cases h
      rename_i h3
      have h4 : at'.any ptBad = false := by simpa using h3
      have h5 := List.any_eq_false.1 h4 p.2 (List.of_mem_zip hp).2
      simpa using h5
    simp only [ptBad, decide_eq_false_iff_not, not_or, Int.not_lt] at hb
    omega
  · intro p hp; cases hp

theorem checkErr_len {c : Cir} {chs : List (Sl Int)} (h : checkErr c chs = 0) : chs.length ≤ 64 := by
  unfold checkErr at h
  split at h
  · rename_i h'; exact absurd h h'
  split at h
  · cases h
  omega
theorem placedM_len (c : Cir) (chs : List (Sl Int)) (at' : List Pnt) : placedM c chs at' = [] ∨ chs.length ≤ 64 := by
  unfold placedM
  split
  · rename_i h
    right
    unfold placedErr at h
    split at h
    · rename_i h'; exact absurd h h'
    · rename_i h'; exact checkErr_len (by simpa using h')
  · exact .inl rfl

theorem Length_spec (hΓ : GOk Γ) (c : Cir) (hc : COk c) (chs : Sl (Sl Int)) (hl : chs.l.length ≤ 1000000000) (hs : ∀ s ∈ chs.l, s.l.length ≤ 1000000000) (at' : Sl Pnt) (ha : at'.l.length ≤ 1000000000) :
    FreshCalls Tryd.prog Γ 21 [.agg (tC c), tChs chs, tPts at'] (.tup [tI (if placedErr c chs.l at'.l = 0 then lenTot (placedM c chs.l at'.l) chs.l else 0), tI (placedErr c chs.l at'.l)]) := by
  refine run_freshQ scans_Length_chk rfl ?_
  simp [scans_Length_ic, tC, tNodes, tNames, tMems, tSl]
  refine callK_pure (placed_spec hΓ c hc chs hl hs at' ha) rfl ?_
  simp
  simp [tChs, enc1_len]
  refine Length_loop (placedM c chs.l at'.l) (placedM_small _ _ _) chs hl hs (placedM_len _ _ _) (placedErr c chs.l at'.l) ?_ chs.l.length 0 (by omega)
  by_cases h : placedErr c chs.l at'.l = 0 <;> simp [h, scans_Length_rv]
end Go.Lg
