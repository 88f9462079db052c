/- Circuits from plain data: name and gate. Conditions: none. -/
import Derived.Test.YtgnghiijbegacaaDoorPkD
import Derived.Test.YtgnghiijbegacaaDoorPkC
import Derived.Test.YtgnghiijbegacaaDoorRows
import Derived.Test.YtgnghiijbegacaaDoorCards
import Derived.Test.YtgnghiijbegacaaDoorTie
import Derived.ProofKit
import Derived.Deep.DeepHandedRow
import Derived.SevenTiedAt
import Derived.Test.YtgnghiijbegacaaDoorProg
import Derived.KernelRfl
set_option linter.unusedSimpArgs false
set_option linter.unusedVariables false
set_option maxRecDepth 100000
namespace Go.Lg
open Go Go.Proofs
variable {Γ : Tables}

structure Gd where
  k : Int
  a : Int
  b : Int
  d : Int
def tGd (g : Gd) : List T := [tK g.k, tK g.a, tK g.b, tK g.d]
structure CD where
  i : Int
  f : Int
  d0 : Int
  d1 : Int
  bus : Bool
  mem : Bool
  p0 : Int
  p1 : Int
  p2 : Int
  p3 : Int
  gates : Sl Gd
  outs : Sl Int
def tCD (x : CD) : List T := [tK x.i, tK x.f, tK x.d0, tK x.d1, tB x.bus, tB x.mem, tK x.p0, tK x.p1, tK x.p2, tK x.p3, .sl (encN tGd x.gates.l) x.gates.cap x.gates.nl, .sl (enc1 tK x.outs.l) x.outs.cap x.outs.nl]

def Byt (n : Int) : Prop := 0 ≤ n ∧ n ≤ 255
def GdOk (g : Gd) : Prop := Byt g.k ∧ Byt g.a ∧ Byt g.b ∧ Byt g.d

def nameL (i : Nat) : List UInt8 := [110, UInt8.ofNat (48 + i / 10), UInt8.ofNat (48 + i % 10)]

theorem name_spec (i : Nat) (hi : i < 100) : FreshCalls Tryd.prog Γ 40 [tI i] (tS (nameL i)) := by
  refine run_freshQ law03_name_chk rfl ?_
  have h1 : (i : Int).tdiv 10 = ((i / 10 : Nat) : Int) := by rw [Int.tdiv_eq_ediv_of_nonneg (by omega)]; omega
  have h2 : (i : Int).tmod 10 = ((i % 10 : Nat) : Int) := by rw [Int.tmod_eq_emod_of_nonneg (by omega)]; omega
  have h3 : i / 10 < 10 := by omega
  have h4 : i % 10 < 10 := by omega
  generalize hq : i / 10 = q at *
  generalize hr : i % 10 = r at *
  have e1 : (48 + (q : Int)).toNat = 48 + q := by omega
  have e2 : (48 + (r : Int)).toNat = 48 + r := by omega
  simp (disch := omega) [law03_name_ic, sV, h1, h2, wrap_i64, wrap_u8, bytesOf]
  simp [law03_name_rv, nameL, hq, hr, tS, sV, e1, e2]

def triL (nodes : List Nd) : List Int := ofL [12] nodes 0
def gateT (bus : Bool) (g : Gd) (a b d : Int) (t : List Int) : Nd :=
  let kind := if bus then g.k.tmod 13 else g.k.tmod 9
  if kind < 6 then ⟨5 + kind, if 128 ≤ g.k then ⟨[a, b, d], none, none⟩ else ⟨[a, b], none, none⟩, 0, 0⟩
  else if kind = 6 then ⟨4, ⟨[a], none, none⟩, 0, 0⟩
  else if kind = 7 then ⟨11, ⟨[a, b, d], none, none⟩, 0, 0⟩
  else if kind = 9 ∨ kind = 10 then ⟨12, ⟨[a, b], none, none⟩, 0, 0⟩
  else if 10 < kind ∧ 0 < t.length then
    let k := g.a.tmod t.length
    ⟨13, if 1 < t.length then ⟨[t.getD k.toNat 0, t.getD ((k + 1).tmod t.length).toNat 0], none, none⟩ else ⟨[t.getD k.toNat 0], none, none⟩, 0, 0⟩
  else if 240 < g.k then ⟨1 + g.a.tmod 2, ⟨[], some 0, some true⟩, 0, 0⟩
  else ⟨3, ⟨[a], none, none⟩, 0, 0⟩

def gateN (bus : Bool) (g : Gd) (nodes : List Nd) : Nd := gateT bus g (g.a.tmod nodes.length) (g.b.tmod nodes.length) (g.d.tmod nodes.length) (triL nodes)

theorem gate_loop {Q : AX → St → Prop} (nodes : List Nd) (cap : Option Nat) (nl : Option Bool) (hl : nodes.length ≤ 100) (a3 a4 a8 a9 a10 : T) (r6 : List T)
    (h0 : Q (.exit 0) ⟨[(2, .t (.sl (encN tNd nodes) cap nl)), (3, .t a3), (4, .t a4), (6, .lp 6 0 0), (7, .t (tI nodes.length)), (8, .t a8), (9, .t a9), (10, .t a10), (11, .ls 51 0 (triL nodes).length none), (12, .t (tI nodes.length)), (39, .t (tB false))], [(6, .bx (r6.map AV.t)), (51, .sl 3 1 (ints (triL nodes)))]⟩) : ∀ (k i : Nat), k + i = nodes.length →
    run Tryd.prog Γ law03_C_gate_l1 Q ⟨[(2, .t (.sl (encN tNd nodes) cap nl)), (3, .t a3), (4, .t a4), (6, .lp 6 0 0), (7, .t (tI nodes.length)), (8, .t a8), (9, .t a9), (10, .t a10), (11, .ls 51 0 (triL (nodes.take i)).length none), (12, .t (tI i))], [(6, .bx (r6.map AV.t)), (51, .sl 3 1 (ints (triL (nodes.take i))))]⟩
  | 0, i, h => by
    refine law03_C_gate_l1_run fun K hK => ?_
    have h2 : ¬ i < nodes.length := by omega
    have h3 : i = nodes.length := by omega
    simp [h2]
    subst h3
    simpa using h0
  | k + 1, i, h => by
    refine law03_C_gate_l1_run fun K hK => ?_
    have h2 : i < nodes.length := by omega
    have ht : nodes.take (i + 1) = nodes.take i ++ [nodes[i]] := by rw [List.take_add_one]; simp [h2]
    have hlen := ofL_len [12] (nodes.take i) 0
    have htl : (nodes.take i).length = i := by simp; omega
    have hal : triL (nodes.take (i + 1)) = if nodes[i].k = 12 then triL (nodes.take i) ++ [(i : Int)] else triL (nodes.take i) := by
      simp only [triL]
      rw [ht, ofL_app, htl]
      simp only [ofL, Nat.zero_add, List.contains_cons, List.contains_nil, Bool.or_false, int_beq, decide_eq_true_eq]
      split <;> simp
    have ih := gate_loop nodes cap nl hl a3 a4 a8 a9 a10 r6 h0 k (i + 1) (by omega)
    rw [hal] at ih
    simp only [triL] at ih ⊢
    by_cases h5 : nodes[i].k = 12
    · rw [if_pos h5] at ih
      have hw : wid 1 [[tI (i : Int)]] := by intro e he; simp at he; subst he; rfl
      simp (disch := omega) [h2, encN_len, encN_get Nd.d, tNd_wid, tNd, tSl, h5, wrap_i64, enc1_len, enc1_wid, hw]
      rw [hK]
      simp at ih
      rw [enc1_snoc (f := tI) (x := (i : Int))]
      exact ⟨by omega, ih⟩
    · rw [if_neg h5] at ih
      simp (disch := omega) [h2, encN_len, encN_get Nd.d, tNd_wid, tNd, tSl, h5, wrap_i64]
      rw [hK]
      simpa using ih

theorem tmod_lt {a : Int} {n : Nat} (h0 : 0 ≤ a) (h1 : 0 < n) : 0 ≤ a.tmod n ∧ a.tmod n < n := by
  rw [Int.tmod_eq_emod_of_nonneg h0]
  exact ⟨Int.emod_nonneg _ (by omega), Int.emod_lt_of_pos _ (by omega)⟩

theorem flatReg_sl {ty s : Nat} {es : List (List T)} : flatReg (.sl ty s es) = ∀ e ∈ es, ∀ t ∈ e, flatT t = true := rfl
set_option maxHeartbeats 4000000 in
theorem gate_spec (x : CD) (g : Gd) (hg : GdOk g) (nodes : List Nd) (cap : Option Nat) (nl : Option Bool) (h0 : 1 ≤ nodes.length) (h1 : nodes.length ≤ 100) :
    FreshCalls Tryd.prog Γ 39 [.agg (tCD x), .agg (tGd g), .sl (encN tNd nodes) cap nl] (.agg (tNd (gateN x.bus g nodes))) := by
  refine run_freshQ law03_C_gate_chk rfl ?_
  obtain ⟨⟨hk0, hk1⟩, ⟨ha0, ha1⟩, ⟨hb0, hb1⟩, ⟨hd0, hd1⟩⟩ := hg
  have hn0 : ¬ (nodes.length : Int) = 0 := by omega
  have hn1 : (nodes.length : Int) ≠ 0 := by omega
  have hne : ¬ nodes = [] := fun e => by subst e; simp at h0
  have hlp := fun Q a3 a4 a8 a9 a10 r6 h0 => gate_loop (Γ := Γ) (Q := Q) nodes cap nl h1 a3 a4 a8 a9 a10 r6 h0 nodes.length 0 (by omega)
  have ht := ofL_len [12] nodes 0
  simp only [triL, List.take_zero, ofL, List.length_nil, enc1_nil] at hlp
  simp (disch := omega) [law03_C_gate_ic, tCD, tGd, encN_len, wrap_i64, hn0]
  refine ⟨hne, hlp _ _ _ _ _ _ [_, _, _, _] ?_⟩
  clear hlp
  unfold gateN
  simp only [triL]
  generalize ofL [12] nodes 0 = t at *
  have m13 : 0 ≤ g.k.tmod 13 ∧ g.k.tmod 13 < 13 := tmod_lt (n := 13) hk0 (by omega)
  have m9 : 0 ≤ g.k.tmod 9 ∧ g.k.tmod 9 < 9 := tmod_lt (n := 9) hk0 (by omega)
  have ma : 0 ≤ g.a.tmod 2 ∧ g.a.tmod 2 < 2 := tmod_lt (n := 2) ha0 (by omega)
  generalize g.a.tmod nodes.length = a
  generalize g.b.tmod nodes.length = b
  generalize g.d.tmod nodes.length = d
  unfold gateT
  cases x.bus
  · generalize hkk : g.k.tmod 9 = kk at *
    by_cases k1 : kk < 6
    · by_cases k2 : 128 ≤ g.k
      · simp (disch := omega) [hkk, k1, k2, wrap_i64, wrap_u8, Later, law03_C_gate_rv, tNd, tSl, enc1, wid, reify, flatReg_sl]
      · simp (disch := omega) [hkk, k1, k2, wrap_i64, wrap_u8, Later, law03_C_gate_rv, tNd, tSl, enc1, wid, reify, flatReg_sl]
    by_cases k3 : kk = 6
    · simp (disch := omega) [hkk, k1, k3, wrap_i64, wrap_u8, Later, law03_C_gate_rv, tNd, tSl, enc1, wid, reify, flatReg_sl]
    by_cases k4 : kk = 7
    · simp (disch := omega) [hkk, k1, k4, wrap_i64, wrap_u8, Later, law03_C_gate_rv, tNd, tSl, enc1, wid, reify, flatReg_sl]
    have k5 : kk = 8 := by omega
    by_cases k6 : 240 < g.k
    · simp (disch := omega) [hkk, k5, k6, wrap_i64, wrap_u8, Later, law03_C_gate_rv, tNd, tSl, enc1, wid, reify, flatReg_sl]
    · simp (disch := omega) [hkk, k5, k6, wrap_i64, wrap_u8, Later, law03_C_gate_rv, tNd, tSl, enc1, wid, reify, flatReg_sl]
  · generalize hkk : g.k.tmod 13 = kk at *
    by_cases k1 : kk < 6
    · by_cases k2 : 128 ≤ g.k
      · simp (disch := omega) [hkk, k1, k2, wrap_i64, wrap_u8, Later, law03_C_gate_rv, tNd, tSl, enc1, wid, reify, flatReg_sl]
      · simp (disch := omega) [hkk, k1, k2, wrap_i64, wrap_u8, Later, law03_C_gate_rv, tNd, tSl, enc1, wid, reify, flatReg_sl]
    by_cases k3 : kk = 6
    · simp (disch := omega) [hkk, k1, k3, wrap_i64, wrap_u8, Later, law03_C_gate_rv, tNd, tSl, enc1, wid, reify, flatReg_sl]
    by_cases k4 : kk = 7
    · simp (disch := omega) [hkk, k1, k4, wrap_i64, wrap_u8, Later, law03_C_gate_rv, tNd, tSl, enc1, wid, reify, flatReg_sl]
    by_cases k8 : kk = 9
    · simp (disch := omega) [hkk, k8, wrap_i64, wrap_u8, Later, law03_C_gate_rv, tNd, tSl, enc1, wid, reify, flatReg_sl]
    by_cases k9 : kk = 10
    · simp (disch := omega) [hkk, k9, wrap_i64, wrap_u8, Later, law03_C_gate_rv, tNd, tSl, enc1, wid, reify, flatReg_sl]
    by_cases k10 : 10 < kk ∧ 0 < t.length
    · obtain ⟨k11, k10⟩ := k10
      have htn : ¬ (t.length : Int) = 0 := by omega
      have htne : ¬ t = [] := fun e => by subst e; simp at k10
      have htp : (0 : Int) < t.length := by omega
      have mt := tmod_lt (n := t.length) ha0 k10
      generalize hq : g.a.tmod t.length = q at *
      have mt2 := tmod_lt (a := q + 1) (n := t.length) (by omega) k10
      have hq0 : q.toNat < t.length := by omega
      generalize hq2 : (q + 1).tmod t.length = q2 at *
      have hq20 : q2.toNat < t.length := by omega
      have e1 := enc1_get (f := tI) 0 hq0
      have e2 := enc1_get (f := tI) 0 hq20
      by_cases k12 : 1 < t.length
      · have k12' : (1 : Int) < t.length := by omega
        simp (disch := omega) [hkk, k1, k3, k4, k8, k9, k11, k10, htp, htn, k12, k12', hq, hq2, e1, e2, hq0, hq20, mt.1, mt.2, mt2.1, mt2.2, htne, enc1_len, enc1_wid, wrap_i64, wrap_u8, Later, tNd, tSl, reify, flatReg_sl, law03_C_gate_rv]
        simp [wid, enc1]
      · have k12' : ¬ (1 : Int) < t.length := by omega
        simp (disch := omega) [hkk, k1, k3, k4, k8, k9, k11, k10, htp, htn, k12, k12', hq, hq2, e1, e2, hq0, hq20, mt.1, mt.2, mt2.1, mt2.2, htne, enc1_len, enc1_wid, wrap_i64, wrap_u8, Later, tNd, tSl, reify, flatReg_sl, law03_C_gate_rv]
        simp [wid, enc1]
    · by_cases k11 : 10 < kk
      · have k10' : t = [] := List.eq_nil_of_length_eq_zero (by omega)
        subst k10'
        by_cases k6 : 240 < g.k
        · simp (disch := omega) [hkk, k1, k3, k4, k8, k9, k11, k6, wrap_i64, wrap_u8, Later, law03_C_gate_rv, tNd, tSl, enc1, wid, reify, flatReg_sl]
        · simp (disch := omega) [hkk, k1, k3, k4, k8, k9, k11, k6, wrap_i64, wrap_u8, Later, law03_C_gate_rv, tNd, tSl, enc1, wid, reify, flatReg_sl]
      · have k5 : kk = 8 := by omega
        by_cases k6 : 240 < g.k
        · simp (disch := omega) [hkk, k5, k6, wrap_i64, wrap_u8, Later, law03_C_gate_rv, tNd, tSl, enc1, wid, reify, flatReg_sl]
        · simp (disch := omega) [hkk, k5, k6, wrap_i64, wrap_u8, Later, law03_C_gate_rv, tNd, tSl, enc1, wid, reify, flatReg_sl]
end Go.Lg

/- Circuits from plain data: Of. Conditions: none. -/
set_option linter.unusedSimpArgs false
set_option linter.unusedVariables false
set_option maxRecDepth 100000
namespace Go.Lg
open Go Go.Proofs
variable {Γ : Tables}

def tNil : T := .sl [] (some 0) (some true)
def hpO (nodes : List Nd) (names : List (List UInt8)) (m : T) (outs : List Int) : List (Nat × Reg) :=
  [(2, .bx [.t tNil, .t tNil, .t tNil, .t tNil]), (3, .bx [.ls 25 0 nodes.length none, .ls 144 0 names.length none, .t m, .ls 168 0 outs.length none]), (25, .sl 48 4 (encN tNd nodes)), (144, .sl 9 1 (enc1 tS names)), (168, .sl 3 1 (ints outs))]

def inpN : Nd := ⟨0, ⟨[], some 0, some true⟩, 0, 0⟩
def dffN (l : Int) : Nd := ⟨14, ⟨[l], some 1, some false⟩, 0, 0⟩
def memN (b : Int) : Nd := ⟨15, ⟨[], some 0, some true⟩, 0, b⟩

theorem of_inputs {Q : AX → St → Prop} (x : CD) (hx : Byt x.i) (R : List Nd)
    (h0 : Q (.exit 0) ⟨[(1, .t (.ip (tCD x) 0)), (2, .lp 2 0 0), (3, .lp 3 0 0), (4, .t (tI (x.i.tmod 4 + 1))), (18, .t (tB false))], hpO R [] tNil []⟩) : ∀ (k : Nat) (i : Int) (ns : List Nd), k + i = x.i.tmod 4 + 1 → ns ++ List.replicate k inpN = R → ns.length + k ≤ 100 →
    run Tryd.prog Γ law03_C_Of_l1 Q ⟨[(1, .t (.ip (tCD x) 0)), (2, .lp 2 0 0), (3, .lp 3 0 0), (4, .t (tI i))], hpO ns [] tNil []⟩
  | 0, i, ns, h, hR, hl => by
    refine law03_C_Of_l1_run fun K hK => ?_
    have m4 : 0 ≤ x.i.tmod 4 ∧ x.i.tmod 4 < 4 := tmod_lt (n := 4) hx.1 (by omega)
    have h2 : ¬ i ≤ x.i.tmod 4 := by omega
    have h3 : i = x.i.tmod 4 + 1 := by omega
    simp only [List.replicate_zero, List.append_nil] at hR
    subst hR
    simp (disch := omega) [h2, tCD, hpO, wrap_i64, wrap_u8]
    subst h3
    simpa [tCD, hpO] using h0
  | k + 1, i, ns, h, hR, hl => by
    refine law03_C_Of_l1_run fun K hK => ?_
    have m4 : 0 ≤ x.i.tmod 4 ∧ x.i.tmod 4 < 4 := tmod_lt (n := 4) hx.1 (by omega)
    have h2 : i ≤ x.i.tmod 4 := by omega
    have ih := of_inputs x hx R h0 k (i + 1) (ns ++ [inpN]) (by omega) (by rw [← hR]; simp [List.replicate_succ]) (by simp; omega)
    have q : encN tNd ns ++ [[tK 0, .sl [] (some 0) (some true), tI 0, tI 0]] = encN tNd (ns ++ [inpN]) := encN_snoc (f := tNd) (x := inpN)
    have hw4 : wid 4 [[tK 0, .sl [] (some 0) (some true), tI 0, tI 0]] := by intro e he; simp at he; subst he; rfl
    have ht : (encN tNd ns).take ns.length = encN tNd ns := List.take_of_length_le (by simp [encN])
    simp (disch := omega) [h2, tCD, hpO, wrap_i64, wrap_u8, encN_len, hw4, tNd_wid, ht, q]
    rw [hK]
    simp [tCD, hpO] at ih
    exact ⟨by omega, ih⟩

theorem of_dffs {Q : AX → St → Prop} (x : CD) (hx : Byt x.f) (first : Int) (R : List Nd)
    (h0 : Q (.exit 2) ⟨[(1, .t (.ip (tCD x) 0)), (2, .lp 2 0 0), (3, .lp 3 0 0), (5, .t (tI first)), (6, .t (tI (x.f.tmod 3))), (7, .t (tI (x.f.tmod 3))), (36, .t (tB false))], hpO R [] tNil []⟩) : ∀ (k : Nat) (i : Int) (ns : List Nd), k + i = x.f.tmod 3 → ns ++ List.replicate k (dffN 0) = R → ns.length + k ≤ 100 →
    run Tryd.prog Γ law03_C_Of_l3 Q ⟨[(1, .t (.ip (tCD x) 0)), (2, .lp 2 0 0), (3, .lp 3 0 0), (5, .t (tI first)), (6, .t (tI (x.f.tmod 3))), (7, .t (tI i))], hpO ns [] tNil []⟩
  | 0, i, ns, h, hR, hl => by
    refine law03_C_Of_l3_run fun K hK => ?_
    have m3 : 0 ≤ x.f.tmod 3 ∧ x.f.tmod 3 < 3 := tmod_lt (n := 3) hx.1 (by omega)
    have h2 : ¬ i < x.f.tmod 3 := by omega
    have h3 : i = x.f.tmod 3 := by omega
    simp only [List.replicate_zero, List.append_nil] at hR
    subst hR
    simp (disch := omega) [h2, tCD, hpO, wrap_i64, wrap_u8]
    subst h3
    simpa [tCD, hpO] using h0
  | k + 1, i, ns, h, hR, hl => by
    refine law03_C_Of_l3_run fun K hK => ?_
    have m3 : 0 ≤ x.f.tmod 3 ∧ x.f.tmod 3 < 3 := tmod_lt (n := 3) hx.1 (by omega)
    have h2 : i < x.f.tmod 3 := by omega
    have ih := of_dffs x hx first R h0 k (i + 1) (ns ++ [dffN 0]) (by omega) (by rw [← hR]; simp [List.replicate_succ]) (by simp; omega)
    have q : encN tNd ns ++ [[tK 14, .sl [[tI 0]] (some 1) (some false), tI 0, tI 0]] = encN tNd (ns ++ [dffN 0]) := encN_snoc (f := tNd) (x := dffN 0)
    have hw4 : wid 4 [[tK 14, .sl [[tI 0]] (some 1) (some false), tI 0, tI 0]] := by intro e he; simp at he; subst he; rfl
    have ht : (encN tNd ns).take ns.length = encN tNd ns := List.take_of_length_le (by simp [encN])
    simp (disch := omega) [h2, tCD, hpO, wrap_i64, wrap_u8, encN_len, hw4, tNd_wid, ht, q]
    rw [hK]
    simp [tCD, hpO] at ih
    exact ⟨by omega, ih⟩

def gatesN (bus : Bool) : List Gd → List Nd → List Nd
  | [], ns => ns
  | g :: l, ns => gatesN bus l (ns ++ [gateN bus g ns])

theorem tGd_wid {l : List Gd} : wid 4 (encN tGd l) := encN_wid fun _ => rfl
def Gd.z : Gd := ⟨0, 0, 0, 0⟩

theorem of_gates {Q : AX → St → Prop} (x : CD) (hx : ∀ g ∈ x.gates.l, GdOk g) (first dffs : Int) (R : List Nd)
    (h0 : Q (.exit 4) ⟨[(1, .t (.ip (tCD x) 0)), (2, .lp 2 0 0), (3, .lp 3 0 0), (5, .t (tI first)), (6, .t (tI dffs)), (8, .t (tI (min x.gates.l.length 8 : Nat))), (63, .t (tB false))], hpO R [] tNil []⟩) : ∀ (k i : Nat) (ns : List Nd), k + i = min x.gates.l.length 8 → gatesN x.bus ((x.gates.l.take 8).drop i) ns = R → 1 ≤ ns.length → ns.length + k ≤ 100 →
    run Tryd.prog Γ law03_C_Of_l5 Q ⟨[(1, .t (.ip (tCD x) 0)), (2, .lp 2 0 0), (3, .lp 3 0 0), (5, .t (tI first)), (6, .t (tI dffs)), (8, .t (tI i))], hpO ns [] tNil []⟩
  | 0, i, ns, h, hR, hl1, hl => by
    refine law03_C_Of_l5_run fun K hK => ?_
    rw [List.drop_of_length_le (by simp; omega)] at hR
    simp only [gatesN] at hR
    subst hR
    have hi : i = min x.gates.l.length 8 := by omega
    by_cases h2 : i < x.gates.l.length
    · have h3 : ¬ (i : Int) < 8 := by omega
      have h3' : ¬ i < 8 := by omega
      simp (disch := omega) [h2, h3, h3', tCD, hpO, encN_len]
      subst hi
      simpa [tCD, hpO] using h0
    · simp (disch := omega) [h2, tCD, hpO, encN_len]
      subst hi
      simpa [tCD, hpO] using h0
  | k + 1, i, ns, h, hR, hl1, hl => by
    refine law03_C_Of_l5_run fun K hK => ?_
    have h2 : i < x.gates.l.length := by omega
    have h3 : i < 8 := by omega
    have h3' : (i : Int) < 8 := by omega
    rw [List.drop_eq_getElem_cons (by simp; omega)] at hR
    simp only [gatesN, List.getElem_take] at hR
    have ih := of_gates x hx first dffs R h0 k (i + 1) (ns ++ [gateN x.bus x.gates.l[i] ns]) (by omega) hR (by simp) (by simp; omega)
    have hg := gate_spec (Γ := Γ) x x.gates.l[i] (hx _ (List.getElem_mem h2)) ns none none hl1 (by omega)
    generalize gateN x.bus x.gates.l[i] ns = gn at *
    have q : encN tNd ns ++ [tNd gn] = encN tNd (ns ++ [gn]) := encN_snoc (f := tNd) (x := gn)
    have hw4 : wid 4 [tNd gn] := by intro e he; simp at he; subst he; rfl
    have ht : (encN tNd ns).take ns.length = encN tNd ns := List.take_of_length_le (by simp [encN])
    have hget := encN_get (f := tGd) Gd.z h2
    simp (disch := omega) [h2, h3, h3', tCD, hpO, wrap_i64, encN_len, hget, tGd_wid, tGd]
    refine callK_fresh hg (by simp [reify, tCD, ht, tGd]) ?_
    simp [tNd] at q hw4
    simp (disch := omega) [tNd, wrap_i64, encN_len, hw4, tNd_wid, ht, q]
    rw [hK]
    simp [tCD, hpO] at ih
    exact ⟨rfl, by omega, ih⟩

def ddN (x : CD) (i : Nat) : Int := if i = 0 then x.d0 else x.d1
def setIn (ns : List Nd) (j : Nat) (v : Int) : List Nd := ns.set j ⟨(ns.getD j Nd.d).k, ⟨[v], some 1, some false⟩, (ns.getD j Nd.d).mem, (ns.getD j Nd.d).bit⟩
def dataN (x : CD) (first : Nat) : Nat → Nat → List Nd → List Nd
  | 0, _, ns => ns
  | k + 1, i, ns => dataN x first k (i + 1) (setIn ns (first + i) ((ddN x i).tmod ns.length))
theorem setIn_len {ns : List Nd} {j : Nat} {v : Int} : (setIn ns j v).length = ns.length := by simp [setIn]
theorem dataN_len {x : CD} {f : Nat} : ∀ {k i : Nat} {ns : List Nd}, (dataN x f k i ns).length = ns.length
  | 0, _, _ => rfl
  | k + 1, i, ns => by simp only [dataN]; rw [dataN_len, setIn_len]

theorem set_in {ns : List Nd} {j : Nat} {v : Int} (hj : j < ns.length) : (encN tNd ns).set j (((encN tNd ns)[j]?.getD []).take 1 ++ T.sl [[tI v]] (some 1) (some false) :: ((encN tNd ns)[j]?.getD []).drop 2) = encN tNd (setIn ns j v) := by
  rw [encN_get (f := tNd) Nd.d hj]
  unfold setIn encN
  rw [List.map_set]
  rfl

theorem of_data {Q : AX → St → Prop} (x : CD) (h0' : Byt x.d0) (h1' : Byt x.d1) (first dn n : Nat) (hdn : dn ≤ 2) (hn : 1 ≤ n ∧ n ≤ 100) (hf : first + dn ≤ n) (R : List Nd)
    (h0 : Q (.exit 6) ⟨[(1, .t (.ip (tCD x) 0)), (2, .lp 2 0 0), (3, .lp 3 0 0), (5, .t (tI first)), (6, .t (tI dn)), (9, .t (tI n)), (10, .t (tI dn)), (85, .t (tB false))], hpO R [] tNil []⟩) : ∀ (k i : Nat) (ns : List Nd), k + i = dn → dataN x first k i ns = R → ns.length = n →
    run Tryd.prog Γ law03_C_Of_l7 Q ⟨[(1, .t (.ip (tCD x) 0)), (2, .lp 2 0 0), (3, .lp 3 0 0), (5, .t (tI first)), (6, .t (tI dn)), (9, .t (tI n)), (10, .t (tI i))], hpO ns [] tNil []⟩
  | 0, i, ns, h, hR, hl => by
    refine law03_C_Of_l7_run fun K hK => ?_
    simp only [dataN] at hR
    subst hR
    have h2 : ¬ i < dn := by omega
    have h3 : i = dn := by omega
    simp (disch := omega) [h2, tCD, hpO]
    subst h3
    simpa [tCD, hpO] using h0
  | k + 1, i, ns, h, hR, hl => by
    refine law03_C_Of_l7_run fun K hK => ?_
    have h2 : i < dn := by omega
    simp only [dataN] at hR
    have ih := of_data x h0' h1' first dn n hdn hn hf R h0 k (i + 1) _ (by omega) hR (by rw [setIn_len]; exact hl)
    have hi : i = 0 ∨ i = 1 := by omega
    have hj : first + i < ns.length := by omega
    have hn0 : ¬ (n : Int) = 0 := by omega
    have hget := encN_get (f := tNd) Nd.d hj
    obtain ⟨h01, h02⟩ := h0'
    obtain ⟨h11, h12⟩ := h1'
    have hs := fun v => set_in (v := v) hj
    have hn' : ¬ n = 0 := by omega
    have hfi : first + i < n := by omega
    rcases hi with rfl | rfl
    · have hdd : ddN x 0 = x.d0 := rfl
      have h2' : (0 : Int) < dn := by omega
      rw [hdd, hl] at ih
      simp only [Nat.add_zero] at hs hfi ih
      simp (disch := omega) [h2, h2', tCD, hpO, wrap_i64, encN_len, tNd_wid, hn0, hl, hs, hn', hfi]
      rw [hK]
      simp [tCD, hpO, setIn_len, hl] at ih
      exact ih
    · have hdd : ddN x 1 = x.d1 := rfl
      have h2' : (1 : Int) < dn := by omega
      rw [hdd, hl] at ih
      have hfn : ((first : Int) + 1).toNat = first + 1 := by omega
      have hfi' : (first : Int) + 1 < n := by omega
      simp (disch := omega) [h2, h2', tCD, hpO, wrap_i64, encN_len, tNd_wid, hn0, hl, hs, hn', hfi, hfn, hfi']
      rw [hK]
      simp [tCD, hpO, setIn_len, hl] at ih
      exact ⟨by omega, ih⟩
theorem of_names {Q : AX → St → Prop} (x : CD) (n : Nat) (hn : n ≤ 100) (ns : List Nd) (m : T) (R : List (List UInt8))
    (h0 : Q (.exit 8) ⟨[(1, .t (.ip (tCD x) 0)), (2, .lp 2 0 0), (3, .lp 3 0 0), (9, .t (tI n)), (11, .t (tI n)), (136, .t (tB false))], hpO ns R m []⟩) : ∀ (k i : Nat) (nms : List (List UInt8)), k + i = n → nms ++ (List.range' i k).map nameL = R → nms.length = i →
    run Tryd.prog Γ law03_C_Of_l9 Q ⟨[(1, .t (.ip (tCD x) 0)), (2, .lp 2 0 0), (3, .lp 3 0 0), (9, .t (tI n)), (11, .t (tI i))], hpO ns nms m []⟩
  | 0, i, nms, h, hR, hl => by
    refine law03_C_Of_l9_run fun K hK => ?_
    simp only [List.range'_zero, List.map_nil, List.append_nil] at hR
    subst hR
    have h2 : ¬ i < n := by omega
    have h3 : i = n := by omega
    simp (disch := omega) [h2, tCD, hpO]
    subst h3
    simpa [tCD, hpO] using h0
  | k + 1, i, nms, h, hR, hl => by
    refine law03_C_Of_l9_run fun K hK => ?_
    have h2 : i < n := by omega
    rw [List.range'_succ, List.map_cons] at hR
    have ih := of_names x n hn ns m R h0 k (i + 1) (nms ++ [nameL i]) (by omega) (by rw [← hR]; simp) (by simp; omega)
    have e := name_spec (Γ := Γ) i (by omega)
    have q : enc1 tS nms ++ [[tS (nameL i)]] = enc1 tS (nms ++ [nameL i]) := enc1_snoc
    have ht : (enc1 tS nms).take i = enc1 tS nms := List.take_of_length_le (by simp [enc1]; omega)
    generalize nameL i = nm at *
    have hw : wid 1 [[tS nm]] := by intro e he; simp at he; subst he; rfl
    simp (disch := omega) [h2, tCD, hpO, wrap_i64, hl]
    refine callK_fresh e rfl ?_
    simp only [tS, sV] at q hw
    simp (disch := omega) [tS, sV, wrap_i64, enc1_len, hw, enc1_wid, ht, q, hl]
    rw [hK]
    simp [tCD, hpO, hl] at ih
    exact ⟨by omega, ih⟩

theorem of_outs {Q : AX → St → Prop} (x : CD) (hx : ∀ b ∈ x.outs.l, Byt b) (n : Nat) (hn : 1 ≤ n ∧ n ≤ 100) (ns : List Nd) (nms : List (List UInt8)) (m : T) (R : List Int)
    (h0 : Q (.exit 10) ⟨[(1, .t (.ip (tCD x) 0)), (2, .lp 2 0 0), (3, .lp 3 0 0), (9, .t (tI n)), (12, .t (tI (min x.outs.l.length 3 : Nat))), (154, .t (tB false))], hpO ns nms m R⟩) : ∀ (k i : Nat) (os : List Int), k + i = min x.outs.l.length 3 → os ++ ((x.outs.l.take 3).drop i).map (fun b => b.tmod n) = R → os.length = i →
    run Tryd.prog Γ law03_C_Of_l11 Q ⟨[(1, .t (.ip (tCD x) 0)), (2, .lp 2 0 0), (3, .lp 3 0 0), (9, .t (tI n)), (12, .t (tI i))], hpO ns nms m os⟩
  | 0, i, os, h, hR, hl => by
    refine law03_C_Of_l11_run fun K hK => ?_
    rw [List.drop_of_length_le (by simp; omega)] at hR
    simp only [List.map_nil, List.append_nil] at hR
    subst hR
    have hi : i = min x.outs.l.length 3 := by omega
    by_cases h2 : i < x.outs.l.length
    · have h3 : ¬ (i : Int) < 3 := by omega
      have h3' : ¬ i < 3 := by omega
      simp (disch := omega) [h2, h3, h3', tCD, hpO, enc1_len]
      subst hi
      simpa [tCD, hpO] using h0
    · simp (disch := omega) [h2, tCD, hpO, enc1_len]
      subst hi
      simpa [tCD, hpO] using h0
  | k + 1, i, os, h, hR, hl => by
    refine law03_C_Of_l11_run fun K hK => ?_
    have h2 : i < x.outs.l.length := by omega
    have h3 : i < 3 := by omega
    have h3' : (i : Int) < 3 := by omega
    rw [List.drop_eq_getElem_cons (by simp; omega)] at hR
    simp only [List.map_cons, List.getElem_take] at hR
    have hb := hx _ (List.getElem_mem h2)
    obtain ⟨hb0, hb1⟩ := hb
    have hget := enc1_get (f := tK) 0 h2
    have hg2 : x.outs.l[i]?.getD 0 = x.outs.l[i] := by simp [h2]
    rw [hg2] at hget
    generalize x.outs.l[i] = b at *
    have hn0 : ¬ (n : Int) = 0 := by omega
    have hn0' : ¬ n = 0 := by omega
    have ih := of_outs x hx n hn ns nms m R h0 k (i + 1) (os ++ [b.tmod n]) (by omega) (by rw [← hR]; simp) (by simp; omega)
    have q : enc1 tI os ++ [[tI (b.tmod n)]] = enc1 tI (os ++ [b.tmod n]) := enc1_snoc
    have ht : (enc1 tI os).take i = enc1 tI os := List.take_of_length_le (by simp [enc1]; omega)
    have hw : wid 1 [[tI (b.tmod n)]] := by intro e he; simp at he; subst he; rfl
    simp (disch := omega) [h2, h3, h3', tCD, hpO, wrap_i64, enc1_len, enc1_wid, hget, hn0, hn0', hw, ht, q, hl]
    rw [hK]
    simp [tCD, hpO, hl] at ih
    exact ⟨by omega, ih⟩

def nodes1 (x : CD) : List Nd := List.replicate (x.i.tmod 4 + 1).toNat inpN
def nodes2 (x : CD) : List Nd := nodes1 x ++ List.replicate (x.f.tmod 3).toNat (dffN 0)
def nodes3 (x : CD) : List Nd := if x.mem then nodes2 x ++ [memN 0, memN 1] else nodes2 x
def nodes4 (x : CD) : List Nd := gatesN x.bus (x.gates.l.take 8) (nodes3 x)
def nodes5 (x : CD) : List Nd := dataN x (nodes1 x).length (x.f.tmod 3).toNat 0 (nodes4 x)
def memM (x : CD) (n : Int) : List Mm := if x.mem then [⟨⟨[x.p0.tmod n], some 1, some false⟩, ⟨[x.p1.tmod n, x.p2.tmod n], some 2, some false⟩, x.p3.tmod n⟩] else []
def ofC (x : CD) : Cir :=
  ⟨⟨nodes5 x, none, none⟩, ⟨(List.range' 0 (nodes4 x).length).map nameL, none, none⟩, ⟨memM x (nodes4 x).length, some (if x.mem then 1 else 0), some (!x.mem)⟩, ⟨(x.outs.l.take 3).map (fun b => b.tmod (nodes4 x).length) ++ [((nodes4 x).length : Int) - 1], none, none⟩⟩

structure CDOk (x : CD) : Prop where
  i : Byt x.i
  f : Byt x.f
  d0 : Byt x.d0
  d1 : Byt x.d1
  p0 : Byt x.p0
  p1 : Byt x.p1
  p2 : Byt x.p2
  p3 : Byt x.p3
  gates : ∀ g ∈ x.gates.l, GdOk g
  outs : ∀ b ∈ x.outs.l, Byt b

theorem gatesN_len {bus : Bool} : ∀ {l : List Gd} {ns : List Nd}, (gatesN bus l ns).length = ns.length + l.length
  | [], ns => rfl
  | g :: l, ns => by simp only [gatesN]; rw [gatesN_len]; simp; omega

set_option maxHeartbeats 4000000 in
theorem Of_spec (x : CD) (hx : CDOk x) : PureCalls Tryd.prog Γ 12 [.agg (tCD x)] (.agg (tC (ofC x))) := by
  refine run_pureQ law03_C_Of_chk rfl ?_
  have m4 : 0 ≤ x.i.tmod 4 ∧ x.i.tmod 4 < 4 := tmod_lt (n := 4) hx.i.1 (by omega)
  have m3 : 0 ≤ x.f.tmod 3 ∧ x.f.tmod 3 < 3 := tmod_lt (n := 3) hx.f.1 (by omega)
  have l1 : (nodes1 x).length = (x.i.tmod 4 + 1).toNat := by simp [nodes1]
  have l2 : (nodes2 x).length = (x.i.tmod 4 + 1).toNat + (x.f.tmod 3).toNat := by simp [nodes2, nodes1]
  have l3 : (nodes2 x).length ≤ (nodes3 x).length ∧ (nodes3 x).length ≤ 8 := by unfold nodes3; split <;> simp <;> omega
  have l4 : (nodes4 x).length = (nodes3 x).length + min 8 x.gates.l.length := by unfold nodes4; rw [gatesN_len]; simp
  have l5 : (nodes5 x).length = (nodes4 x).length := dataN_len
  have e1 := fun Q h0 => of_inputs (Γ := Γ) (Q := Q) x hx.i (nodes1 x) h0 (x.i.tmod 4 + 1).toNat 0 [] (by omega) rfl (by simp; omega)
  have e2 := fun Q h0 => of_dffs (Γ := Γ) (Q := Q) x hx.f (nodes1 x).length (nodes2 x) h0 (x.f.tmod 3).toNat 0 (nodes1 x) (by omega) rfl (by omega)
  have e3 := fun Q h0 => of_gates (Γ := Γ) (Q := Q) x hx.gates (nodes1 x).length (x.f.tmod 3) (nodes4 x) h0 (min x.gates.l.length 8) 0 (nodes3 x) (by omega) rfl (by omega) (by omega)
  have e4 := fun Q h0 => of_data (Γ := Γ) (Q := Q) x hx.d0 hx.d1 (nodes1 x).length (x.f.tmod 3).toNat (nodes4 x).length (by omega) (by omega) (by omega) (nodes5 x) h0 (x.f.tmod 3).toNat 0 (nodes4 x) (by omega) rfl rfl
  have e5 := fun Q m h0 => of_names (Γ := Γ) (Q := Q) x (nodes4 x).length (by omega) (nodes5 x) m _ h0 (nodes4 x).length 0 [] (by omega) rfl rfl
  have e6 := fun Q nms m h0 => of_outs (Γ := Γ) (Q := Q) x hx.outs (nodes4 x).length (by omega) (nodes5 x) nms m _ h0 (min x.outs.l.length 3) 0 [] (by omega) rfl rfl
  have hc : ((x.f.tmod 3).toNat : Int) = x.f.tmod 3 := by omega
  rw [hc] at e4
  have hk1 := fun {s : Nat} {e : List (List T)} {n : Nat} (h : e.length ≤ n) => List.take_of_length_le h
  have a33 : ∀ {os : List Int}, enc1 tI os ++ [[tI (((nodes4 x).length : Int) - 1)]] = enc1 tI (os ++ [((nodes4 x).length : Int) - 1]) := enc1_snoc
  have hw1 : wid 1 [[tI (((nodes4 x).length : Int) - 1)]] := by intro e he; simp at he; subst he; rfl
  have hol : ((x.outs.l.take 3).map (fun b => b.tmod ((nodes4 x).length : Int))).length = min 3 x.outs.l.length := by simp
  have hnl : ((List.range' 0 (nodes4 x).length).map nameL).length = (nodes4 x).length := by simp
  simp only [List.nil_append, List.drop_zero] at e5 e6
  generalize hN : nodes4 x = N4 at *
  generalize hO : (x.outs.l.take 3).map (fun b => b.tmod (N4.length : Int)) = O at *
  generalize hNm : (List.range' 0 N4.length).map nameL = Nm at *
  simp (config := { maxSteps := 2000000 }) [law03_C_Of_ic, tCD]
  refine e1 _ ?_
  simp (config := { maxSteps := 2000000 }) (disch := omega) [tCD, hpO, wrap_i64, wrap_u8, encN_len]
  refine e2 _ ?_
  cases hm : x.mem
  · have h3 : nodes3 x = nodes2 x := by simp [nodes3, hm]
    rw [h3] at e3 l3 l4
    simp only [tCD, hpO, hm] at e3 e4 e5 e6
    simp (config := { maxSteps := 2000000 }) (disch := omega) [tCD, hpO, wrap_i64, wrap_u8, encN_len, enc1_len, encN_app, tNd_wid, enc1_wid, hm]
    refine e3 _ ?_
    simp (config := { maxSteps := 2000000 }) (disch := omega) [tCD, hpO, wrap_i64, wrap_u8, encN_len, enc1_len, encN_app, tNd_wid, enc1_wid, hm]
    refine e4 _ ?_
    simp (config := { maxSteps := 2000000 }) (disch := omega) [tCD, hpO, wrap_i64, wrap_u8, encN_len, enc1_len, encN_app, tNd_wid, enc1_wid, hm]
    refine e5 _ _ ?_
    simp (config := { maxSteps := 2000000 }) (disch := omega) [tCD, hpO, wrap_i64, wrap_u8, encN_len, enc1_len, encN_app, tNd_wid, enc1_wid, hm]
    refine e6 _ _ _ ?_
    have ht : (enc1 tI O).take O.length = enc1 tI O := List.take_of_length_le (by simp [enc1])
    simp (config := { maxSteps := 2000000 }) (disch := omega) [tCD, hpO, wrap_i64, wrap_u8, encN_len, enc1_len, encN_app, tNd_wid, enc1_wid, hm, ht, hw1, a33, law03_C_Of_rv, reify, tNil]
    have ht2 : (enc1 tI (O ++ [(N4.length : Int) - 1])).take (O.length + 1) = enc1 tI (O ++ [(N4.length : Int) - 1]) := List.take_of_length_le (by simp [enc1])
    refine ⟨by omega, ?_⟩
    rw [ht2]
    simp [tC, ofC, memM, hm, tNodes, tNames, tMems, tSl, hN, hO, hNm, encN]
  · have h3 : nodes3 x = nodes2 x ++ [memN 0, memN 1] := by simp [nodes3, hm]
    have l3' : (nodes3 x).length = (nodes2 x).length + 2 := by rw [h3]; simp
    have q : encN tNd (nodes2 x) ++ [[tK 15, .sl [] (some 0) (some true), tI 0, tI 0], [tK 15, .sl [] (some 0) (some true), tI 0, tI 1]] = encN tNd (nodes3 x) := by rw [h3]; simp [encN, memN, tNd, tSl, enc1]
    have hw4 : wid 4 [[tK 15, .sl [] (some 0) (some true), tI 0, tI 0], [tK 15, .sl [] (some 0) (some true), tI 0, tI 1]] := by intro e he; simp at he; rcases he with rfl | rfl <;> rfl
    have ht0 : (encN tNd (nodes2 x)).take (nodes2 x).length = encN tNd (nodes2 x) := List.take_of_length_le (by simp [encN])
    have ht : (enc1 tI O).take O.length = enc1 tI O := List.take_of_length_le (by simp [enc1])
    have hn0 : ¬ (N4.length : Int) = 0 := by omega
    have hn0' : ¬ N4 = [] := fun e => by rw [e] at l4; simp at l4; omega
    obtain ⟨b00, b01⟩ := hx.p0
    obtain ⟨b10, b11⟩ := hx.p1
    obtain ⟨b20, b21⟩ := hx.p2
    obtain ⟨b30, b31⟩ := hx.p3
    simp only [tCD, hpO, hm] at e3 e4 e5 e6
    simp (config := { maxSteps := 2000000 }) (disch := omega) [tCD, hpO, wrap_i64, wrap_u8, encN_len, enc1_len, tNd_wid, enc1_wid, hm, ht, ht0, hw1, hw4, q, hn0, hn0', a33, law03_C_Of_rv, reify, tNil]
    refine ⟨by omega, ?_⟩
    rw [← l3']
    refine e3 _ ?_
    simp (config := { maxSteps := 2000000 }) (disch := omega) [tCD, hpO, wrap_i64, wrap_u8, encN_len, enc1_len, tNd_wid, enc1_wid, hm, ht, ht0, hw1, hw4, q, hn0, hn0', a33, law03_C_Of_rv, reify, tNil]
    refine e4 _ ?_
    simp (config := { maxSteps := 2000000 }) (disch := omega) [tCD, hpO, wrap_i64, wrap_u8, encN_len, enc1_len, tNd_wid, enc1_wid, hm, ht, ht0, hw1, hw4, q, hn0, hn0', a33, law03_C_Of_rv, reify, tNil]
    refine e5 _ _ ?_
    simp (config := { maxSteps := 2000000 }) (disch := omega) [tCD, hpO, wrap_i64, wrap_u8, encN_len, enc1_len, tNd_wid, enc1_wid, hm, ht, ht0, hw1, hw4, q, hn0, hn0', a33, law03_C_Of_rv, reify, tNil]
    refine e6 _ _ _ ?_
    simp (config := { maxSteps := 2000000 }) (disch := omega) [tCD, hpO, wrap_i64, wrap_u8, encN_len, enc1_len, tNd_wid, enc1_wid, hm, ht, ht0, hw1, hw4, q, hn0, hn0', a33, law03_C_Of_rv, reify, tNil]
    have ht2 : (enc1 tI (O ++ [(N4.length : Int) - 1])).take (O.length + 1) = enc1 tI (O ++ [(N4.length : Int) - 1]) := List.take_of_length_le (by simp [enc1])
    refine ⟨by omega, ?_⟩
    rw [ht2]
    simp [tC, ofC, memM, hm, tNodes, tNames, tMems, tSl, hN, hO, hNm, encN, tMm, enc1]
end Go.Lg

/- Circuits from plain data are such as the program may be asked about. Conditions: none. -/
set_option linter.unusedSimpArgs false
set_option linter.unusedVariables false
set_option maxRecDepth 100000
namespace Go.Lg
open Go Go.Proofs
variable {Γ : Tables}

def NdOk (x : Nd) : Prop := (0 ≤ x.k ∧ x.k ≤ 255) ∧ x.inn.l.length ≤ 1000000000

theorem gateT_ok {bus : Bool} {g : Gd} {a b d : Int} {t : List Int} (hg : GdOk g) : NdOk (gateT bus g a b d t) := by
  have m13 : 0 ≤ g.k.tmod 13 ∧ g.k.tmod 13 < 13 := tmod_lt (n := 13) hg.1.1 (by omega)
  have m9 : 0 ≤ g.k.tmod 9 ∧ g.k.tmod 9 < 9 := tmod_lt (n := 9) hg.1.1 (by omega)
  have ma : 0 ≤ g.a.tmod 2 ∧ g.a.tmod 2 < 2 := tmod_lt (n := 2) hg.2.1.1 (by omega)
  have hk : 0 ≤ (if bus then g.k.tmod 13 else g.k.tmod 9) ∧ (if bus then g.k.tmod 13 else g.k.tmod 9) < 13 := by cases bus <;> simp <;> omega
  unfold gateT
  simp only
  generalize (if bus = true then g.k.tmod 13 else g.k.tmod 9) = kk at *
  unfold NdOk
  split
  · refine ⟨⟨by simp; omega, by simp; omega⟩, ?_⟩
    simp only; split <;> simp
  split
  · simp
  split
  · simp
  split
  · simp
  split
  · simp only; split <;> simp
  split
  · simp; omega
  · simp

theorem gatesN_ok {bus : Bool} : ∀ {l : List Gd} {ns : List Nd}, (∀ g ∈ l, GdOk g) → (∀ x ∈ ns, NdOk x) → ∀ x ∈ gatesN bus l ns, NdOk x
  | [], ns, _, h => h
  | g :: l, ns, hg, h => by
    simp only [gatesN]
    refine gatesN_ok (fun y hy => hg y (List.mem_cons_of_mem _ hy)) fun y hy => ?_
    rcases List.mem_append.1 hy with hy | hy
    · exact h y hy
    · simp at hy; subst hy; exact gateT_ok (hg g List.mem_cons_self)

theorem setIn_ok {ns : List Nd} {j : Nat} {v : Int} (h : ∀ x ∈ ns, NdOk x) : ∀ x ∈ setIn ns j v, NdOk x := by
  intro x hx
  unfold setIn at hx
  rcases List.mem_or_eq_of_mem_set hx with hx | rfl
  · exact h x hx
  · refine ⟨?_, by simp⟩
    simp only [List.getD_eq_getElem?_getD]
    by_cases hj : j < ns.length
    · simp only [List.getElem?_eq_getElem hj, Option.getD_some]
      exact (h _ (List.getElem_mem hj)).1
    · simp [List.getElem?_eq_none (Nat.le_of_not_lt hj), Nd.d]
theorem dataN_ok {c : CD} {f : Nat} : ∀ {k i : Nat} {ns : List Nd}, (∀ x ∈ ns, NdOk x) → ∀ x ∈ dataN c f k i ns, NdOk x
  | 0, _, _, h => h
  | k + 1, i, ns, h => by simp only [dataN]; exact dataN_ok (setIn_ok h)

theorem nodes5_ok {x : CD} (hx : CDOk x) : ∀ n ∈ nodes5 x, NdOk n := by
  have h1 : ∀ n ∈ nodes1 x, NdOk n := fun n hn => by rw [(List.mem_replicate.1 hn).2]; simp [NdOk, inpN]
  have h2 : ∀ n ∈ nodes2 x, NdOk n := fun n hn => by
    rcases List.mem_append.1 hn with hn | hn
    · exact h1 n hn
    · rw [(List.mem_replicate.1 hn).2]; simp [NdOk, dffN]
  have h3 : ∀ n ∈ nodes3 x, NdOk n := by
    unfold nodes3
    split
    · intro n hn
      rcases List.mem_append.1 hn with hn | hn
      · exact h2 n hn
      · simp at hn; rcases hn with rfl | rfl <;> simp [NdOk, memN]
    · exact h2
  exact dataN_ok (gatesN_ok (fun g hg => hx.gates g (List.mem_of_mem_take hg)) h3)

theorem nodes4_len {x : CD} (hx : CDOk x) : 1 ≤ (nodes4 x).length ∧ (nodes4 x).length ≤ 16 := by
  have m4 : 0 ≤ x.i.tmod 4 ∧ x.i.tmod 4 < 4 := tmod_lt (n := 4) hx.i.1 (by omega)
  have m3 : 0 ≤ x.f.tmod 3 ∧ x.f.tmod 3 < 3 := tmod_lt (n := 3) hx.f.1 (by omega)
  have l2 : (nodes2 x).length = (x.i.tmod 4 + 1).toNat + (x.f.tmod 3).toNat := by simp [nodes2, nodes1]
  have l3 : (nodes2 x).length ≤ (nodes3 x).length ∧ (nodes3 x).length ≤ 8 := by unfold nodes3; split <;> simp <;> omega
  have l4 : (nodes4 x).length = (nodes3 x).length + min 8 x.gates.l.length := by unfold nodes4; rw [gatesN_len]; simp
  omega
theorem nodes5_len {x : CD} (hx : CDOk x) : (nodes5 x).length = (nodes4 x).length := dataN_len

theorem ofC_ok {x : CD} (hx : CDOk x) : COk (ofC x) := by
  have l := nodes4_len hx
  have l5 := nodes5_len hx
  have hn := nodes5_ok hx
  refine ⟨⟨?_, ?_, ?_, ?_, fun n h => (hn n h).1, fun n h => (hn n h).2, ?_⟩, ?_⟩
  · simp only [ofC]; omega
  · simp [ofC]; omega
  · simp only [ofC, memM]; split <;> simp
  · simp [ofC]; omega
  · intro m hm
    simp only [ofC, memM] at hm
    split at hm
    · simp at hm; subst hm; simp
    · cases hm
  · intro s hs b hb
    simp only [ofC] at hs
    obtain ⟨i, hi, rfl⟩ := List.mem_map.1 hs
    have := (List.mem_range'_1.1 hi).2
    have h1 : i / 10 < 10 := by omega
    have h2 : i % 10 < 10 := by omega
    have key : ∀ q : Nat, q < 10 → UInt8.ofNat (48 + q) < 128 := by decide
    simp only [nameL, List.mem_cons, List.not_mem_nil, or_false] at hb
    rcases hb with rfl | rfl | rfl
    · decide
    · exact key _ h1
    · exact key _ h2
end Go.Lg

/- The seat's rows: what their arguments and the listed table give. Conditions: none. -/
set_option linter.unusedSimpArgs false
set_option linter.unusedVariables false
set_option maxRecDepth 100000
namespace Go.Lg
open Go Go.Proofs Go.Proofs.YtgnghiijbegacaaDoor

def G0 (g : Nat) : Option (List T) := if g = 0 then some fanC else none
theorem G0_ok : GOk G0 := rfl

theorem gFan : Tryd.prog.globalNamed "probecard/logic.fanins" = some 0 := by kernel_rfl
theorem gFanTy : (Tryd.prog.globals[0]?).map (·.type) = some 173 := by kernel_rfl
theorem cells3 : Tryd.prog.cellsOf 3 = 1 := by kernel_rfl
theorem cells4 : Tryd.prog.cellsOf 4 = 1 := by kernel_rfl
theorem cells5 : Tryd.prog.cellsOf 5 = 1 := by kernel_rfl
theorem cells22 : Tryd.prog.cellsOf 22 = 2 := by kernel_rfl
theorem cells23 : Tryd.prog.cellsOf 23 = 4 := by kernel_rfl
theorem cells24 : Tryd.prog.cellsOf 24 = 1 := by kernel_rfl
theorem cells25 : Tryd.prog.cellsOf 25 = 1 := by kernel_rfl
theorem cells27 : Tryd.prog.cellsOf 27 = 12 := by kernel_rfl
theorem cells98 : Tryd.prog.cellsOf 98 = 3 := by kernel_rfl
theorem cells100 : Tryd.prog.cellsOf 100 = 4 := by kernel_rfl
theorem cells172 : Tryd.prog.cellsOf 172 = 2 := by kernel_rfl
theorem cells173 : Tryd.prog.cellsOf 173 = 32 := by kernel_rfl

theorem fan_cells {W : World} (h : laidMet Tryd.prog [("probecard/logic.fanins", Rows.laid_probecard_logic_fanins)] W) : ∀ j, j < 32 → W.cell? ⟨0, j, none⟩ = (fanL.flatMap fun x => [Value.int .i64 x.1, Value.int .i64 x.2])[j]? := by
  obtain ⟨ps, ⟨g', t', cs, fuel, p, q, hg', ht', hvar, hd, _, _⟩, _⟩ := h
  obtain rfl := Option.some.inj (gFan.symm.trans hg')
  obtain rfl := Option.some.inj (gFanTy.symm.trans ht')
  have hc := pair_cells (l := fanL) Tryd.underlying173 Tryd.underlying172 Tryd.underlying3 cells3 cells172 cells173 hd
  intro j hj
  have := World.var?_cell gFan hvar j
  rw [this, ← hc]
  simp

theorem fan_gl {W : World} (h : laidMet Tryd.prog [("probecard/logic.fanins", Rows.laid_probecard_logic_fanins)] W) : Gl G0 W (Old W) := by
  have hc := fan_cells h
  intro g cs hg
  unfold G0 at hg
  split at hg
  case isFalse => cases hg
  rename_i h0; subst h0
  simp only [Option.some.injEq] at hg
  subst hg
  have hlen : (fanL.flatMap fun x => [Value.int .i64 x.1, Value.int .i64 x.2]).length = 32 := rfl
  have hfc : fanC = (fanL.flatMap fun x => [Value.int .i64 x.1, Value.int .i64 x.2]).map T.v := rfl
  have hfl : fanC.length = 32 := rfl
  refine .ip fanC 0 0 0 (fun j => (fanL.flatMap fun x => [Value.int .i64 x.1, Value.int .i64 x.2])[j]?.getD .nilFunc) ?_ ?_ ?_ ?_
  · intro j hj
    rw [Nat.zero_add, hc j (by omega)]
    rw [List.getElem?_eq_getElem (by omega)]; rfl
  · intro j t ht
    rw [hfc, List.getElem?_map, Option.map_eq_some_iff] at ht
    obtain ⟨v, hv, rfl⟩ := ht
    simp only [hv, Option.getD_some]
    exact .v v
  · intro j t ht
    rw [hfc, List.getElem?_map, Option.map_eq_some_iff] at ht
    obtain ⟨v, hv, rfl⟩ := ht
    have hm := List.mem_of_getElem? hv
    obtain ⟨x, _, hx⟩ := List.mem_flatMap.1 hm
    simp at hx
    rcases hx with rfl | rfl <;> rfl
  · have := hc 0 (by omega)
    rw [List.getElem?_eq_getElem (by omega)] at this
    exact cell_lt this

theorem u8_byt {n : Int} (h : (Lit.int .u8 n).wf = true) : Byt n := by
  simp [Lit.wf, IntKind.min, IntKind.max, IntKind.signed, IntKind.bits] at h
  exact ⟨h.1, by omega⟩
theorem rdU8 : Rd Tryd.prog 5 fun ts => ∃ n, ts = [tK n] ∧ Byt n := (rd_int Tryd.underlying5).mono fun ts ⟨n, h, hw⟩ => ⟨n, h, u8_byt hw⟩
theorem list_of {α : Type} {f : α → List T} {Q : α → Prop} : ∀ {es : List (List T)}, (∀ x ∈ es, ∃ a, x = f a ∧ Q a) → ∃ l : List α, es = l.map f ∧ ∀ a ∈ l, Q a
  | [], _ => ⟨[], rfl, by simp⟩
  | e :: es, h => by
    obtain ⟨a, ha, hq⟩ := h e List.mem_cons_self
    obtain ⟨l, hl, hql⟩ := list_of fun x hx => h x (List.mem_cons_of_mem _ hx)
    exact ⟨a :: l, by rw [ha, hl]; rfl, fun b hb => by rcases List.mem_cons.1 hb with rfl | hb; exact hq; exact hql b hb⟩

theorem rdGd : Rd Tryd.prog 100 fun ts => ∃ g, ts = tGd g ∧ GdOk g := by
  refine (rd_struct (l := [(1, fun ts => ∃ n, ts = [tK n] ∧ Byt n), (3, Parts (List.replicate 3 (1, fun ts => ∃ n, ts = [tK n] ∧ Byt n)))]) Tryd.underlying100 cells100 (.cons rfl cells5 rdU8 (.cons rfl cells98 (rd_array Tryd.underlying98 cells5 cells98 rdU8) (.nil _)))).mono fun ts h => ?_
  obtain ⟨_, _, rfl, ⟨k, rfl, hk⟩, _, _, rfl, ⟨_, _, rfl, ⟨a, rfl, ha⟩, _, _, rfl, ⟨b, rfl, hb⟩, _, _, rfl, ⟨d, rfl, hd⟩, rfl⟩, rfl⟩ := h
  exact ⟨⟨k, a, b, d⟩, rfl, hk, ha, hb, hd⟩

theorem rdCD : Rd Tryd.prog 27 fun ts => ∃ x, ts = tCD x ∧ CDOk x := by
  refine (rd_struct (l := [(1, fun ts => ∃ n, ts = [tK n] ∧ Byt n), (1, fun ts => ∃ n, ts = [tK n] ∧ Byt n), (2, Parts (List.replicate 2 (1, fun ts => ∃ n, ts = [tK n] ∧ Byt n))), (1, fun ts => ∃ b, ts = [tB b]), (1, fun ts => ∃ b, ts = [tB b]), (4, Parts (List.replicate 4 (1, fun ts => ∃ n, ts = [tK n] ∧ Byt n))), (1, _), (1, _)]) Tryd.underlying27 cells27
    (.cons rfl cells5 rdU8 (.cons rfl cells5 rdU8 (.cons rfl cells22 (rd_array Tryd.underlying22 cells5 cells22 rdU8) (.cons rfl cells4 (rd_bool Tryd.underlying4) (.cons rfl cells4 (rd_bool Tryd.underlying4) (.cons rfl cells23 (rd_array Tryd.underlying23 cells5 cells23 rdU8)
      (.cons rfl cells24 (rd_slice Tryd.underlying24 cells100 (by decide) rdGd) (.cons rfl cells25 (rd_slice Tryd.underlying25 cells5 (by decide) rdU8) (.nil _)))))))))).mono fun ts h => ?_
  obtain ⟨_, _, rfl, ⟨i, rfl, hi⟩, _, _, rfl, ⟨f, rfl, hf⟩, _, _, rfl, ⟨_, _, rfl, ⟨d0, rfl, hd0⟩, _, _, rfl, ⟨d1, rfl, hd1⟩, rfl⟩, _, _, rfl, ⟨bus, rfl⟩, _, _, rfl, ⟨mem, rfl⟩, _, _, rfl,
    ⟨_, _, rfl, ⟨p0, rfl, h0⟩, _, _, rfl, ⟨p1, rfl, h1⟩, _, _, rfl, ⟨p2, rfl, h2⟩, _, _, rfl, ⟨p3, rfl, h3⟩, rfl⟩, _, _, rfl, ⟨es, cap, nl, rfl, _, hes⟩, _, _, rfl, ⟨os, cap2, nl2, rfl, _, hos⟩, rfl⟩ := h
  obtain ⟨gs, rfl, hgs⟩ := list_of (f := tGd) (Q := GdOk) fun x hx => (hes x hx).1
  obtain ⟨ol, rfl, hol⟩ := list_of (f := fun n => [tK n]) (Q := Byt) fun x hx => (hos x hx).1
  exact ⟨⟨i, f, d0, d1, bus, mem, p0, p1, p2, p3, ⟨gs, cap, nl⟩, ⟨ol, cap2, nl2⟩⟩, rfl, ⟨hi, hf, hd0, hd1, h0, h1, h2, h3, hgs, hol⟩⟩

end Go.Lg

/- The seat's rows: their arguments opened, the witness's world. Conditions: none. -/
set_option linter.unusedSimpArgs false
set_option linter.unusedVariables false
set_option maxRecDepth 100000
namespace Go.Proofs.YtgnghiijbegacaaDoor
open Go Go.Lg Go.ChangeShapes Go.WideShapes Go.ChangeAt Go.RowKit

theorem own : ownKnob Tryd.prog.godebug = none := by kernel_rfl
theorem laidOut : laidOutB Tryd.prog = true := by kernel_rfl

/-- A world for the witness: the settled one, the table (block 0) holding what its initialiser lays. -/
noncomputable def laidWorld (os : Os) : World :=
  { World.holding Tryd.prog os ⟨#[], #[], []⟩ with heap := (World.holding Tryd.prog os ⟨#[], #[], []⟩).heap.modify 0 fun
      | .cells _ t frozen => .cells (fanL.flatMap fun x => [Value.int .i64 x.1, Value.int .i64 x.2]).toArray t frozen
      | o => o }
def c0 : Value := .agg #[.int .u8 0, .int .u8 0, .int .u8 0, .int .u8 0, .bool false, .bool false, .int .u8 0, .int .u8 0, .int .u8 0, .int .u8 0, .slice none 0 0, .slice none 0 0]
def d0 {H : Type} : DataW H := .agg [.lit (.int .u8 0), .lit (.int .u8 0), .agg [.lit (.int .u8 0), .lit (.int .u8 0)], .lit (.bool false), .lit (.bool false), .agg [.lit (.int .u8 0), .lit (.int .u8 0), .lit (.int .u8 0), .lit (.int .u8 0)], .nil, .nil]

end Go.Proofs.YtgnghiijbegacaaDoor

/- A circuit whose gates read earlier nodes has levels. Conditions: none. -/
set_option linter.unusedSimpArgs false
set_option linter.unusedVariables false
set_option maxRecDepth 100000
namespace Go.Lg
open Go Go.Proofs

def cntR (i : Nat) (r : Row) : Nat := r.countP fun p => decide (p.1 = (i : Int))
theorem cntR_app {i : Nat} {r q : Row} : cntR i (r ++ q) = cntR i r + cntR i q := by simp [cntR]

theorem addRow_cnt {rows : List Row} {n m i : Nat} {p : Int × Int} (hn : n < rows.length) : cntR i ((addRow rows n p).getD m []) = cntR i (rows.getD m []) + if m = n ∧ p.1 = (i : Int) then 1 else 0 := by
  unfold addRow
  simp only [List.getD_eq_getElem?_getD, List.getElem?_set]
  by_cases h : n = m
  · subst h
    simp only [hn, if_true, Option.getD_some, cntR_app, true_and]
    congr 1
    by_cases h2 : p.1 = (i : Int) <;> simp [cntR, h2]
  · have h' : ¬ m = n := fun e => h e.symm
    simp [h, h']

theorem fanPins_cnt (c : Cir) (j i m : Nat) : ∀ (l : List Int) (k : Nat) (rows : List Row), rows.length = c.nodes.l.length → (∀ p ∈ l, 0 ≤ p ∧ p < c.nodes.l.length) → (fanPins c j l k rows).length = c.nodes.l.length ∧ cntR i ((fanPins c j l k rows).getD m []) = cntR i (rows.getD m []) + if j = i then l.count (m : Int) else 0
  | [], k, rows, hl, _ => ⟨hl, by simp [fanPins]⟩
  | n :: l, k, rows, hl, hp => by
    have hn := hp n List.mem_cons_self
    have ho : outP c n = false := by simp [outP]; omega
    simp only [fanPins, ho, Bool.false_eq_true, if_false]
    obtain ⟨h1, h2⟩ := fanPins_cnt c j i m l (k + 1) (addRow rows n.toNat (j, k)) (by rw [addRow_len]; exact hl) (fun p h => hp p (List.mem_cons_of_mem _ h))
    refine ⟨h1, ?_⟩
    rw [h2, addRow_cnt (by omega)]
    by_cases hji : j = i
    · subst hji
      simp only [and_true, if_true, List.count_cons]
      by_cases hm : (m : Int) = n
      · have h5 : m = n.toNat := by omega
        have h6 : (n == (m : Int)) = true := by rw [hm]; simp
        rw [if_pos h5, h6]
        simp only [if_true]; omega
      · have h5 : ¬ m = n.toNat := by omega
        have h6 : (n == (m : Int)) = false := by simp; omega
        rw [if_neg h5, h6]
        simp only [Bool.false_eq_true, if_false]; omega
    · have : ¬ ((j : Int) = i) := by omega
      simp [hji, this]

theorem fanNodes_cnt (c : Cir) (i m : Nat) : ∀ (l : List Nd) (s : Nat) (rows : List Row), rows.length = c.nodes.l.length → (∀ x ∈ l, ∀ p ∈ x.inn.l, 0 ≤ p ∧ p < c.nodes.l.length) →
    cntR i ((fanNodes c l s rows).getD m []) = cntR i (rows.getD m []) + if s ≤ i then ((l.map fun x => x.inn.l.count (m : Int)).getD (i - s) 0) else 0
  | [], s, rows, hl, _ => by simp [fanNodes]
  | x :: l, s, rows, hl, hp => by
    obtain ⟨h1, h2⟩ := fanPins_cnt c s i m x.inn.l 0 rows hl (hp x List.mem_cons_self)
    simp only [fanNodes]
    rw [fanNodes_cnt c i m l (s + 1) _ h1 (fun y hy => hp y (List.mem_cons_of_mem _ hy)), h2]
    by_cases hsi : s = i
    · subst hsi
      have : ¬ s + 1 ≤ s := by omega
      simp [this]
    · by_cases hlt : s ≤ i
      · have e : i - s = (i - (s + 1)) + 1 := by omega
        have h3 : s + 1 ≤ i := by omega
        simp [hsi, hlt, h3, e]
      · have h3 : ¬ s + 1 ≤ i := by omega
        simp [hsi, hlt, h3]

def innAt (c : Cir) (i : Nat) : List Int := (c.nodes.l.getD i Nd.d).inn.l
theorem rowOf_cnt (c : Cir) (hp : ∀ x ∈ c.nodes.l, ∀ p ∈ x.inn.l, 0 ≤ p ∧ p < c.nodes.l.length) (i m : Nat) (hi : i < c.nodes.l.length) : cntR i (rowOf c m) = (innAt c i).count (m : Int) := by
  unfold rowOf fanRows
  rw [fanNodes_cnt c i m c.nodes.l 0 _ (by simp) hp]
  have h0 : cntR i ((List.replicate c.nodes.l.length ([] : Row)).getD m []) = 0 := by
    simp only [List.getD_eq_getElem?_getD, List.getElem?_replicate]
    split <;> rfl
  rw [h0]
  simp [innAt, hi]

theorem left_at (c : Cir) {i : Nat} (hi : i < c.nodes.l.length) : (c.nodes.l.map leftOf).getD i 0 = if combB (kindAt c i) then ((innAt c i).length : Int) else 0 := by
  simp [kindAt, innAt, leftOf, hi]

theorem foldL_inv {N M : Nat} {c : Cir} {n : Nat} : ∀ {r : Row} {s : LS}, s.left.length = N → (∀ p ∈ r, ∃ i : Nat, i < N ∧ p.1 = i) → (∀ i : Nat, i < N → s.left.getD i 0 ≤ 0 → (i : Int) ∈ s.rdy) →
    (∃ e, (r.foldl (stepL c n) s).rdy = s.rdy ++ e) ∧ (r.foldl (stepL c n) s).left.length = N ∧ (∀ i : Nat, i < N → (r.foldl (stepL c n) s).left.getD i 0 = s.left.getD i 0 - if combB (kindAt c i) then (cntR i r : Int) else 0) ∧ (∀ i : Nat, i < N → (r.foldl (stepL c n) s).left.getD i 0 ≤ 0 → (i : Int) ∈ (r.foldl (stepL c n) s).rdy)
  | [], s, hl, _, hb => ⟨⟨[], by simp⟩, hl, fun i hi => by simp [cntR], hb⟩
  | (p1, p2) :: r, s, hl, hr, hb => by
    obtain ⟨j, hj, he⟩ := hr (p1, p2) List.mem_cons_self
    simp only at he; subst he
    have key : (∃ e, (stepL c n s (j, p2)).rdy = s.rdy ++ e) ∧ (stepL c n s (j, p2)).left.length = N ∧ (∀ i : Nat, i < N → (stepL c n s (j, p2)).left.getD i 0 = s.left.getD i 0 - if combB (kindAt c i) then (if j = i then 1 else 0 : Int) else 0) ∧ (∀ i : Nat, i < N → (stepL c n s (j, p2)).left.getD i 0 ≤ 0 → (i : Int) ∈ (stepL c n s (j, p2)).rdy) := by
      unfold stepL
      simp only [Int.toNat_natCast]
      by_cases hc : combB (kindAt c j) = true
      · simp only [hc, if_true]
        refine ⟨?_, by simp [hl], fun i hi => ?_, fun i hi h0 => ?_⟩
        · split
          · exact ⟨_, rfl⟩
          · exact ⟨[], by simp⟩
        · rw [getD_set (by omega)]
          by_cases hij : i = j
          · subst hij; simp [hc]
          · have : ¬ j = i := fun e => hij e.symm
            simp [hij, this]
        · rw [getD_set (by omega)] at h0
          by_cases hij : i = j
          · subst hij
            simp only [if_true] at h0
            by_cases h1 : s.left.getD i 0 - 1 = 0
            · rw [if_pos h1]; simp
            · rw [if_neg h1]
              exact hb i hi (by omega)
          · simp only [hij, if_false] at h0
            have := hb i hi h0
            split
            · exact List.mem_append_left _ this
            · exact this
      · simp only [hc]
        refine ⟨⟨[], by simp⟩, hl, fun i hi => ?_, hb⟩
        by_cases hij : j = i
        · subst hij; simp [hc]
        · simp [hij]
    obtain ⟨⟨e1, h1⟩, h2, h3, h4⟩ := key
    obtain ⟨⟨e2, g1⟩, g2, g3, g4⟩ := foldL_inv (M := M) (n := n) (r := r) h2 (fun q hq => hr q (List.mem_cons_of_mem _ hq)) h4
    simp only [List.foldl_cons]
    refine ⟨⟨e1 ++ e2, by rw [g1, h1, List.append_assoc]⟩, g2, fun i hi => ?_, g4⟩
    rw [g3 i hi, h3 i hi]
    by_cases hc : combB (kindAt c i) = true
    · simp only [hc, if_true]
      have : cntR i ((↑j, p2) :: r) = cntR i r + if j = i then 1 else 0 := by
        by_cases hij : j = i
        · subst hij; simp [cntR]
        · have : ¬ ((j : Int) = i) := by omega
          simp [cntR, hij, this]
      rw [this]
      split <;> omega
    · simp [hc]

structure JI (c : Cir) (d : Nat) (s : LS) : Prop where
  li : ∃ M, LI c.nodes.l.length M s
  le : d ≤ s.rdy.length
  a : ∀ i : Nat, i < c.nodes.l.length → s.left.getD i 0 = (c.nodes.l.map leftOf).getD i 0 - if combB (kindAt c i) then (((s.rdy.take d).map fun x => (innAt c i).count x).sum : Int) else 0
  b : ∀ i : Nat, i < c.nodes.l.length → s.left.getD i 0 ≤ 0 → (i : Int) ∈ s.rdy

theorem JI.next {c : Cir} (hp : ∀ x ∈ c.nodes.l, ∀ p ∈ x.inn.l, 0 ≤ p ∧ p < c.nodes.l.length) {d : Nat} {s : LS} (h : JI c d s) (hd : d < s.rdy.length) : JI c (d + 1) ((rowOf c (s.rdy.getD d 0).toNat).foldl (stepL c (s.rdy.getD d 0).toNat) s) := by
  obtain ⟨M, hli⟩ := h.li
  have hg : s.rdy.getD d 0 = s.rdy[d] := by simp [hd]
  rw [hg]
  obtain ⟨n, hn, he, _⟩ := hli.rd _ (List.getElem_mem hd)
  rw [he]
  simp only [Int.toNat_natCast]
  have hr : ∀ p ∈ rowOf c n, ∃ i : Nat, i < c.nodes.l.length ∧ p.1 = i := by
    intro p hpp
    have hl := fanRows_len c
    have e : rowOf c n = (fanRows c)[n]'(by omega) := by simp [rowOf, List.getD, List.getElem?_eq_getElem (show n < (fanRows c).length by omega)]
    rw [e] at hpp
    exact fanRows_in c _ (List.getElem_mem _) p hpp
  obtain ⟨⟨e, h1⟩, h2, h3, h4⟩ := foldL_inv (M := M) (c := c) (n := n) (r := rowOf c n) hli.ll hr h.b
  refine ⟨⟨_, hli.fold hr⟩, by rw [h1]; simp; omega, fun i hi => ?_, h4⟩
  rw [h3 i hi, h.a i hi, h1]
  by_cases hc : combB (kindAt c i) = true
  · simp only [hc, if_true]
    have ht : (s.rdy ++ e).take (d + 1) = s.rdy.take d ++ [(n : Int)] := by
      rw [List.take_append_of_le_length (by omega), List.take_add_one, List.getElem?_eq_getElem hd, he]
      rfl
    rw [ht, rowOf_cnt c hp i n hi]
    simp
    omega
  · simp [hc]

theorem main_end {c : Cir} (hp : ∀ x ∈ c.nodes.l, ∀ p ∈ x.inn.l, 0 ≤ p ∧ p < c.nodes.l.length) : ∀ (f d : Nat) (s : LS), JI c d s → c.nodes.l.length < f + d → JI c (mainL c f d s).1 (mainL c f d s).2 ∧ (mainL c f d s).2.rdy.length ≤ (mainL c f d s).1
  | 0, d, s, h, hf => by
    obtain ⟨M, hli⟩ := h.li
    have := hli.len
    exact ⟨h, by simp only [mainL]; omega⟩
  | f + 1, d, s, h, hf => by
    simp only [mainL]
    split
    · rename_i hd
      exact main_end hp f (d + 1) _ (h.next hp hd) (by omega)
    · exact ⟨h, by simp only; omega⟩

theorem sum_count : ∀ (L R : List Int), (∀ p ∈ L, p ∈ R) → L.length ≤ (R.map fun x => L.count x).sum
  | [], R, _ => by simp
  | p :: L, R, h => by
    have ih := sum_count L R fun q hq => h q (List.mem_cons_of_mem _ hq)
    have hpR := h p List.mem_cons_self
    have key : ∀ R : List Int, (R.map fun x => (p :: L).count x).sum = (R.map fun x => L.count x).sum + R.count p := by
      intro R
      induction R with
      | nil => rfl
      | cons a R ihR =>
        simp only [List.map_cons, List.sum_cons]
        rw [ihR, List.count_cons, List.count_cons]
        by_cases hpa : p = a
        · subst hpa; simp only [BEq.rfl, if_true]; omega
        · have h1 : (p == a) = false := by simpa using hpa
          have h2 : (a == p) = false := by simpa using fun e => hpa e.symm
          rw [h1, h2]; simp only [Bool.false_eq_true, if_false]; omega
    rw [key]
    have := List.count_pos_iff.2 hpR
    simp only [List.length_cons]; omega

theorem rdyFrom_all : ∀ (l : List Nd) (s i : Nat), s ≤ i → i < s + l.length → (l.map leftOf).getD (i - s) 0 ≤ 0 → (i : Int) ∈ rdyFrom l s
  | [], s, i, h1, h2, _ => by simp at h2; omega
  | x :: l, s, i, h1, h2, h3 => by
    simp only [List.length_cons] at h2
    by_cases hsi : i = s
    · subst hsi
      simp only [Nat.sub_self, List.map_cons, List.getD_cons_zero] at h3
      have h4 : 0 ≤ leftOf x := by unfold leftOf; split <;> omega
      have h5 : leftOf x = 0 := by omega
      simp [rdyFrom, h5]
    · have e : i - s = (i - (s + 1)) + 1 := by omega
      rw [e, List.map_cons, List.getD_cons_succ] at h3
      have := rdyFrom_all l (s + 1) i (by omega) (by omega) h3
      simp only [rdyFrom]
      split
      · exact List.mem_cons_of_mem _ this
      · exact this

theorem levels_done (c : Cir) (h16 : ∀ x ∈ c.nodes.l, x.inn.l.length ≤ 16) (hp : ∀ x ∈ c.nodes.l, ∀ p ∈ x.inn.l, 0 ≤ p ∧ p < c.nodes.l.length) (ht : ∀ i : Nat, i < c.nodes.l.length → combB (kindAt c i) = true → ∀ p ∈ innAt c i, p < i) : ¬ (endL c).1 < c.nodes.l.length := by
  have h0 : JI c 0 (initL c) := by
    refine ⟨⟨0, ?_⟩, by simp, fun i hi => ?_, fun i hi h => ?_⟩
    · obtain ⟨r1, r2⟩ := rdyFrom_in c.nodes.l 0
      refine ⟨by simp [initL], by simp [initL], ?_, r2, fun i => ?_, fun i => ?_⟩
      · intro j hj
        obtain ⟨a, _, h2, h3, h4⟩ := r1 j hj
        exact ⟨a, by omega, h3, by simp only [initL]; simp only [Nat.sub_zero] at h4; omega⟩
      · simp only [initL, List.getD_eq_getElem?_getD, List.getElem?_replicate]
        split <;> simp
      · simp only [initL]
        by_cases hi : i < c.nodes.l.length
        · have := h16 _ (List.getElem_mem hi)
          simp [hi, leftOf]
          split <;> omega
        · simp [hi]
    · simp [initL]
    · simp only [initL] at h
      exact rdyFrom_all c.nodes.l 0 i (by omega) (by omega) (by simpa using h)
  obtain ⟨hJ, hle⟩ := main_end hp (c.nodes.l.length + 1) 0 (initL c) h0 (by omega)
  show ¬ (mainL c (c.nodes.l.length + 1) 0 (initL c)).1 < c.nodes.l.length
  generalize (mainL c (c.nodes.l.length + 1) 0 (initL c)).1 = d at *
  generalize (mainL c (c.nodes.l.length + 1) 0 (initL c)).2 = s at *
  have all : ∀ i : Nat, i < c.nodes.l.length → (i : Int) ∈ s.rdy := by
    intro i
    induction i using Nat.strongRecOn with
    | ind i ih =>
      intro hi
      refine hJ.b i hi ?_
      rw [hJ.a i hi, left_at c hi]
      by_cases hc : combB (kindAt c i) = true
      · simp only [hc, if_true]
        rw [List.take_of_length_le hle]
        have hm : innAt c i ∈ c.nodes.l.map fun x => x.inn.l := by
          simp only [innAt, List.getD_eq_getElem?_getD, List.getElem?_eq_getElem hi, Option.getD_some]
          exact List.mem_map_of_mem (List.getElem_mem hi)
        obtain ⟨y, hy, hye⟩ := List.mem_map.1 hm
        have := sum_count (innAt c i) s.rdy fun p hpp => by
          have h1 := ht i hi hc p hpp
          have h2 := (hp y hy p (by rw [hye]; exact hpp)).1
          obtain ⟨j, rfl⟩ : ∃ j : Nat, p = j := ⟨p.toNat, by omega⟩
          exact ih j (by omega) (by omega)
        omega
      · simp [hc]
  have hnd : ((List.range c.nodes.l.length).map fun i : Nat => (i : Int)).Nodup := by
    rw [List.nodup_iff_pairwise_ne, List.pairwise_map]
    exact (List.nodup_iff_pairwise_ne.1 List.nodup_range).imp fun h e => h (by omega)
  have hsub : ((List.range c.nodes.l.length).map fun i : Nat => (i : Int)) ⊆ s.rdy := by
    intro x hx
    obtain ⟨i, hi, rfl⟩ := List.mem_map.1 hx
    exact all i (List.mem_range.1 hi)
  have := List.Nodup.length_le_of_subset hnd hsub
  simp at this
  omega
end Go.Lg

/- Circuits from plain data are valid. Conditions: none. -/
set_option linter.unusedSimpArgs false
set_option linter.unusedVariables false
set_option maxRecDepth 100000
namespace Go.Lg
open Go Go.Proofs

structure NG (B : Bool) (ns : List Nd) (i : Nat) (x : Nd) : Prop where
  k : 0 ≤ x.k ∧ x.k ≤ 15
  f : (fan x.k).1 ≤ x.inn.l.length ∧ (x.inn.l.length : Int) ≤ (fan x.k).2
  inn : ∀ p ∈ x.inn.l, 0 ≤ p ∧ p < ns.length
  top : 1 ≤ x.k ∧ x.k ≤ 13 → ∀ p ∈ x.inn.l, p < i
  bus : x.k = 13 → ∀ p ∈ x.inn.l, (ns.getD p.toNat Nd.d).k = 12
  mm : (x.k ≠ 15 → x.mem = 0 ∧ x.bit = 0) ∧ (x.k = 15 → B = true ∧ x.mem = 0 ∧ 0 ≤ x.bit ∧ x.bit ≤ 1)

theorem NG.mono {B : Bool} {ns ys : List Nd} {i : Nat} {x : Nd} (h : NG B ns i x) : NG B (ns ++ ys) i x :=
  ⟨h.k, h.f, fun p hp => by have := h.inn p hp; simp; omega, h.top, fun hk p hp => by
    have h1 := h.inn p hp
    rw [List.getD_eq_getElem?_getD, List.getElem?_append_left (by omega), ← List.getD_eq_getElem?_getD]
    exact h.bus hk p hp, h.mm⟩

def GNs (B : Bool) (ns : List Nd) : Prop := ∀ i (h : i < ns.length), NG B ns i ns[i]

theorem GNs.add {B : Bool} {ns : List Nd} {y : Nd} (h : GNs B ns) (hy : NG B (ns ++ [y]) ns.length y) : GNs B (ns ++ [y]) := by
  intro i hi
  by_cases h1 : i < ns.length
  · rw [List.getElem_append_left h1]; exact (h i h1).mono
  · have : i = ns.length := by simp at hi; omega
    subst this
    simpa using hy

theorem fan_at : fan 0 = (0, 0) ∧ fan 1 = (0, 0) ∧ fan 2 = (0, 0) ∧ fan 3 = (1, 1) ∧ fan 4 = (1, 1) ∧ fan 5 = (2, 16) ∧ fan 6 = (2, 16) ∧ fan 7 = (2, 16) ∧ fan 8 = (2, 16) ∧ fan 9 = (2, 16) ∧ fan 10 = (2, 16) ∧ fan 11 = (3, 3) ∧ fan 12 = (2, 2) ∧ fan 13 = (1, 16) ∧ fan 14 = (1, 1) ∧ fan 15 = (0, 0) := by decide

theorem ng_inp {B : Bool} {ns : List Nd} {i : Nat} : NG B ns i inpN := ⟨by decide, by decide, by simp [inpN], by simp [inpN], by simp [inpN], by simp [inpN]⟩
theorem ng_dff {B : Bool} {ns : List Nd} {i : Nat} {v : Int} (h : 0 ≤ v ∧ v < ns.length) : NG B ns i (dffN v) := ⟨by simp [dffN], by simp [dffN, fan_at], by simp [dffN]; exact h, by simp [dffN], by simp [dffN], by simp [dffN]⟩
theorem ng_mem {ns : List Nd} {i : Nat} {b : Int} (h : b = 0 ∨ b = 1) : NG true ns i (memN b) := ⟨by simp [memN], by simp [memN, fan_at], by simp [memN], by simp [memN], by simp [memN], by simp [memN]; omega⟩

theorem tri_at {ns : List Nd} : ∀ p ∈ triL ns, 0 ≤ p ∧ p < ns.length ∧ (ns.getD p.toNat Nd.d).k = 12 := by
  intro p hp
  obtain ⟨h1, h2, h3⟩ := ofL_kind [12] ns 0 p hp
  refine ⟨by omega, by omega, ?_⟩
  simpa using h3

theorem getD_in {l : List Int} {q : Nat} (h : q < l.length) : l.getD q 0 ∈ l := by
  rw [List.getD_eq_getElem?_getD, List.getElem?_eq_getElem h]; exact List.getElem_mem h

theorem ng_gate {B bus : Bool} {g : Gd} {ns : List Nd} (hg : GdOk g) (h0 : 1 ≤ ns.length) : NG B (ns ++ [gateN bus g ns]) ns.length (gateN bus g ns) := by
  have a := tmod_lt (n := ns.length) hg.2.1.1 (by omega)
  have b := tmod_lt (n := ns.length) hg.2.2.1.1 (by omega)
  have d := tmod_lt (n := ns.length) hg.2.2.2.1 (by omega)
  have m13 : 0 ≤ g.k.tmod 13 ∧ g.k.tmod 13 < 13 := tmod_lt (n := 13) hg.1.1 (by omega)
  have m9 : 0 ≤ g.k.tmod 9 ∧ g.k.tmod 9 < 9 := tmod_lt (n := 9) hg.1.1 (by omega)
  have ma : 0 ≤ g.a.tmod 2 ∧ g.a.tmod 2 < 2 := tmod_lt (n := 2) hg.2.1.1 (by omega)
  have hkk : 0 ≤ (if bus then g.k.tmod 13 else g.k.tmod 9) ∧ (if bus then g.k.tmod 13 else g.k.tmod 9) < 13 := by cases bus <;> simp <;> omega
  have ht := tri_at (ns := ns)
  obtain ⟨y, hy⟩ : ∃ y, y = gateN bus g ns := ⟨_, rfl⟩
  rw [← hy]
  have hlen : (ns ++ [y]).length = ns.length + 1 := by simp
  have old : ∀ p : Int, 0 ≤ p → p < ns.length → ((ns ++ [y]).getD p.toNat Nd.d).k = (ns.getD p.toNat Nd.d).k := fun p h1 h2 => by
    rw [List.getD_eq_getElem?_getD, List.getElem?_append_left (by omega), ← List.getD_eq_getElem?_getD]
  -- what suffices of a plain gate
  have mk : ∀ (k : Int) (l : List Int) (cap : Option Nat) (nl : Option Bool), 0 ≤ k → k ≤ 15 → k ≠ 13 → k ≠ 15 → (fan k).1 ≤ l.length → (l.length : Int) ≤ (fan k).2 → (∀ p ∈ l, 0 ≤ p ∧ p < ns.length) → NG B (ns ++ [y]) ns.length ⟨k, ⟨l, cap, nl⟩, 0, 0⟩ := fun k l cap nl h1 h2 h3 h4 h5 h6 h7 =>
    ⟨⟨h1, h2⟩, ⟨h5, h6⟩, fun p hp => by have := h7 p hp; omega, fun _ p hp => (h7 p hp).2, fun e => absurd e h3, fun _ => ⟨rfl, rfl⟩, fun e => absurd e h4⟩
  unfold gateN gateT at hy
  simp only at hy
  generalize g.a.tmod ns.length = a' at *
  generalize g.b.tmod ns.length = b' at *
  generalize g.d.tmod ns.length = d' at *
  generalize (if bus = true then g.k.tmod 13 else g.k.tmod 9) = kk at *
  have two : ∀ p ∈ [a', b'], 0 ≤ p ∧ p < ns.length := by intro p hp; simp at hp; rcases hp with rfl | rfl; exact a; exact b
  have three : ∀ p ∈ [a', b', d'], 0 ≤ p ∧ p < ns.length := by intro p hp; simp at hp; rcases hp with rfl | rfl | rfl; exact a; exact b; exact d
  have one : ∀ p ∈ [a'], 0 ≤ p ∧ p < ns.length := by intro p hp; simp at hp; rcases hp with rfl; exact a
  split at hy
  · rename_i h6
    have hc : kk = 0 ∨ kk = 1 ∨ kk = 2 ∨ kk = 3 ∨ kk = 4 ∨ kk = 5 := by omega
    split at hy
    · rw [hy]
      have hf : (fan (5 + kk)).1 = 2 ∧ (fan (5 + kk)).2 = 16 := by rcases hc with rfl | rfl | rfl | rfl | rfl | rfl <;> decide
      rw [← hy]
      have := mk (5 + kk) [a', b', d'] none none (by omega) (by omega) (by omega) (by omega) (by rw [hf.1]; simp) (by rw [hf.2]; simp) three
      rw [← hy] at this; exact this
    · have hf : (fan (5 + kk)).1 = 2 ∧ (fan (5 + kk)).2 = 16 := by rcases hc with rfl | rfl | rfl | rfl | rfl | rfl <;> decide
      have := mk (5 + kk) [a', b'] none none (by omega) (by omega) (by omega) (by omega) (by rw [hf.1]; simp) (by rw [hf.2]; simp) two
      rw [← hy] at this; exact this
  split at hy
  · have := mk 4 [a'] none none (by omega) (by omega) (by omega) (by omega) (by simp [fan_at]) (by simp [fan_at]) one
    rw [← hy] at this; exact this
  split at hy
  · have := mk 11 [a', b', d'] none none (by omega) (by omega) (by omega) (by omega) (by simp [fan_at]) (by simp [fan_at]) three
    rw [← hy] at this; exact this
  split at hy
  · have := mk 12 [a', b'] none none (by omega) (by omega) (by omega) (by omega) (by simp [fan_at]) (by simp [fan_at]) two
    rw [← hy] at this; exact this
  split at hy
  · rename_i ht2
    generalize triL ns = t at *
    have mt := tmod_lt (n := t.length) hg.2.1.1 ht2.2
    have mt2 := tmod_lt (a := g.a.tmod t.length + 1) (n := t.length) (by omega) ht2.2
    have q1 := ht _ (getD_in (l := t) (q := (g.a.tmod t.length).toNat) (by omega))
    have q2 := ht _ (getD_in (l := t) (q := ((g.a.tmod t.length + 1).tmod t.length).toNat) (by omega))
    generalize t.getD (g.a.tmod t.length).toNat 0 = u1 at *
    generalize t.getD ((g.a.tmod t.length + 1).tmod t.length).toNat 0 = u2 at *
    have mkb : ∀ (l : List Int) (cap : Option Nat) (nl : Option Bool), 1 ≤ l.length → l.length ≤ 16 → (∀ p ∈ l, 0 ≤ p ∧ p < ns.length ∧ (ns.getD p.toNat Nd.d).k = 12) → NG B (ns ++ [y]) ns.length ⟨13, ⟨l, cap, nl⟩, 0, 0⟩ := fun l cap nl h5 h6 h7 =>
      ⟨by simp, ⟨by simp [fan_at]; omega, by simp [fan_at]; omega⟩, fun p hp => by have := h7 p hp; omega, fun _ p hp => (h7 p hp).2.1, fun _ p hp => by rw [old p (h7 p hp).1 (h7 p hp).2.1]; exact (h7 p hp).2.2, fun _ => ⟨rfl, rfl⟩, fun e => by simp at e⟩
    split at hy
    · have := mkb [u1, u2] none none (by simp) (by simp) (by intro p hp; simp at hp; rcases hp with rfl | rfl; exact q1; exact q2)
      rw [← hy] at this; exact this
    · have := mkb [u1] none none (by simp) (by simp) (by intro p hp; simp at hp; rcases hp with rfl; exact q1)
      rw [← hy] at this; exact this
  split at hy
  · have hc : g.a.tmod 2 = 0 ∨ g.a.tmod 2 = 1 := by omega
    have hf : (fan (1 + g.a.tmod 2)).1 = 0 ∧ (fan (1 + g.a.tmod 2)).2 = 0 := by rcases hc with e | e <;> rw [e] <;> decide
    have := mk (1 + g.a.tmod 2) [] (some 0) (some true) (by omega) (by omega) (by omega) (by omega) (by rw [hf.1]; simp) (by rw [hf.2]; simp) (by simp)
    rw [← hy] at this; exact this
  · have := mk 3 [a'] none none (by omega) (by omega) (by omega) (by omega) (by simp [fan_at]) (by simp [fan_at]) one
    rw [← hy] at this; exact this

theorem gns_gates {B bus : Bool} : ∀ {l : List Gd} {ns : List Nd}, (∀ g ∈ l, GdOk g) → 1 ≤ ns.length → GNs B ns → GNs B (gatesN bus l ns)
  | [], ns, _, _, h => h
  | g :: l, ns, hg, h0, h => by
    simp only [gatesN]
    exact gns_gates (fun y hy => hg y (List.mem_cons_of_mem _ hy)) (by simp) (h.add (ng_gate (hg g List.mem_cons_self) h0))

theorem gns_set {B : Bool} {ns : List Nd} {j : Nat} {v : Int} (h : GNs B ns) (hj : j < ns.length) (hk : ns[j].k = 14) (hv : 0 ≤ v ∧ v < ns.length) : GNs B (setIn ns j v) := by
  have hm := (h j hj).mm.1 (by rw [hk]; decide)
  have hgd : ns.getD j Nd.d = ns[j] := by simp [List.getD_eq_getElem?_getD, hj]
  have kinds : ∀ q : Nat, ((setIn ns j v).getD q Nd.d).k = (ns.getD q Nd.d).k := fun q => by
    unfold setIn
    simp only [List.getD_eq_getElem?_getD, List.getElem?_set]
    split
    · rename_i e; subst e; simp [hj]
    · rfl
  intro i hi
  have hi' : i < ns.length := by rw [setIn_len] at hi; exact hi
  by_cases hij : i = j
  · subst hij
    have : (setIn ns i v)[i] = ⟨14, ⟨[v], some 1, some false⟩, 0, 0⟩ := by
      simp only [setIn, hgd, hk, hm.1, hm.2, List.getElem_set_self]
    rw [this]
    exact ⟨by simp, by simp [fan_at], by simp [setIn_len]; exact hv, by simp, by simp, by simp⟩
  · have : (setIn ns j v)[i] = ns[i] := by
      simp only [setIn]
      rw [List.getElem_set_ne (fun e => hij e.symm)]
    rw [this]
    have hn := h i hi'
    exact ⟨hn.k, hn.f, fun p hp => by rw [setIn_len]; exact hn.inn p hp, hn.top, fun hk p hp => by rw [kinds]; exact hn.bus hk p hp, hn.mm⟩

theorem setIn_kind {ns : List Nd} {j q : Nat} {v : Int} : ((setIn ns j v).getD q Nd.d).k = (ns.getD q Nd.d).k := by
  unfold setIn
  simp only [List.getD_eq_getElem?_getD, List.getElem?_set]
  split
  · rename_i e; subst e
    split
    · simp
    · rename_i h; simp [List.getElem?_eq_none (Nat.le_of_not_lt h)]
  · rfl

theorem gns_data {B : Bool} {x : CD} {first : Nat} (h0 : Byt x.d0) (h1 : Byt x.d1) : ∀ {k i : Nat} {ns : List Nd}, GNs B ns → (∀ q, q < i + k → first + q < ns.length ∧ (ns.getD (first + q) Nd.d).k = 14) → GNs B (dataN x first k i ns)
  | 0, _, _, h, _ => h
  | k + 1, i, ns, h, hq => by
    simp only [dataN]
    obtain ⟨hl, hk⟩ := hq i (by omega)
    have hd : 0 ≤ ddN x i := by unfold ddN; split; exact h0.1; exact h1.1
    have hv := tmod_lt (n := ns.length) hd (by omega)
    refine gns_data h0 h1 (gns_set h hl (by simpa [List.getD_eq_getElem?_getD, hl] using hk) hv) fun q hq' => ?_
    rw [setIn_len, setIn_kind]
    exact hq q (by omega)

theorem gatesN_kind {bus : Bool} : ∀ {l : List Gd} {ns : List Nd} {q : Nat}, q < ns.length → ((gatesN bus l ns).getD q Nd.d) = (ns.getD q Nd.d)
  | [], _, _, _ => rfl
  | g :: l, ns, q, h => by
    simp only [gatesN]
    rw [gatesN_kind (by simp; omega)]
    rw [List.getD_eq_getElem?_getD, List.getElem?_append_left h, ← List.getD_eq_getElem?_getD]

theorem gns_rep {B : Bool} {x : Nd} (h : ∀ ns : List Nd, 1 ≤ ns.length → ∀ i, NG B ns i x) : ∀ (k : Nat) {ns : List Nd}, GNs B ns → GNs B (ns ++ List.replicate k x)
  | 0, ns, hn => by simpa using hn
  | k + 1, ns, hn => by
    rw [List.replicate_succ, List.append_cons]
    exact gns_rep h k (hn.add (h _ (by simp) _))

theorem nodes5_good {x : CD} (hx : CDOk x) : GNs x.mem (nodes5 x) := by
  have m4 : 0 ≤ x.i.tmod 4 ∧ x.i.tmod 4 < 4 := tmod_lt (n := 4) hx.i.1 (by omega)
  have m3 : 0 ≤ x.f.tmod 3 ∧ x.f.tmod 3 < 3 := tmod_lt (n := 3) hx.f.1 (by omega)
  have g0 : GNs x.mem [] := fun i h => by simp at h
  have g1 : GNs x.mem (nodes1 x) := by
    have := gns_rep (B := x.mem) (x := inpN) (fun ns _ i => ng_inp) (x.i.tmod 4 + 1).toNat g0
    simpa [nodes1] using this
  have l1 : 1 ≤ (nodes1 x).length := by simp [nodes1]; omega
  have g2 : GNs x.mem (nodes2 x) := gns_rep (fun ns h i => ng_dff ⟨by omega, by omega⟩) _ g1
  have l2 : (nodes2 x).length = (nodes1 x).length + (x.f.tmod 3).toNat := by simp [nodes2]
  have g3 : GNs x.mem (nodes3 x) := by
    unfold nodes3
    split
    · rename_i hm
      rw [hm] at g2 ⊢
      have a1 := g2.add (y := memN 0) (ng_mem (.inl rfl))
      have a2 := a1.add (y := memN 1) (ng_mem (.inr rfl))
      rw [List.append_assoc] at a2
      exact a2
    · exact g2
  have l3 : (nodes2 x).length ≤ (nodes3 x).length := by unfold nodes3; split <;> simp
  have g4 : GNs x.mem (nodes4 x) := gns_gates (fun g hg => hx.gates g (List.mem_of_mem_take hg)) (by omega) g3
  have l4 : (nodes3 x).length ≤ (nodes4 x).length := by unfold nodes4; rw [gatesN_len]; omega
  refine gns_data hx.d0 hx.d1 g4 fun q hq => ⟨by omega, ?_⟩
  unfold nodes4
  rw [gatesN_kind (by omega)]
  have e : (nodes3 x).getD ((nodes1 x).length + q) Nd.d = (nodes2 x).getD ((nodes1 x).length + q) Nd.d := by
    unfold nodes3
    split
    · rw [List.getD_eq_getElem?_getD, List.getElem?_append_left (by omega), ← List.getD_eq_getElem?_getD]
    · rfl
  rw [e]
  unfold nodes2
  rw [List.getD_eq_getElem?_getD, List.getElem?_append_right (by omega)]
  simp only [Nat.add_sub_cancel_left]
  rw [List.getElem?_replicate, if_pos (by omega)]
  rfl

theorem firstErr_all {α : Type} {f : α → Int} : ∀ {l : List α}, (∀ x ∈ l, f x = 0) → firstErr (l.map f) = 0
  | [], _ => rfl
  | x :: l, h => by
    simp only [List.map_cons, firstErr, h x List.mem_cons_self, ne_eq, not_true_eq_false, if_false]
    exact firstErr_all fun y hy => h y (List.mem_cons_of_mem _ hy)

theorem names_fine : ∀ n, n ≤ 16 → namesErr [] ((List.range' 0 n).map nameL) = 0 := by
  intro n hn
  have : n = 0 ∨ n = 1 ∨ n = 2 ∨ n = 3 ∨ n = 4 ∨ n = 5 ∨ n = 6 ∨ n = 7 ∨ n = 8 ∨ n = 9 ∨ n = 10 ∨ n = 11 ∨ n = 12 ∨ n = 13 ∨ n = 14 ∨ n = 15 ∨ n = 16 := by omega
  rcases this with rfl | rfl | rfl | rfl | rfl | rfl | rfl | rfl | rfl | rfl | rfl | rfl | rfl | rfl | rfl | rfl | rfl <;> decide +kernel

theorem ofC_shape {x : CD} (hx : CDOk x) : shapeErr (ofC x) = 0 := by
  have hl := nodes4_len hx
  have h5 := nodes5_len hx
  have hg := nodes5_good hx
  have hN : (ofC x).nodes.l = nodes5 x := rfl
  have hmods : ∀ b, Byt b → 0 ≤ b.tmod (nodes4 x).length ∧ b.tmod (nodes4 x).length < (nodes5 x).length := fun b hb => by
    have := tmod_lt (n := (nodes4 x).length) hb.1 (by omega); omega
  have hout : ∀ n, 0 ≤ n ∧ n < ((nodes5 x).length : Int) → outP (ofC x) n = false := fun n h => by simp [outP, hN]; omega
  have hnode : ∀ y ∈ nodes5 x, nodeErr (ofC x) y = 0 := by
    intro y hy
    obtain ⟨i, hi, rfl⟩ := List.getElem_of_mem hy
    have hn := hg i hi
    unfold nodeErr
    rw [if_neg (by have := hn.k; omega), if_neg (by have := hn.f; omega)]
    have h1 : (nodes5 x)[i].inn.l.any (outP (ofC x)) = false := List.any_eq_false.2 fun p hp => by rw [hout p (hn.inn p hp)]; simp
    rw [h1]
    have h2 : ¬ ((nodes5 x)[i].k = 13 ∧ (nodes5 x)[i].inn.l.any (notTri (ofC x)) = true) := by
      rintro ⟨hk, ha⟩
      obtain ⟨p, hp, hq⟩ := List.any_eq_true.1 ha
      have := hn.bus hk p hp
      simp [notTri, hN] at hq
      rw [List.getD_eq_getElem?_getD] at this
      exact hq this
    rw [if_neg (by simp), if_neg h2]
    have h3 : bitOk (ofC x) (nodes5 x)[i] = true := by
      unfold bitOk
      by_cases hk : (nodes5 x)[i].k = 15
      · obtain ⟨hm, e1, e2, e3⟩ := hn.mm.2 hk
        simp only [hk, ne_eq, not_true_eq_false, if_false, decide_eq_true_eq]
        simp [ofC, memM, hm, e1]
        omega
      · have := hn.mm.1 hk
        simp [hk, this]
    rw [h3]; simp
  unfold shapeErr
  have e1 : ¬ (16384 < (ofC x).nodes.l.length ∨ 16 < (ofC x).mems.l.length ∨ 16384 < (ofC x).outs.l.length) := by
    have : (ofC x).mems.l.length ≤ 1 := by simp only [ofC, memM]; split <;> simp
    have : (ofC x).outs.l.length ≤ 4 := by simp [ofC]; omega
    rw [hN]; omega
  have e2 : (ofC x).names.l.length = (ofC x).nodes.l.length := by rw [hN]; simp [ofC]; omega
  rw [if_neg e1, if_neg (by simp [e2]), if_neg (by rw [hN, firstErr_all hnode]; simp), if_neg (by
    rw [show (ofC x).names.l = (List.range' 0 (nodes4 x).length).map nameL from rfl, names_fine _ hl.2]; simp), if_neg (by
    rw [firstErr_all]
    · simp
    · intro m hm
      simp only [ofC, memM] at hm
      split at hm
      · simp at hm; subst hm
        unfold memErr
        have a0 := hout _ (hmods _ hx.p0)
        have a1 := hout _ (hmods _ hx.p1)
        have a2 := hout _ (hmods _ hx.p2)
        have a3 := hout _ (hmods _ hx.p3)
        simp [memOut, a0, a1, a2, a3]
      · cases hm)]
  have ho : (ofC x).outs.l.any (outP (ofC x)) = false := by
    refine List.any_eq_false.2 fun p hp => ?_
    have : 0 ≤ p ∧ p < ((nodes5 x).length : Int) := by
      simp only [ofC, List.mem_append, List.mem_map, List.mem_singleton] at hp
      rcases hp with ⟨b, hb, rfl⟩ | rfl
      · exact hmods b (hx.outs b (List.mem_of_mem_take hb))
      · omega
    rw [hout p this]; simp
  rw [ho]; rfl

/-- Every circuit of plain data is valid. -/
theorem ofC_valid {x : CD} (hx : CDOk x) : levErr (ofC x) = 0 := by
  have hs := ofC_shape hx
  have hg := nodes5_good hx
  have hN : (ofC x).nodes.l = nodes5 x := rfl
  have hin : ∀ y ∈ (ofC x).nodes.l, ∀ p ∈ y.inn.l, 0 ≤ p ∧ p < (ofC x).nodes.l.length := by
    intro y hy p hp
    rw [hN] at hy ⊢
    obtain ⟨i, hi, rfl⟩ := List.getElem_of_mem hy
    exact (hg i hi).inn p hp
  have hd := levels_done (ofC x) (shape_facts hs).2.1 hin (by
    intro i hi hc p hp
    rw [hN] at hi
    have e : (ofC x).nodes.l.getD i Nd.d = (nodes5 x)[i] := by rw [hN]; simp [List.getD_eq_getElem?_getD, hi]
    simp only [kindAt, innAt, e] at hc hp
    exact (hg i hi).top (by simpa [combB] using hc) p hp)
  unfold levErr
  rw [if_neg (by simp [hs]), if_neg hd]

theorem ofC_plain {x : CD} (hx : CDOk x) (hm : x.mem = false) : plainErr (ofC x) = 0 := by
  have hv := ofC_valid hx
  have hg := nodes5_good hx
  have h1 : (ofC x).mems.l = [] := by simp [ofC, memM, hm]
  have h2 : mems (ofC x) = [] := by
    refine List.eq_nil_iff_forall_not_mem.2 fun n hn => ?_
    obtain ⟨a, b, h3⟩ := ofL_kind [15] (ofC x).nodes.l 0 n hn
    have hi : n.toNat < (nodes5 x).length := by have : (ofC x).nodes.l = nodes5 x := rfl; rw [this] at b; omega
    have hk : (nodes5 x)[n.toNat].k = 15 := by
      have : (ofC x).nodes.l = nodes5 x := rfl
      rw [this] at h3
      simpa [List.getD_eq_getElem?_getD, hi] using h3
    have := ((hg _ hi).mm.2 hk).1
    rw [hm] at this; cases this
  unfold plainErr
  rw [if_neg (by simp [hv]), h1, h2]; simp
end Go.Lg

/- The abstract code of some functions, as the program gen.py prints it. Conditions: none. -/
set_option linter.unusedVariables false
namespace Go.Lg
open Go
section
variable {P : Program} {Γ : Tables} {Q : AX → St → Prop} {s : St}
/- probecard/scans.Balance (function 13) -/
def scans_Balance_r0 : List RO := [
    ⟨some 2, .box true (.tmp 0), none, none⟩,
    ⟨some 4, .mv (.const (.slice none 0 0)), none, none⟩,
    ⟨some 5, .mv (.const (.int .i64 0)), none, none⟩]
def scans_Balance_r1 : List RO := [
    ⟨some 11, .load 4 true (.tmp 2), none, none⟩,
    ⟨some 12, .call 41 [(.tmp 11)], none, none⟩,
    ⟨some 6, .mv (.tmp 12), none, none⟩]
def scans_Balance_r2 : List RO := [
    ⟨some 14, .mv (.tmp 6), none, none⟩,
    ⟨some 15, .bin .neq (.tmp 14) (.const (.int .i64 0)), none, none⟩,
    ⟨some 13, .mv (.tmp 15), none, none⟩]
def scans_Balance_r3 : List RO := [
    ⟨some 16, .mv (.tmp 6), none, none⟩,
    ⟨some 4, .mv (.const (.slice none 0 0)), none, none⟩,
    ⟨some 5, .mv (.tmp 16), none, none⟩]
def scans_Balance_r4 : List RO := [
    ⟨some 18, .mv (.tmp 1), none, none⟩,
    ⟨some 19, .bin .lss (.tmp 18) (.const (.int .i64 1)), none, none⟩,
    ⟨some 17, .mv (.tmp 19), none, none⟩]
def scans_Balance_r5 : List RO := [
    ⟨some 4, .mv (.const (.slice none 0 0)), none, none⟩,
    ⟨some 5, .mv (.const (.int .i64 1)), none, none⟩]
def scans_Balance_r6 : List RO := [
    ⟨some 21, .mv (.tmp 1), none, none⟩,
    ⟨some 22, .bin .gtr (.tmp 21) (.const (.int .i64 64)), none, none⟩,
    ⟨some 20, .mv (.tmp 22), none, none⟩]
def scans_Balance_r7 : List RO := [
    ⟨some 4, .mv (.const (.slice none 0 0)), none, none⟩,
    ⟨some 5, .mv (.const (.int .i64 3)), none, none⟩]
def scans_Balance_r8 : List RO := [
    ⟨some 23, .load 4 true (.tmp 2), none, none⟩,
    ⟨some 24, .call 17 [(.tmp 23)], none, none⟩,
    ⟨some 7, .mv (.tmp 24), none, none⟩]
def scans_Balance_r9 : List RO := [
    ⟨some 25, .mv (.tmp 1), none, none⟩,
    ⟨some 26, .mv (.tmp 7), none, none⟩,
    ⟨some 27, .len 0 (.tmp 26), none, none⟩,
    ⟨some 28, .mmx false [(.tmp 25), (.tmp 27)], none, none⟩,
    ⟨some 1, .mv (.tmp 28), none, none⟩]
def scans_Balance_r10 : List RO := [
    ⟨some 8, .mv (.const (.slice none 0 0)), none, none⟩]
def scans_Balance_r11 : List RO := [
    ⟨some 29, .mv (.tmp 1), none, none⟩,
    ⟨some 30, .mv (.const (.int .i64 0)), none, none⟩]
def scans_Balance_r12 : List RO := [
    ⟨some 31, .bin .lss (.tmp 30) (.tmp 29), none, none⟩]
def scans_Balance_r13 : List RO := [
    ⟨some 32, .mv (.tmp 30), none, none⟩,
    ⟨some 9, .mv (.tmp 32), none, none⟩]
def scans_Balance_r14 : List RO := [
    ⟨some 33, .mv (.tmp 7), none, none⟩,
    ⟨some 34, .len 0 (.tmp 33), none, none⟩,
    ⟨some 35, .mv (.tmp 1), none, none⟩,
    ⟨some 36, .mv (.tmp 9), none, none⟩,
    ⟨some 37, .bin .sub (.tmp 35) (.tmp 36), none, none⟩,
    ⟨some 38, .bin .quo (.tmp 34) (.tmp 37), none, none⟩,
    ⟨some 10, .mv (.tmp 38), none, none⟩]
def scans_Balance_r15 : List RO := [
    ⟨some 39, .mv (.tmp 7), none, none⟩,
    ⟨some 40, .len 0 (.tmp 39), none, none⟩,
    ⟨some 41, .mv (.tmp 1), none, none⟩,
    ⟨some 42, .mv (.tmp 9), none, none⟩,
    ⟨some 43, .bin .sub (.tmp 41) (.tmp 42), none, none⟩,
    ⟨some 44, .bin .rem (.tmp 40) (.tmp 43), none, none⟩,
    ⟨some 45, .bin .gtr (.tmp 44) (.const (.int .i64 0)), none, none⟩]
def scans_Balance_r16 : List RO := [
    ⟨some 46, .mv (.tmp 10), none, none⟩,
    ⟨some 47, .bin .add (.tmp 46) (.const (.int .i64 1)), none, none⟩,
    ⟨some 10, .mv (.tmp 47), none, none⟩]
def scans_Balance_r17 : List RO := [
    ⟨some 48, .mv (.tmp 8), none, none⟩,
    ⟨some 49, .mv (.tmp 7), none, none⟩,
    ⟨some 50, .mv (.tmp 10), none, none⟩,
    ⟨some 51, .slice 1 (.tmp 49) none (some (.tmp 50)) none, none, none⟩,
    ⟨some 52, .call 43 [(.tmp 51)], none, none⟩,
    ⟨some 53, .call 42 [(.tmp 52)], none, none⟩,
    ⟨some 54, .bsl true 31 1 [(.tmp 53)], none, none⟩,
    ⟨some 55, .app false 31 1 (.tmp 48) (.tmp 54), none, none⟩,
    ⟨some 8, .mv (.tmp 55), none, none⟩]
def scans_Balance_r18 : List RO := [
    ⟨some 56, .mv (.tmp 7), none, none⟩,
    ⟨some 57, .mv (.tmp 10), none, none⟩,
    ⟨some 58, .slice 1 (.tmp 56) (some (.tmp 57)) none none, none, none⟩,
    ⟨some 7, .mv (.tmp 58), none, none⟩]
def scans_Balance_r19 : List RO := [
    ⟨some 59, .bin .add (.tmp 30) (.const (.int .i64 1)), none, none⟩,
    ⟨some 30, .mv (.tmp 59), none, none⟩]
def scans_Balance_g0 : IC := .gh (.seq (.reg scans_Balance_r12 [.keep [1, 7, 8, 29, 30, 31] [55]]) (.seq (.cond (.tmp 31) .skip (.exit 1)) (.seq (.block 2 (.seq (.reg scans_Balance_r13 [.keep [1, 7, 8, 9, 29, 30] [55]]) (.seq (.reg scans_Balance_r14 [.keep [1, 7, 8, 9, 10, 29, 30] [55]]) (.seq (.seq (.reg scans_Balance_r15 [.keep [1, 7, 8, 10, 29, 30, 45] [55]]) (.cond (.tmp 45) (.reg scans_Balance_r16 [.keep [1, 7, 8, 10, 29, 30] [55]]) .skip)) (.seq (.reg scans_Balance_r17 [.keep [1, 7, 8, 10, 29, 30] [55]]) (.reg scans_Balance_r18 [.keep [1, 7, 8, 29, 30] [55]])))))) (.reg scans_Balance_r19 [.keep [1, 7, 8, 29, 30] [55]])))) [.keep [1, 7, 8, 29, 30] [55]]
def scans_Balance_l1 : IC := .loop scans_Balance_g0
def scans_Balance_r20 : List RO := [
    ⟨some 60, .mv (.tmp 8), none, none⟩,
    ⟨some 61, .call 44 [(.tmp 60)], none, none⟩,
    ⟨some 4, .mv (.tmp 61), none, none⟩,
    ⟨some 5, .mv (.const (.int .i64 0)), none, none⟩]
def scans_Balance_ic : IC := (.seq (.reg scans_Balance_r0 [.keep [1, 2] []]) (.seq (.seq (.reg scans_Balance_r1 [.keep [1, 2, 6] []]) (.block 0 (.seq (.reg scans_Balance_r2 [.keep [1, 2, 6, 13] []]) (.cond (.tmp 13) (.seq (.reg scans_Balance_r3 [.keep [4, 5] []]) .ret) (.seq (.reg scans_Balance_r4 [.keep [1, 2, 17] []]) (.cond (.tmp 17) (.seq (.reg scans_Balance_r5 [.keep [4, 5] []]) .ret) (.seq (.reg scans_Balance_r6 [.keep [1, 2, 20] []]) (.cond (.tmp 20) (.seq (.reg scans_Balance_r7 [.keep [4, 5] []]) .ret) .skip)))))))) (.seq (.reg scans_Balance_r8 [.keep [1, 7] []]) (.seq (.reg scans_Balance_r9 [.keep [1, 7] []]) (.seq (.reg scans_Balance_r10 [.nl 8 55 31 1, .keep [1, 7, 8] [55]]) (.seq (.seq (.reg scans_Balance_r11 [.keep [1, 7, 8, 29, 30] [55]]) (.gh (.block 1 scans_Balance_l1) [.frz 55])) (.seq (.reg scans_Balance_r20 [.keep [4, 5] []]) .ret)))))))
@[simp ↓] theorem scans_Balance_g0_run : run P Γ scans_Balance_g0 Q s = run P Γ (.gh (.seq (.reg scans_Balance_r12 [.keep [1, 7, 8, 29, 30, 31] [55]]) (.seq (.cond (.tmp 31) .skip (.exit 1)) (.seq (.block 2 (.seq (.reg scans_Balance_r13 [.keep [1, 7, 8, 9, 29, 30] [55]]) (.seq (.reg scans_Balance_r14 [.keep [1, 7, 8, 9, 10, 29, 30] [55]]) (.seq (.seq (.reg scans_Balance_r15 [.keep [1, 7, 8, 10, 29, 30, 45] [55]]) (.cond (.tmp 45) (.reg scans_Balance_r16 [.keep [1, 7, 8, 10, 29, 30] [55]]) .skip)) (.seq (.reg scans_Balance_r17 [.keep [1, 7, 8, 10, 29, 30] [55]]) (.reg scans_Balance_r18 [.keep [1, 7, 8, 29, 30] [55]])))))) (.reg scans_Balance_r19 [.keep [1, 7, 8, 29, 30] [55]])))) [.keep [1, 7, 8, 29, 30] [55]]) Q s := Eq.trans rfl rfl
@[simp ↓] theorem scans_Balance_ic_run : run P Γ scans_Balance_ic Q s = run P Γ (.seq (.reg scans_Balance_r0 [.keep [1, 2] []]) (.seq (.seq (.reg scans_Balance_r1 [.keep [1, 2, 6] []]) (.block 0 (.seq (.reg scans_Balance_r2 [.keep [1, 2, 6, 13] []]) (.cond (.tmp 13) (.seq (.reg scans_Balance_r3 [.keep [4, 5] []]) .ret) (.seq (.reg scans_Balance_r4 [.keep [1, 2, 17] []]) (.cond (.tmp 17) (.seq (.reg scans_Balance_r5 [.keep [4, 5] []]) .ret) (.seq (.reg scans_Balance_r6 [.keep [1, 2, 20] []]) (.cond (.tmp 20) (.seq (.reg scans_Balance_r7 [.keep [4, 5] []]) .ret) .skip)))))))) (.seq (.reg scans_Balance_r8 [.keep [1, 7] []]) (.seq (.reg scans_Balance_r9 [.keep [1, 7] []]) (.seq (.reg scans_Balance_r10 [.nl 8 55 31 1, .keep [1, 7, 8] [55]]) (.seq (.seq (.reg scans_Balance_r11 [.keep [1, 7, 8, 29, 30] [55]]) (.gh (.block 1 scans_Balance_l1) [.frz 55])) (.seq (.reg scans_Balance_r20 [.keep [4, 5] []]) .ret))))))) Q s := Eq.trans rfl rfl
theorem scans_Balance_l1_run (h : ∀ K : St → Prop, K = run P Γ scans_Balance_l1 Q → run P Γ scans_Balance_g0 (thenX K Q) s) : run P Γ scans_Balance_l1 Q s := run_loop h
attribute [simp] scans_Balance_r0 scans_Balance_r1 scans_Balance_r2 scans_Balance_r3 scans_Balance_r4 scans_Balance_r5 scans_Balance_r6 scans_Balance_r7 scans_Balance_r8 scans_Balance_r9 scans_Balance_r10 scans_Balance_r11 scans_Balance_r12 scans_Balance_r13 scans_Balance_r14 scans_Balance_r15 scans_Balance_r16 scans_Balance_r17 scans_Balance_r18 scans_Balance_r19 scans_Balance_r20
def scans_Balance_rv : List RV := [.tmp 4, .tmp 5]

/- probecard/scans.Check (function 18) -/
def scans_Check_r0 : List RO := [
    ⟨some 2, .box true (.tmp 0), none, none⟩,
    ⟨some 4, .mv (.const (.int .i64 0)), none, none⟩]
def scans_Check_r1 : List RO := [
    ⟨some 11, .load 4 true (.tmp 2), none, none⟩,
    ⟨some 12, .call 41 [(.tmp 11)], none, none⟩,
    ⟨some 5, .mv (.tmp 12), none, none⟩]
def scans_Check_r2 : List RO := [
    ⟨some 13, .mv (.tmp 5), none, none⟩,
    ⟨some 14, .bin .neq (.tmp 13) (.const (.int .i64 0)), none, none⟩]
def scans_Check_r3 : List RO := [
    ⟨some 15, .mv (.tmp 5), none, none⟩,
    ⟨some 4, .mv (.tmp 15), none, none⟩]
def scans_Check_r4 : List RO := [
    ⟨some 16, .mv (.tmp 1), none, none⟩,
    ⟨some 17, .len 0 (.tmp 16), none, none⟩,
    ⟨some 18, .bin .gtr (.tmp 17) (.const (.int .i64 64)), none, none⟩]
def scans_Check_r5 : List RO := [
    ⟨some 4, .mv (.const (.int .i64 3)), none, none⟩]
def scans_Check_r6 : List RO := [
    ⟨some 19, .mkmap, none, none⟩,
    ⟨some 6, .mv (.tmp 19), none, none⟩]
def scans_Check_r7 : List RO := [
    ⟨some 20, .mv (.tmp 1), none, none⟩,
    ⟨some 21, .len 0 (.tmp 20), none, none⟩,
    ⟨some 22, .mv (.const (.int .i64 0)), none, none⟩]
def scans_Check_r8 : List RO := [
    ⟨some 23, .bin .lss (.tmp 22) (.tmp 21), none, none⟩]
def scans_Check_r9 : List RO := [
    ⟨some 24, .iadr 1 (.tmp 20) (.tmp 22), none, none⟩,
    ⟨some 25, .load 1 false (.tmp 24), none, none⟩,
    ⟨some 8, .mv (.tmp 25), none, none⟩]
def scans_Check_r10 : List RO := [
    ⟨some 26, .mv (.tmp 8), none, none⟩,
    ⟨some 27, .len 0 (.tmp 26), none, none⟩,
    ⟨some 28, .bin .eql (.tmp 27) (.const (.int .i64 0)), none, none⟩]
def scans_Check_r11 : List RO := [
    ⟨some 4, .mv (.const (.int .i64 1)), none, none⟩]
def scans_Check_r12 : List RO := [
    ⟨some 29, .mv (.tmp 8), none, none⟩,
    ⟨some 30, .len 0 (.tmp 29), none, none⟩,
    ⟨some 31, .mv (.const (.int .i64 0)), none, none⟩]
def scans_Check_r13 : List RO := [
    ⟨some 32, .bin .lss (.tmp 31) (.tmp 30), none, none⟩]
def scans_Check_r14 : List RO := [
    ⟨some 33, .iadr 1 (.tmp 29) (.tmp 31), none, none⟩,
    ⟨some 34, .load 1 false (.tmp 33), none, none⟩,
    ⟨some 10, .mv (.tmp 34), none, none⟩]
def scans_Check_r15 : List RO := [
    ⟨some 35, .mv (.tmp 10), none, none⟩,
    ⟨some 36, .bin .lss (.tmp 35) (.const (.int .i64 0)), none, none⟩,
    ⟨some 37, .mv (.tmp 36), none, none⟩,
    ⟨some 38, .mv (.tmp 10), some (37, false), none⟩,
    ⟨some 39, .fadr 0 (.tmp 2), some (37, false), none⟩,
    ⟨some 40, .load 1 false (.tmp 39), some (37, false), none⟩,
    ⟨some 41, .len 0 (.tmp 40), some (37, false), none⟩,
    ⟨some 42, .bin .geq (.tmp 38) (.tmp 41), some (37, false), none⟩,
    ⟨some 43, .pick (.tmp 37) (.const (.bool true)) (.tmp 42), none, none⟩,
    ⟨some 44, .mv (.tmp 43), none, none⟩,
    ⟨some 45, .fadr 0 (.tmp 2), some (44, false), none⟩,
    ⟨some 46, .load 1 false (.tmp 45), some (44, false), none⟩,
    ⟨some 47, .mv (.tmp 10), some (44, false), none⟩,
    ⟨some 48, .iadr 4 (.tmp 46) (.tmp 47), some (44, false), none⟩,
    ⟨some 49, .fadr 0 (.tmp 48), some (44, false), none⟩,
    ⟨some 50, .load 1 false (.tmp 49), some (44, false), none⟩,
    ⟨some 51, .bin .neq (.tmp 50) (.const (.int .u8 14)), some (44, false), none⟩,
    ⟨some 52, .pick (.tmp 44) (.const (.bool true)) (.tmp 51), none, none⟩,
    ⟨some 53, .mv (.tmp 52), none, none⟩,
    ⟨some 54, .mv (.tmp 6), some (53, false), none⟩,
    ⟨some 55, .mv (.tmp 10), some (53, false), none⟩,
    ⟨some 56, .lkup (.int .i64) (.bool false) false (.tmp 54) (.tmp 55), some (53, false), none⟩,
    ⟨some 57, .pick (.tmp 53) (.const (.bool true)) (.tmp 56), none, none⟩]
def scans_Check_r16 : List RO := [
    ⟨some 4, .mv (.const (.int .i64 1)), none, none⟩]
def scans_Check_r17 : List RO := [
    ⟨some 58, .mv (.tmp 6), none, none⟩,
    ⟨some 59, .mv (.tmp 10), none, none⟩,
    ⟨none, .mup (.int .i64) (.tmp 58) (.tmp 59) (.const (.bool true)), none, none⟩]
def scans_Check_r18 : List RO := [
    ⟨some 60, .bin .add (.tmp 31) (.const (.int .i64 1)), none, none⟩,
    ⟨some 31, .mv (.tmp 60), none, none⟩]
def scans_Check_g0 : IC := .gh (.seq (.reg scans_Check_r13 [.keep [2, 6, 20, 21, 22, 29, 30, 31, 32] [19]]) (.seq (.cond (.tmp 32) .skip (.exit 2)) (.seq (.block 3 (.seq (.reg scans_Check_r14 [.keep [2, 6, 10, 20, 21, 22, 29, 30, 31] [19]]) (.seq (.seq (.reg scans_Check_r15 [.keep [2, 6, 10, 20, 21, 22, 29, 30, 31, 57] [19]]) (.cond (.tmp 57) (.seq (.reg scans_Check_r16 [.keep [4] []]) .ret) .skip)) (.reg scans_Check_r17 [.keep [2, 6, 20, 21, 22, 29, 30, 31] [19]])))) (.reg scans_Check_r18 [.keep [2, 6, 20, 21, 22, 29, 30, 31] [19]])))) [.keep [2, 6, 20, 21, 22, 29, 30, 31] [19]]
def scans_Check_l1 : IC := .loop scans_Check_g0
def scans_Check_r19 : List RO := [
    ⟨some 61, .bin .add (.tmp 22) (.const (.int .i64 1)), none, none⟩,
    ⟨some 22, .mv (.tmp 61), none, none⟩]
def scans_Check_g2 : IC := .gh (.seq (.reg scans_Check_r8 [.keep [2, 6, 20, 21, 22, 23] [19]]) (.seq (.cond (.tmp 23) .skip (.exit 0)) (.seq (.block 1 (.seq (.reg scans_Check_r9 [.keep [2, 6, 8, 20, 21, 22] [19]]) (.seq (.seq (.reg scans_Check_r10 [.keep [2, 6, 8, 20, 21, 22, 28] [19]]) (.cond (.tmp 28) (.seq (.reg scans_Check_r11 [.keep [4] []]) .ret) .skip)) (.seq (.reg scans_Check_r12 [.keep [2, 6, 20, 21, 22, 29, 30, 31] [19]]) (.block 2 scans_Check_l1))))) (.reg scans_Check_r19 [.keep [2, 6, 20, 21, 22] [19]])))) [.keep [2, 6, 20, 21, 22] [19]]
def scans_Check_l3 : IC := .loop scans_Check_g2
def scans_Check_r20 : List RO := [
    ⟨some 62, .mv (.tmp 6), none, none⟩,
    ⟨some 63, .len 2 (.tmp 62), none, none⟩,
    ⟨some 64, .load 4 true (.tmp 2), none, none⟩,
    ⟨some 65, .call 17 [(.tmp 64)], none, none⟩,
    ⟨some 66, .len 0 (.tmp 65), none, none⟩,
    ⟨some 67, .bin .neq (.tmp 63) (.tmp 66), none, none⟩]
def scans_Check_r21 : List RO := [
    ⟨some 4, .mv (.const (.int .i64 8)), none, none⟩]
def scans_Check_r22 : List RO := [
    ⟨some 4, .mv (.const (.int .i64 0)), none, none⟩]
def scans_Check_ic : IC := (.seq (.reg scans_Check_r0 [.keep [1, 2] []]) (.seq (.seq (.reg scans_Check_r1 [.keep [1, 2, 5] []]) (.seq (.reg scans_Check_r2 [.keep [1, 2, 5, 14] []]) (.cond (.tmp 14) (.seq (.reg scans_Check_r3 [.keep [4] []]) .ret) .skip))) (.seq (.seq (.reg scans_Check_r4 [.keep [1, 2, 18] []]) (.cond (.tmp 18) (.seq (.reg scans_Check_r5 [.keep [4] []]) .ret) .skip)) (.seq (.reg scans_Check_r6 [.keep [1, 2, 6] [19]]) (.seq (.seq (.reg scans_Check_r7 [.keep [2, 6, 20, 21, 22] [19]]) (.block 0 scans_Check_l3)) (.seq (.seq (.reg scans_Check_r20 [.keep [67] []]) (.cond (.tmp 67) (.seq (.reg scans_Check_r21 [.keep [4] []]) .ret) .skip)) (.seq (.reg scans_Check_r22 [.keep [4] []]) .ret)))))))
@[simp ↓] theorem scans_Check_g0_run : run P Γ scans_Check_g0 Q s = run P Γ (.gh (.seq (.reg scans_Check_r13 [.keep [2, 6, 20, 21, 22, 29, 30, 31, 32] [19]]) (.seq (.cond (.tmp 32) .skip (.exit 2)) (.seq (.block 3 (.seq (.reg scans_Check_r14 [.keep [2, 6, 10, 20, 21, 22, 29, 30, 31] [19]]) (.seq (.seq (.reg scans_Check_r15 [.keep [2, 6, 10, 20, 21, 22, 29, 30, 31, 57] [19]]) (.cond (.tmp 57) (.seq (.reg scans_Check_r16 [.keep [4] []]) .ret) .skip)) (.reg scans_Check_r17 [.keep [2, 6, 20, 21, 22, 29, 30, 31] [19]])))) (.reg scans_Check_r18 [.keep [2, 6, 20, 21, 22, 29, 30, 31] [19]])))) [.keep [2, 6, 20, 21, 22, 29, 30, 31] [19]]) Q s := Eq.trans rfl rfl
@[simp ↓] theorem scans_Check_g2_run : run P Γ scans_Check_g2 Q s = run P Γ (.gh (.seq (.reg scans_Check_r8 [.keep [2, 6, 20, 21, 22, 23] [19]]) (.seq (.cond (.tmp 23) .skip (.exit 0)) (.seq (.block 1 (.seq (.reg scans_Check_r9 [.keep [2, 6, 8, 20, 21, 22] [19]]) (.seq (.seq (.reg scans_Check_r10 [.keep [2, 6, 8, 20, 21, 22, 28] [19]]) (.cond (.tmp 28) (.seq (.reg scans_Check_r11 [.keep [4] []]) .ret) .skip)) (.seq (.reg scans_Check_r12 [.keep [2, 6, 20, 21, 22, 29, 30, 31] [19]]) (.block 2 scans_Check_l1))))) (.reg scans_Check_r19 [.keep [2, 6, 20, 21, 22] [19]])))) [.keep [2, 6, 20, 21, 22] [19]]) Q s := Eq.trans rfl rfl
@[simp ↓] theorem scans_Check_ic_run : run P Γ scans_Check_ic Q s = run P Γ (.seq (.reg scans_Check_r0 [.keep [1, 2] []]) (.seq (.seq (.reg scans_Check_r1 [.keep [1, 2, 5] []]) (.seq (.reg scans_Check_r2 [.keep [1, 2, 5, 14] []]) (.cond (.tmp 14) (.seq (.reg scans_Check_r3 [.keep [4] []]) .ret) .skip))) (.seq (.seq (.reg scans_Check_r4 [.keep [1, 2, 18] []]) (.cond (.tmp 18) (.seq (.reg scans_Check_r5 [.keep [4] []]) .ret) .skip)) (.seq (.reg scans_Check_r6 [.keep [1, 2, 6] [19]]) (.seq (.seq (.reg scans_Check_r7 [.keep [2, 6, 20, 21, 22] [19]]) (.block 0 scans_Check_l3)) (.seq (.seq (.reg scans_Check_r20 [.keep [67] []]) (.cond (.tmp 67) (.seq (.reg scans_Check_r21 [.keep [4] []]) .ret) .skip)) (.seq (.reg scans_Check_r22 [.keep [4] []]) .ret))))))) Q s := Eq.trans rfl rfl
theorem scans_Check_l1_run (h : ∀ K : St → Prop, K = run P Γ scans_Check_l1 Q → run P Γ scans_Check_g0 (thenX K Q) s) : run P Γ scans_Check_l1 Q s := run_loop h
theorem scans_Check_l3_run (h : ∀ K : St → Prop, K = run P Γ scans_Check_l3 Q → run P Γ scans_Check_g2 (thenX K Q) s) : run P Γ scans_Check_l3 Q s := run_loop h
attribute [simp] scans_Check_r0 scans_Check_r1 scans_Check_r2 scans_Check_r3 scans_Check_r4 scans_Check_r5 scans_Check_r6 scans_Check_r7 scans_Check_r8 scans_Check_r9 scans_Check_r10 scans_Check_r11 scans_Check_r12 scans_Check_r13 scans_Check_r14 scans_Check_r15 scans_Check_r16 scans_Check_r17 scans_Check_r18 scans_Check_r19 scans_Check_r20 scans_Check_r21 scans_Check_r22
def scans_Check_rv : List RV := [.tmp 4]

/- probecard/scans.Length (function 21) -/
def scans_Length_r0 : List RO := [
    ⟨some 3, .box true (.tmp 0), none, none⟩,
    ⟨some 6, .mv (.const (.int .i64 0)), none, none⟩,
    ⟨some 7, .mv (.const (.int .i64 0)), none, none⟩]
def scans_Length_r1 : List RO := [
    ⟨some 14, .load 4 true (.tmp 3), none, none⟩,
    ⟨some 15, .mv (.tmp 1), none, none⟩,
    ⟨some 16, .mv (.tmp 2), none, none⟩,
    ⟨some 17, .call 49 [(.tmp 14), (.tmp 15), (.tmp 16)], none, none⟩,
    ⟨some 13, .mv (.tmp 17), none, none⟩,
    ⟨some 18, .ext (.tmp 13) 0, none, none⟩,
    ⟨some 19, .ext (.tmp 13) 1, none, none⟩,
    ⟨some 8, .mv (.tmp 18), none, none⟩,
    ⟨some 9, .mv (.tmp 19), none, none⟩]
def scans_Length_r2 : List RO := [
    ⟨some 10, .mv (.const (.int .i64 0)), none, none⟩]
def scans_Length_r3 : List RO := [
    ⟨some 20, .mv (.tmp 1), none, none⟩,
    ⟨some 21, .len 0 (.tmp 20), none, none⟩,
    ⟨some 22, .mv (.const (.int .i64 0)), none, none⟩]
def scans_Length_r4 : List RO := [
    ⟨some 23, .bin .lss (.tmp 22) (.tmp 21), none, none⟩]
def scans_Length_r5 : List RO := [
    ⟨some 24, .iadr 1 (.tmp 20) (.tmp 22), none, none⟩,
    ⟨some 25, .load 1 false (.tmp 24), none, none⟩,
    ⟨some 12, .mv (.tmp 25), none, none⟩]
def scans_Length_r6 : List RO := [
    ⟨some 26, .mv (.tmp 10), none, none⟩,
    ⟨some 27, .mv (.tmp 12), none, none⟩,
    ⟨some 28, .mv (.tmp 8), none, none⟩,
    ⟨some 29, .call 50 [(.tmp 27), (.tmp 28)], none, none⟩,
    ⟨some 30, .bin .add (.tmp 26) (.tmp 29), none, none⟩,
    ⟨some 10, .mv (.tmp 30), none, none⟩]
def scans_Length_r7 : List RO := [
    ⟨some 31, .bin .add (.tmp 22) (.const (.int .i64 1)), none, none⟩,
    ⟨some 22, .mv (.tmp 31), none, none⟩]
def scans_Length_g0 : IC := .gh (.seq (.reg scans_Length_r4 [.keep [8, 9, 10, 20, 21, 22, 23] []]) (.seq (.cond (.tmp 23) .skip (.exit 0)) (.seq (.block 1 (.seq (.reg scans_Length_r5 [.keep [8, 9, 10, 12, 20, 21, 22] []]) (.reg scans_Length_r6 [.keep [8, 9, 10, 20, 21, 22] []]))) (.reg scans_Length_r7 [.keep [8, 9, 10, 20, 21, 22] []])))) [.keep [8, 9, 10, 20, 21, 22] []]
def scans_Length_l1 : IC := .loop scans_Length_g0
def scans_Length_r8 : List RO := [
    ⟨some 32, .mv (.tmp 9), none, none⟩,
    ⟨some 33, .bin .neq (.tmp 32) (.const (.int .i64 0)), none, none⟩]
def scans_Length_r9 : List RO := [
    ⟨some 34, .mv (.tmp 9), none, none⟩,
    ⟨some 6, .mv (.const (.int .i64 0)), none, none⟩,
    ⟨some 7, .mv (.tmp 34), none, none⟩]
def scans_Length_r10 : List RO := [
    ⟨some 35, .mv (.tmp 10), none, none⟩,
    ⟨some 6, .mv (.tmp 35), none, none⟩,
    ⟨some 7, .mv (.const (.int .i64 0)), none, none⟩]
def scans_Length_ic : IC := (.seq (.reg scans_Length_r0 [.keep [1, 2, 3] []]) (.seq (.reg scans_Length_r1 [.keep [1, 8, 9] []]) (.seq (.reg scans_Length_r2 [.keep [1, 8, 9, 10] []]) (.seq (.seq (.reg scans_Length_r3 [.keep [8, 9, 10, 20, 21, 22] []]) (.block 0 scans_Length_l1)) (.seq (.seq (.reg scans_Length_r8 [.keep [9, 10, 33] []]) (.cond (.tmp 33) (.seq (.reg scans_Length_r9 [.keep [6, 7] []]) .ret) .skip)) (.seq (.reg scans_Length_r10 [.keep [6, 7] []]) .ret))))))
@[simp ↓] theorem scans_Length_g0_run : run P Γ scans_Length_g0 Q s = run P Γ (.gh (.seq (.reg scans_Length_r4 [.keep [8, 9, 10, 20, 21, 22, 23] []]) (.seq (.cond (.tmp 23) .skip (.exit 0)) (.seq (.block 1 (.seq (.reg scans_Length_r5 [.keep [8, 9, 10, 12, 20, 21, 22] []]) (.reg scans_Length_r6 [.keep [8, 9, 10, 20, 21, 22] []]))) (.reg scans_Length_r7 [.keep [8, 9, 10, 20, 21, 22] []])))) [.keep [8, 9, 10, 20, 21, 22] []]) Q s := Eq.trans rfl rfl
@[simp ↓] theorem scans_Length_ic_run : run P Γ scans_Length_ic Q s = run P Γ (.seq (.reg scans_Length_r0 [.keep [1, 2, 3] []]) (.seq (.reg scans_Length_r1 [.keep [1, 8, 9] []]) (.seq (.reg scans_Length_r2 [.keep [1, 8, 9, 10] []]) (.seq (.seq (.reg scans_Length_r3 [.keep [8, 9, 10, 20, 21, 22] []]) (.block 0 scans_Length_l1)) (.seq (.seq (.reg scans_Length_r8 [.keep [9, 10, 33] []]) (.cond (.tmp 33) (.seq (.reg scans_Length_r9 [.keep [6, 7] []]) .ret) .skip)) (.seq (.reg scans_Length_r10 [.keep [6, 7] []]) .ret)))))) Q s := Eq.trans rfl rfl
theorem scans_Length_l1_run (h : ∀ K : St → Prop, K = run P Γ scans_Length_l1 Q → run P Γ scans_Length_g0 (thenX K Q) s) : run P Γ scans_Length_l1 Q s := run_loop h
attribute [simp] scans_Length_r0 scans_Length_r1 scans_Length_r2 scans_Length_r3 scans_Length_r4 scans_Length_r5 scans_Length_r6 scans_Length_r7 scans_Length_r8 scans_Length_r9 scans_Length_r10
def scans_Length_rv : List RV := [.tmp 6, .tmp 7]

/- probecard/scans.Shorten (function 22) -/
def scans_Shorten_r0 : List RO := [
    ⟨some 3, .box true (.tmp 0), none, none⟩,
    ⟨some 6, .mv (.const (.slice none 0 0)), none, none⟩,
    ⟨some 7, .mv (.const (.int .i64 0)), none, none⟩]
def scans_Shorten_r1 : List RO := [
    ⟨some 14, .load 4 true (.tmp 3), none, none⟩,
    ⟨some 15, .mv (.tmp 1), none, none⟩,
    ⟨some 16, .mv (.tmp 2), none, none⟩,
    ⟨some 17, .call 49 [(.tmp 14), (.tmp 15), (.tmp 16)], none, none⟩,
    ⟨some 13, .mv (.tmp 17), none, none⟩,
    ⟨some 18, .ext (.tmp 13) 0, none, none⟩,
    ⟨some 19, .ext (.tmp 13) 1, none, none⟩,
    ⟨some 8, .mv (.tmp 18), none, none⟩,
    ⟨some 9, .mv (.tmp 19), none, none⟩]
def scans_Shorten_r2 : List RO := [
    ⟨some 20, .mv (.tmp 9), none, none⟩,
    ⟨some 21, .bin .neq (.tmp 20) (.const (.int .i64 0)), none, none⟩]
def scans_Shorten_r3 : List RO := [
    ⟨some 22, .mv (.tmp 9), none, none⟩,
    ⟨some 6, .mv (.const (.slice none 0 0)), none, none⟩,
    ⟨some 7, .mv (.tmp 22), none, none⟩]
def scans_Shorten_r4 : List RO := [
    ⟨some 10, .mv (.const (.slice none 0 0)), none, none⟩]
def scans_Shorten_r5 : List RO := [
    ⟨some 23, .mv (.tmp 1), none, none⟩,
    ⟨some 24, .len 0 (.tmp 23), none, none⟩,
    ⟨some 25, .mv (.const (.int .i64 0)), none, none⟩]
def scans_Shorten_r6 : List RO := [
    ⟨some 26, .bin .lss (.tmp 25) (.tmp 24), none, none⟩]
def scans_Shorten_r7 : List RO := [
    ⟨some 27, .iadr 1 (.tmp 23) (.tmp 25), none, none⟩,
    ⟨some 28, .load 1 false (.tmp 27), none, none⟩,
    ⟨some 12, .mv (.tmp 28), none, none⟩]
def scans_Shorten_r8 : List RO := [
    ⟨some 29, .mv (.tmp 10), none, none⟩,
    ⟨some 30, .mv (.tmp 12), none, none⟩,
    ⟨some 31, .mv (.tmp 8), none, none⟩,
    ⟨some 32, .call 51 [(.tmp 30), (.tmp 31)], none, none⟩,
    ⟨some 33, .bsl true 31 1 [(.tmp 32)], none, none⟩,
    ⟨some 34, .app false 31 1 (.tmp 29) (.tmp 33), none, none⟩,
    ⟨some 10, .mv (.tmp 34), none, none⟩]
def scans_Shorten_r9 : List RO := [
    ⟨some 35, .bin .add (.tmp 25) (.const (.int .i64 1)), none, none⟩,
    ⟨some 25, .mv (.tmp 35), none, none⟩]
def scans_Shorten_g0 : IC := .gh (.seq (.reg scans_Shorten_r6 [.keep [8, 10, 23, 24, 25, 26] [34]]) (.seq (.cond (.tmp 26) .skip (.exit 0)) (.seq (.block 1 (.seq (.reg scans_Shorten_r7 [.keep [8, 10, 12, 23, 24, 25] [34]]) (.reg scans_Shorten_r8 [.keep [8, 10, 23, 24, 25] [34]]))) (.reg scans_Shorten_r9 [.keep [8, 10, 23, 24, 25] [34]])))) [.keep [8, 10, 23, 24, 25] [34]]
def scans_Shorten_l1 : IC := .loop scans_Shorten_g0
def scans_Shorten_r10 : List RO := [
    ⟨some 36, .mv (.tmp 10), none, none⟩,
    ⟨some 37, .call 44 [(.tmp 36)], none, none⟩,
    ⟨some 6, .mv (.tmp 37), none, none⟩,
    ⟨some 7, .mv (.const (.int .i64 0)), none, none⟩]
def scans_Shorten_ic : IC := (.seq (.reg scans_Shorten_r0 [.keep [1, 2, 3] []]) (.seq (.reg scans_Shorten_r1 [.keep [1, 8, 9] []]) (.seq (.seq (.reg scans_Shorten_r2 [.keep [1, 8, 9, 21] []]) (.cond (.tmp 21) (.seq (.reg scans_Shorten_r3 [.keep [6, 7] []]) .ret) .skip)) (.seq (.reg scans_Shorten_r4 [.nl 10 34 31 1, .keep [1, 8, 10] [34]]) (.seq (.seq (.reg scans_Shorten_r5 [.keep [8, 10, 23, 24, 25] [34]]) (.gh (.block 0 scans_Shorten_l1) [.frz 34])) (.seq (.reg scans_Shorten_r10 [.keep [6, 7] []]) .ret))))))
@[simp ↓] theorem scans_Shorten_g0_run : run P Γ scans_Shorten_g0 Q s = run P Γ (.gh (.seq (.reg scans_Shorten_r6 [.keep [8, 10, 23, 24, 25, 26] [34]]) (.seq (.cond (.tmp 26) .skip (.exit 0)) (.seq (.block 1 (.seq (.reg scans_Shorten_r7 [.keep [8, 10, 12, 23, 24, 25] [34]]) (.reg scans_Shorten_r8 [.keep [8, 10, 23, 24, 25] [34]]))) (.reg scans_Shorten_r9 [.keep [8, 10, 23, 24, 25] [34]])))) [.keep [8, 10, 23, 24, 25] [34]]) Q s := Eq.trans rfl rfl
@[simp ↓] theorem scans_Shorten_ic_run : run P Γ scans_Shorten_ic Q s = run P Γ (.seq (.reg scans_Shorten_r0 [.keep [1, 2, 3] []]) (.seq (.reg scans_Shorten_r1 [.keep [1, 8, 9] []]) (.seq (.seq (.reg scans_Shorten_r2 [.keep [1, 8, 9, 21] []]) (.cond (.tmp 21) (.seq (.reg scans_Shorten_r3 [.keep [6, 7] []]) .ret) .skip)) (.seq (.reg scans_Shorten_r4 [.nl 10 34 31 1, .keep [1, 8, 10] [34]]) (.seq (.seq (.reg scans_Shorten_r5 [.keep [8, 10, 23, 24, 25] [34]]) (.gh (.block 0 scans_Shorten_l1) [.frz 34])) (.seq (.reg scans_Shorten_r10 [.keep [6, 7] []]) .ret)))))) Q s := Eq.trans rfl rfl
theorem scans_Shorten_l1_run (h : ∀ K : St → Prop, K = run P Γ scans_Shorten_l1 Q → run P Γ scans_Shorten_g0 (thenX K Q) s) : run P Γ scans_Shorten_l1 Q s := run_loop h
attribute [simp] scans_Shorten_r0 scans_Shorten_r1 scans_Shorten_r2 scans_Shorten_r3 scans_Shorten_r4 scans_Shorten_r5 scans_Shorten_r6 scans_Shorten_r7 scans_Shorten_r8 scans_Shorten_r9 scans_Shorten_r10
def scans_Shorten_rv : List RV := [.tmp 6, .tmp 7]

/- probecard/scans.placed (function 49) -/
def scans_placed_r0 : List RO := [
    ⟨some 3, .box true (.tmp 0), none, none⟩,
    ⟨some 6, .mv (.const (.map none)), none, none⟩,
    ⟨some 7, .mv (.const (.int .i64 0)), none, none⟩]
def scans_placed_r1 : List RO := [
    ⟨some 13, .load 4 true (.tmp 3), none, none⟩,
    ⟨some 14, .mv (.tmp 1), none, none⟩,
    ⟨some 15, .call 18 [(.tmp 13), (.tmp 14)], none, none⟩,
    ⟨some 8, .mv (.tmp 15), none, none⟩]
def scans_placed_r2 : List RO := [
    ⟨some 16, .mv (.tmp 8), none, none⟩,
    ⟨some 17, .bin .neq (.tmp 16) (.const (.int .i64 0)), none, none⟩]
def scans_placed_r3 : List RO := [
    ⟨some 18, .mv (.tmp 8), none, none⟩,
    ⟨some 6, .mv (.const (.map none)), none, none⟩,
    ⟨some 7, .mv (.tmp 18), none, none⟩]
def scans_placed_r4 : List RO := [
    ⟨some 19, .load 4 true (.tmp 3), none, none⟩,
    ⟨some 20, .call 17 [(.tmp 19)], none, none⟩,
    ⟨some 9, .mv (.tmp 20), none, none⟩]
def scans_placed_r5 : List RO := [
    ⟨some 21, .mv (.tmp 2), none, none⟩,
    ⟨some 22, .len 0 (.tmp 21), none, none⟩,
    ⟨some 23, .mv (.tmp 9), none, none⟩,
    ⟨some 24, .len 0 (.tmp 23), none, none⟩,
    ⟨some 25, .bin .neq (.tmp 22) (.tmp 24), none, none⟩]
def scans_placed_r6 : List RO := [
    ⟨some 6, .mv (.const (.map none)), none, none⟩,
    ⟨some 7, .mv (.const (.int .i64 8)), none, none⟩]
def scans_placed_r7 : List RO := [
    ⟨some 26, .mkmap, none, none⟩,
    ⟨some 10, .mv (.tmp 26), none, none⟩]
def scans_placed_r8 : List RO := [
    ⟨some 27, .mv (.tmp 2), none, none⟩,
    ⟨some 28, .len 0 (.tmp 27), none, none⟩,
    ⟨some 29, .mv (.const (.int .i64 0)), none, none⟩]
def scans_placed_r9 : List RO := [
    ⟨some 30, .bin .lss (.tmp 29) (.tmp 28), none, none⟩]
def scans_placed_r10 : List RO := [
    ⟨some 31, .mv (.tmp 29), none, none⟩,
    ⟨some 32, .iadr 2 (.tmp 27) (.tmp 29), none, none⟩,
    ⟨some 33, .load 2 true (.tmp 32), none, none⟩,
    ⟨some 12, .alloc false [(.int .i64 0), (.int .i64 0)], none, none⟩,
    ⟨some 11, .mv (.tmp 31), none, none⟩,
    ⟨none, .store 2 (.tmp 12) (.tmp 33), none, none⟩]
def scans_placed_r11 : List RO := [
    ⟨some 34, .fadr 0 (.tmp 12), none, none⟩,
    ⟨some 35, .load 1 false (.tmp 34), none, none⟩,
    ⟨some 36, .bin .lss (.tmp 35) (.const (.int .i64 (-1000000))), none, none⟩,
    ⟨some 37, .mv (.tmp 36), none, none⟩,
    ⟨some 38, .fadr 0 (.tmp 12), some (37, false), none⟩,
    ⟨some 39, .load 1 false (.tmp 38), some (37, false), none⟩,
    ⟨some 40, .bin .gtr (.tmp 39) (.const (.int .i64 1000000)), some (37, false), none⟩,
    ⟨some 41, .pick (.tmp 37) (.const (.bool true)) (.tmp 40), none, none⟩,
    ⟨some 42, .mv (.tmp 41), none, none⟩,
    ⟨some 43, .fadr 1 (.tmp 12), some (42, false), none⟩,
    ⟨some 44, .load 1 false (.tmp 43), some (42, false), none⟩,
    ⟨some 45, .bin .lss (.tmp 44) (.const (.int .i64 (-1000000))), some (42, false), none⟩,
    ⟨some 46, .pick (.tmp 42) (.const (.bool true)) (.tmp 45), none, none⟩,
    ⟨some 47, .mv (.tmp 46), none, none⟩,
    ⟨some 48, .fadr 1 (.tmp 12), some (47, false), none⟩,
    ⟨some 49, .load 1 false (.tmp 48), some (47, false), none⟩,
    ⟨some 50, .bin .gtr (.tmp 49) (.const (.int .i64 1000000)), some (47, false), none⟩,
    ⟨some 51, .pick (.tmp 47) (.const (.bool true)) (.tmp 50), none, none⟩]
def scans_placed_r12 : List RO := [
    ⟨some 6, .mv (.const (.map none)), none, none⟩,
    ⟨some 7, .mv (.const (.int .i64 1)), none, none⟩]
def scans_placed_r13 : List RO := [
    ⟨some 52, .mv (.tmp 10), none, none⟩,
    ⟨some 53, .mv (.tmp 9), none, none⟩,
    ⟨some 54, .mv (.tmp 11), none, none⟩,
    ⟨some 55, .iadr 1 (.tmp 53) (.tmp 54), none, none⟩,
    ⟨some 56, .load 1 false (.tmp 55), none, none⟩,
    ⟨some 57, .load 2 true (.tmp 12), none, none⟩,
    ⟨none, .mup (.int .i64) (.tmp 52) (.tmp 56) (.tmp 57), none, none⟩]
def scans_placed_r14 : List RO := [
    ⟨some 58, .bin .add (.tmp 29) (.const (.int .i64 1)), none, none⟩,
    ⟨some 29, .mv (.tmp 58), none, none⟩]
def scans_placed_g0 : IC := .gh (.seq (.reg scans_placed_r9 [.keep [9, 10, 27, 28, 29, 30] [26]]) (.seq (.cond (.tmp 30) .skip (.exit 0)) (.seq (.block 1 (.seq (.reg scans_placed_r10 [.keep [9, 10, 11, 12, 27, 28, 29] [12, 26]]) (.seq (.seq (.reg scans_placed_r11 [.keep [9, 10, 11, 12, 27, 28, 29, 51] [12, 26]]) (.cond (.tmp 51) (.seq (.reg scans_placed_r12 [.keep [6, 7] [26]]) .ret) .skip)) (.reg scans_placed_r13 [.keep [9, 10, 27, 28, 29] [26]])))) (.reg scans_placed_r14 [.keep [9, 10, 27, 28, 29] [26]])))) [.keep [9, 10, 27, 28, 29] [26]]
def scans_placed_l1 : IC := .loop scans_placed_g0
def scans_placed_r15 : List RO := [
    ⟨some 59, .mv (.tmp 10), none, none⟩,
    ⟨some 6, .mv (.tmp 59), none, none⟩,
    ⟨some 7, .mv (.const (.int .i64 0)), none, none⟩]
def scans_placed_ic : IC := (.seq (.reg scans_placed_r0 [.keep [1, 2, 3] []]) (.seq (.seq (.reg scans_placed_r1 [.keep [2, 3, 8] []]) (.seq (.reg scans_placed_r2 [.keep [2, 3, 8, 17] []]) (.cond (.tmp 17) (.seq (.reg scans_placed_r3 [.keep [6, 7] [26]]) .ret) .skip))) (.seq (.reg scans_placed_r4 [.keep [2, 9] []]) (.seq (.seq (.reg scans_placed_r5 [.keep [2, 9, 25] []]) (.cond (.tmp 25) (.seq (.reg scans_placed_r6 [.keep [6, 7] [26]]) .ret) .skip)) (.seq (.reg scans_placed_r7 [.keep [2, 9, 10] [26]]) (.seq (.seq (.reg scans_placed_r8 [.keep [9, 10, 27, 28, 29] [26]]) (.block 0 scans_placed_l1)) (.seq (.reg scans_placed_r15 [.keep [6, 7] [26]]) .ret)))))))
@[simp ↓] theorem scans_placed_g0_run : run P Γ scans_placed_g0 Q s = run P Γ (.gh (.seq (.reg scans_placed_r9 [.keep [9, 10, 27, 28, 29, 30] [26]]) (.seq (.cond (.tmp 30) .skip (.exit 0)) (.seq (.block 1 (.seq (.reg scans_placed_r10 [.keep [9, 10, 11, 12, 27, 28, 29] [12, 26]]) (.seq (.seq (.reg scans_placed_r11 [.keep [9, 10, 11, 12, 27, 28, 29, 51] [12, 26]]) (.cond (.tmp 51) (.seq (.reg scans_placed_r12 [.keep [6, 7] [26]]) .ret) .skip)) (.reg scans_placed_r13 [.keep [9, 10, 27, 28, 29] [26]])))) (.reg scans_placed_r14 [.keep [9, 10, 27, 28, 29] [26]])))) [.keep [9, 10, 27, 28, 29] [26]]) Q s := Eq.trans rfl rfl
@[simp ↓] theorem scans_placed_ic_run : run P Γ scans_placed_ic Q s = run P Γ (.seq (.reg scans_placed_r0 [.keep [1, 2, 3] []]) (.seq (.seq (.reg scans_placed_r1 [.keep [2, 3, 8] []]) (.seq (.reg scans_placed_r2 [.keep [2, 3, 8, 17] []]) (.cond (.tmp 17) (.seq (.reg scans_placed_r3 [.keep [6, 7] [26]]) .ret) .skip))) (.seq (.reg scans_placed_r4 [.keep [2, 9] []]) (.seq (.seq (.reg scans_placed_r5 [.keep [2, 9, 25] []]) (.cond (.tmp 25) (.seq (.reg scans_placed_r6 [.keep [6, 7] [26]]) .ret) .skip)) (.seq (.reg scans_placed_r7 [.keep [2, 9, 10] [26]]) (.seq (.seq (.reg scans_placed_r8 [.keep [9, 10, 27, 28, 29] [26]]) (.block 0 scans_placed_l1)) (.seq (.reg scans_placed_r15 [.keep [6, 7] [26]]) .ret))))))) Q s := Eq.trans rfl rfl
theorem scans_placed_l1_run (h : ∀ K : St → Prop, K = run P Γ scans_placed_l1 Q → run P Γ scans_placed_g0 (thenX K Q) s) : run P Γ scans_placed_l1 Q s := run_loop h
attribute [simp] scans_placed_r0 scans_placed_r1 scans_placed_r2 scans_placed_r3 scans_placed_r4 scans_placed_r5 scans_placed_r6 scans_placed_r7 scans_placed_r8 scans_placed_r9 scans_placed_r10 scans_placed_r11 scans_placed_r12 scans_placed_r13 scans_placed_r14 scans_placed_r15
def scans_placed_rv : List RV := [.tmp 6, .tmp 7]

/- probecard/scans.length (function 50) -/
def scans_length_r0 : List RO := [
    ⟨some 4, .mv (.const (.int .i64 0)), none, none⟩]
def scans_length_r1 : List RO := [
    ⟨some 5, .mv (.const (.int .i64 0)), none, none⟩]
def scans_length_r2 : List RO := [
    ⟨some 6, .mv (.const (.int .i64 1)), none, none⟩]
def scans_length_r3 : List RO := [
    ⟨some 9, .mv (.tmp 6), none, none⟩,
    ⟨some 10, .mv (.tmp 0), none, none⟩,
    ⟨some 11, .len 0 (.tmp 10), none, none⟩,
    ⟨some 12, .bin .lss (.tmp 9) (.tmp 11), none, none⟩]
def scans_length_r5 : List RO := [
    ⟨some 15, .mv (.tmp 1), none, none⟩,
    ⟨some 16, .mv (.tmp 0), none, none⟩,
    ⟨some 17, .mv (.tmp 6), none, none⟩,
    ⟨some 18, .bin .sub (.tmp 17) (.const (.int .i64 1)), none, none⟩,
    ⟨some 19, .iadr 1 (.tmp 16) (.tmp 18), none, none⟩,
    ⟨some 20, .ldT 1 false (.tmp 19), none, none⟩,
    ⟨some 21, .lkT (.int .i64) (.agg #[(.int .i64 0), (.int .i64 0)]) false (.tmp 15) (.tmp 20), none, none⟩,
    ⟨some 22, .mv (.tmp 1), none, none⟩,
    ⟨some 23, .mv (.tmp 0), none, none⟩,
    ⟨some 24, .mv (.tmp 6), none, none⟩,
    ⟨some 25, .iadr 1 (.tmp 23) (.tmp 24), none, none⟩,
    ⟨some 26, .ldT 1 false (.tmp 25), none, none⟩,
    ⟨some 27, .lkT (.int .i64) (.agg #[(.int .i64 0), (.int .i64 0)]) false (.tmp 22) (.tmp 26), none, none⟩,
    ⟨some 7, .alloc false [(.int .i64 0), (.int .i64 0)], none, none⟩,
    ⟨some 8, .alloc false [(.int .i64 0), (.int .i64 0)], none, none⟩,
    ⟨none, .stR 7 2 (.tmp 7) (.tmp 21), none, none⟩,
    ⟨none, .stR 8 2 (.tmp 8) (.tmp 27), none, none⟩]
def scans_length_r6 : List RO := [
    ⟨some 28, .mv (.tmp 5), none, none⟩,
    ⟨some 29, .fadr 0 (.tmp 7), none, none⟩,
    ⟨some 30, .load 1 false (.tmp 29), none, none⟩,
    ⟨some 31, .fadr 0 (.tmp 8), none, none⟩,
    ⟨some 32, .load 1 false (.tmp 31), none, none⟩,
    ⟨some 33, .bin .sub (.tmp 30) (.tmp 32), none, none⟩,
    ⟨some 34, .call 79 [(.tmp 33)], none, none⟩,
    ⟨some 35, .fadr 1 (.tmp 7), none, none⟩,
    ⟨some 36, .load 1 false (.tmp 35), none, none⟩,
    ⟨some 37, .fadr 1 (.tmp 8), none, none⟩,
    ⟨some 38, .load 1 false (.tmp 37), none, none⟩,
    ⟨some 39, .bin .sub (.tmp 36) (.tmp 38), none, none⟩,
    ⟨some 40, .call 79 [(.tmp 39)], none, none⟩,
    ⟨some 41, .bin .add (.tmp 34) (.tmp 40), none, none⟩,
    ⟨some 42, .bin .add (.tmp 28) (.tmp 41), none, none⟩,
    ⟨some 5, .mv (.tmp 42), none, none⟩]
def scans_length_r4 : List RO := [
    ⟨some 13, .mv (.tmp 6), none, none⟩,
    ⟨some 14, .bin .add (.tmp 13) (.const (.int .i64 1)), none, none⟩,
    ⟨some 6, .mv (.tmp 14), none, none⟩]
def scans_length_g0 : IC := .gh (.seq (.seq (.reg scans_length_r3 [.keep [0, 1, 5, 6, 12] []]) (.cond (.tmp 12) .skip (.exit 0))) (.seq (.block 1 (.seq (.reg scans_length_r5 [.keep [0, 1, 5, 6, 7, 8] [7, 8]]) (.reg scans_length_r6 [.keep [0, 1, 5, 6] []]))) (.reg scans_length_r4 [.keep [0, 1, 5, 6] []]))) [.keep [0, 1, 5, 6] []]
def scans_length_l1 : IC := .loop scans_length_g0
def scans_length_r7 : List RO := [
    ⟨some 43, .mv (.tmp 5), none, none⟩,
    ⟨some 4, .mv (.tmp 43), none, none⟩]
def scans_length_ic : IC := (.seq (.reg scans_length_r0 [.keep [0, 1] []]) (.seq (.reg scans_length_r1 [.keep [0, 1, 5] []]) (.seq (.seq (.reg scans_length_r2 [.keep [0, 1, 5, 6] []]) (.block 0 scans_length_l1)) (.seq (.reg scans_length_r7 [.keep [4] []]) .ret))))
@[simp ↓] theorem scans_length_g0_run : run P Γ scans_length_g0 Q s = run P Γ (.gh (.seq (.seq (.reg scans_length_r3 [.keep [0, 1, 5, 6, 12] []]) (.cond (.tmp 12) .skip (.exit 0))) (.seq (.block 1 (.seq (.reg scans_length_r5 [.keep [0, 1, 5, 6, 7, 8] [7, 8]]) (.reg scans_length_r6 [.keep [0, 1, 5, 6] []]))) (.reg scans_length_r4 [.keep [0, 1, 5, 6] []]))) [.keep [0, 1, 5, 6] []]) Q s := Eq.trans rfl rfl
@[simp ↓] theorem scans_length_ic_run : run P Γ scans_length_ic Q s = run P Γ (.seq (.reg scans_length_r0 [.keep [0, 1] []]) (.seq (.reg scans_length_r1 [.keep [0, 1, 5] []]) (.seq (.seq (.reg scans_length_r2 [.keep [0, 1, 5, 6] []]) (.block 0 scans_length_l1)) (.seq (.reg scans_length_r7 [.keep [4] []]) .ret)))) Q s := Eq.trans rfl rfl
theorem scans_length_l1_run (h : ∀ K : St → Prop, K = run P Γ scans_length_l1 Q → run P Γ scans_length_g0 (thenX K Q) s) : run P Γ scans_length_l1 Q s := run_loop h
attribute [simp] scans_length_r0 scans_length_r1 scans_length_r2 scans_length_r3 scans_length_r5 scans_length_r6 scans_length_r4 scans_length_r7
def scans_length_rv : List RV := [.tmp 4]

/- probecard/scans.shorter (function 51) -/
def scans_shorter_r0 : List RO := [
    ⟨some 4, .mv (.const (.slice none 0 0)), none, none⟩]
def scans_shorter_r1 : List RO := [
    ⟨some 9, .mv (.tmp 0), none, none⟩,
    ⟨some 10, .hcall 43 [(.tmp 9)] [10007] 10000, none, none⟩,
    ⟨some 11, .hcall 42 [(.tmp 10)] [10007] 11000, none, none⟩,
    ⟨some 0, .mv (.tmp 11), none, none⟩]
def scans_shorter_r2 : List RO := [
    ⟨some 12, .mv (.tmp 0), none, none⟩,
    ⟨some 13, .mv (.tmp 1), none, none⟩,
    ⟨some 14, .call 50 [(.tmp 12), (.tmp 13)], none, none⟩,
    ⟨some 5, .mv (.tmp 14), none, none⟩]
def scans_shorter_r3 : List RO := [
    ⟨some 15, .mv (.tmp 0), none, none⟩,
    ⟨some 16, .len 0 (.tmp 15), none, none⟩,
    ⟨some 17, .mv (.const (.int .i64 0)), none, none⟩]
def scans_shorter_r4 : List RO := [
    ⟨some 18, .bin .lss (.tmp 17) (.tmp 16), none, none⟩]
def scans_shorter_r5 : List RO := [
    ⟨some 19, .mv (.tmp 17), none, none⟩,
    ⟨some 6, .mv (.tmp 19), none, none⟩]
def scans_shorter_r6 : List RO := [
    ⟨some 20, .mv (.tmp 6), none, none⟩,
    ⟨some 21, .bin .add (.tmp 20) (.const (.int .i64 1)), none, none⟩,
    ⟨some 7, .mv (.tmp 21), none, none⟩]
def scans_shorter_r7 : List RO := [
    ⟨some 22, .mv (.tmp 7), none, none⟩,
    ⟨some 23, .mv (.tmp 0), none, none⟩,
    ⟨some 24, .len 0 (.tmp 23), none, none⟩,
    ⟨some 25, .bin .lss (.tmp 22) (.tmp 24), none, none⟩]
def scans_shorter_r9 : List RO := [
    ⟨some 28, .mv (.tmp 0), none, none⟩,
    ⟨some 29, .mv (.tmp 6), none, none⟩,
    ⟨some 30, .mv (.tmp 7), none, none⟩,
    ⟨some 31, .bin .add (.tmp 30) (.const (.int .i64 1)), none, none⟩,
    ⟨some 32, .slice 1 (.tmp 28) (some (.tmp 29)) (some (.tmp 31)) none, none, none⟩,
    ⟨some 33, .hcall 80 [(.tmp 32)] [10007] 33000, none, none⟩]
def scans_shorter_r10 : List RO := [
    ⟨some 34, .mv (.tmp 0), none, none⟩,
    ⟨some 35, .mv (.tmp 1), none, none⟩,
    ⟨some 36, .call 50 [(.tmp 34), (.tmp 35)], none, none⟩,
    ⟨some 8, .mv (.tmp 36), none, none⟩]
def scans_shorter_r11 : List RO := [
    ⟨some 37, .mv (.tmp 8), none, none⟩,
    ⟨some 38, .mv (.tmp 5), none, none⟩,
    ⟨some 39, .bin .lss (.tmp 37) (.tmp 38), none, none⟩]
def scans_shorter_r12 : List RO := [
    ⟨some 40, .mv (.tmp 8), none, none⟩,
    ⟨some 5, .mv (.tmp 40), none, none⟩]
def scans_shorter_r13 : List RO := [
    ⟨some 41, .mv (.tmp 0), none, none⟩,
    ⟨some 42, .mv (.tmp 6), none, none⟩,
    ⟨some 43, .mv (.tmp 7), none, none⟩,
    ⟨some 44, .bin .add (.tmp 43) (.const (.int .i64 1)), none, none⟩,
    ⟨some 45, .slice 1 (.tmp 41) (some (.tmp 42)) (some (.tmp 44)) none, none, none⟩,
    ⟨some 46, .hcall 80 [(.tmp 45)] [10007] 46000, none, none⟩]
def scans_shorter_r8 : List RO := [
    ⟨some 26, .mv (.tmp 7), none, none⟩,
    ⟨some 27, .bin .add (.tmp 26) (.const (.int .i64 1)), none, none⟩,
    ⟨some 7, .mv (.tmp 27), none, none⟩]
def scans_shorter_g0 : IC := .gh (.seq (.seq (.reg scans_shorter_r7 [.keep [0, 1, 5, 6, 7, 16, 17, 25] [10007]]) (.cond (.tmp 25) .skip (.exit 4))) (.seq (.block 5 (.seq (.reg scans_shorter_r9 [.keep [0, 1, 5, 6, 7, 16, 17] [10007]]) (.seq (.seq (.reg scans_shorter_r10 [.keep [0, 1, 5, 6, 7, 8, 16, 17] [10007]]) (.seq (.reg scans_shorter_r11 [.keep [0, 1, 5, 6, 7, 8, 16, 17, 39] [10007]]) (.cond (.tmp 39) (.seq (.reg scans_shorter_r12 [.keep [0, 1, 5] [10007]]) (.exit 1)) .skip))) (.reg scans_shorter_r13 [.keep [0, 1, 5, 6, 7, 16, 17] [10007]])))) (.reg scans_shorter_r8 [.keep [0, 1, 5, 6, 7, 16, 17] [10007]]))) [.keep [0, 1, 5, 6, 7, 16, 17] [10007]]
def scans_shorter_l1 : IC := .loop scans_shorter_g0
def scans_shorter_r14 : List RO := [
    ⟨some 47, .bin .add (.tmp 17) (.const (.int .i64 1)), none, none⟩,
    ⟨some 17, .mv (.tmp 47), none, none⟩]
def scans_shorter_g2 : IC := .gh (.seq (.reg scans_shorter_r4 [.keep [0, 1, 5, 16, 17, 18] [10007]]) (.seq (.cond (.tmp 18) .skip (.exit 2)) (.seq (.block 3 (.seq (.reg scans_shorter_r5 [.keep [0, 1, 5, 6, 16, 17] [10007]]) (.seq (.reg scans_shorter_r6 [.keep [0, 1, 5, 6, 7, 16, 17] [10007]]) (.block 4 scans_shorter_l1)))) (.reg scans_shorter_r14 [.keep [0, 1, 5, 16, 17] [10007]])))) [.keep [0, 1, 5, 16, 17] [10007]]
def scans_shorter_l3 : IC := .loop scans_shorter_g2
def scans_shorter_r15 : List RO := [
    ⟨some 48, .mv (.tmp 0), none, none⟩,
    ⟨some 4, .mv (.tmp 48), none, none⟩]
def scans_shorter_g4 : IC := .gh (.block 1 (.seq (.seq (.reg scans_shorter_r3 [.keep [0, 1, 5, 16, 17] [10007]]) (.block 2 scans_shorter_l3)) (.seq (.reg scans_shorter_r15 [.keep [4] [10007]]) .ret))) [.keep [0, 1, 5] [10007]]
def scans_shorter_l5 : IC := .loop scans_shorter_g4
def scans_shorter_ic : IC := (.seq (.reg scans_shorter_r0 [.keep [0, 1] [10007]]) (.scope (.seq (.reg scans_shorter_r1 [.keep [0, 1] [10007]]) (.seq (.reg scans_shorter_r2 [.keep [0, 1, 5] [10007]]) (.seq .skip (.block 0 scans_shorter_l5))))))
@[simp ↓] theorem scans_shorter_g0_run : run P Γ scans_shorter_g0 Q s = run P Γ (.gh (.seq (.seq (.reg scans_shorter_r7 [.keep [0, 1, 5, 6, 7, 16, 17, 25] [10007]]) (.cond (.tmp 25) .skip (.exit 4))) (.seq (.block 5 (.seq (.reg scans_shorter_r9 [.keep [0, 1, 5, 6, 7, 16, 17] [10007]]) (.seq (.seq (.reg scans_shorter_r10 [.keep [0, 1, 5, 6, 7, 8, 16, 17] [10007]]) (.seq (.reg scans_shorter_r11 [.keep [0, 1, 5, 6, 7, 8, 16, 17, 39] [10007]]) (.cond (.tmp 39) (.seq (.reg scans_shorter_r12 [.keep [0, 1, 5] [10007]]) (.exit 1)) .skip))) (.reg scans_shorter_r13 [.keep [0, 1, 5, 6, 7, 16, 17] [10007]])))) (.reg scans_shorter_r8 [.keep [0, 1, 5, 6, 7, 16, 17] [10007]]))) [.keep [0, 1, 5, 6, 7, 16, 17] [10007]]) Q s := Eq.trans rfl rfl
@[simp ↓] theorem scans_shorter_g2_run : run P Γ scans_shorter_g2 Q s = run P Γ (.gh (.seq (.reg scans_shorter_r4 [.keep [0, 1, 5, 16, 17, 18] [10007]]) (.seq (.cond (.tmp 18) .skip (.exit 2)) (.seq (.block 3 (.seq (.reg scans_shorter_r5 [.keep [0, 1, 5, 6, 16, 17] [10007]]) (.seq (.reg scans_shorter_r6 [.keep [0, 1, 5, 6, 7, 16, 17] [10007]]) (.block 4 scans_shorter_l1)))) (.reg scans_shorter_r14 [.keep [0, 1, 5, 16, 17] [10007]])))) [.keep [0, 1, 5, 16, 17] [10007]]) Q s := Eq.trans rfl rfl
@[simp ↓] theorem scans_shorter_g4_run : run P Γ scans_shorter_g4 Q s = run P Γ (.gh (.block 1 (.seq (.seq (.reg scans_shorter_r3 [.keep [0, 1, 5, 16, 17] [10007]]) (.block 2 scans_shorter_l3)) (.seq (.reg scans_shorter_r15 [.keep [4] [10007]]) .ret))) [.keep [0, 1, 5] [10007]]) Q s := Eq.trans rfl rfl
@[simp ↓] theorem scans_shorter_ic_run : run P Γ scans_shorter_ic Q s = run P Γ (.seq (.reg scans_shorter_r0 [.keep [0, 1] [10007]]) (.scope (.seq (.reg scans_shorter_r1 [.keep [0, 1] [10007]]) (.seq (.reg scans_shorter_r2 [.keep [0, 1, 5] [10007]]) (.seq .skip (.block 0 scans_shorter_l5)))))) Q s := Eq.trans rfl rfl
theorem scans_shorter_l1_run (h : ∀ K : St → Prop, K = run P Γ scans_shorter_l1 Q → run P Γ scans_shorter_g0 (thenX K Q) s) : run P Γ scans_shorter_l1 Q s := run_loop h
theorem scans_shorter_l3_run (h : ∀ K : St → Prop, K = run P Γ scans_shorter_l3 Q → run P Γ scans_shorter_g2 (thenX K Q) s) : run P Γ scans_shorter_l3 Q s := run_loop h
theorem scans_shorter_l5_run (h : ∀ K : St → Prop, K = run P Γ scans_shorter_l5 Q → run P Γ scans_shorter_g4 (thenX K Q) s) : run P Γ scans_shorter_l5 Q s := run_loop h
attribute [simp] scans_shorter_r0 scans_shorter_r1 scans_shorter_r2 scans_shorter_r3 scans_shorter_r4 scans_shorter_r5 scans_shorter_r6 scans_shorter_r7 scans_shorter_r9 scans_shorter_r10 scans_shorter_r11 scans_shorter_r12 scans_shorter_r13 scans_shorter_r8 scans_shorter_r14 scans_shorter_r15
def scans_shorter_rv : List RV := [.tmp 4]

/- probecard/scans.abs (function 79) -/
def scans_abs_r0 : List RO := [
    ⟨some 2, .mv (.const (.int .i64 0)), none, none⟩]
def scans_abs_r1 : List RO := [
    ⟨some 3, .mv (.tmp 0), none, none⟩,
    ⟨some 4, .mv (.tmp 0), none, none⟩,
    ⟨some 5, .un .neg (.tmp 4), none, none⟩,
    ⟨some 6, .mmx true [(.tmp 3), (.tmp 5)], none, none⟩,
    ⟨some 2, .mv (.tmp 6), none, none⟩]
def scans_abs_ic : IC := (.seq (.reg scans_abs_r0 [.keep [0] []]) (.seq (.reg scans_abs_r1 [.keep [2] []]) .ret))
@[simp ↓] theorem scans_abs_ic_run : run P Γ scans_abs_ic Q s = run P Γ (.seq (.reg scans_abs_r0 [.keep [0] []]) (.seq (.reg scans_abs_r1 [.keep [2] []]) .ret)) Q s := Eq.trans rfl rfl
attribute [simp] scans_abs_r0 scans_abs_r1
def scans_abs_rv : List RV := [.tmp 2]

/- slices.Reverse[[]int,int] (function 80) -/
def slices_Reverse_int_r0 : List RO := [
    ⟨some 4, .mv (.tmp 0), none, none⟩,
    ⟨some 5, .len 0 (.tmp 4), none, none⟩,
    ⟨some 6, .bin .sub (.tmp 5) (.const (.int .i64 1)), none, none⟩,
    ⟨some 2, .mv (.const (.int .i64 0)), none, none⟩,
    ⟨some 3, .mv (.tmp 6), none, none⟩]
def slices_Reverse_int_r1 : List RO := [
    ⟨some 7, .mv (.tmp 2), none, none⟩,
    ⟨some 8, .mv (.tmp 3), none, none⟩,
    ⟨some 9, .bin .lss (.tmp 7) (.tmp 8), none, none⟩]
def slices_Reverse_int_r3 : List RO := [
    ⟨some 14, .mv (.tmp 0), none, none⟩,
    ⟨some 15, .mv (.tmp 2), none, none⟩,
    ⟨some 16, .mv (.tmp 0), none, none⟩,
    ⟨some 17, .mv (.tmp 3), none, none⟩,
    ⟨some 18, .mv (.tmp 0), none, none⟩,
    ⟨some 19, .mv (.tmp 3), none, none⟩,
    ⟨some 20, .iadr 1 (.tmp 18) (.tmp 19), none, none⟩,
    ⟨some 21, .ldR 1000000 1 false (.tmp 20), none, none⟩,
    ⟨some 22, .mv (.tmp 0), none, none⟩,
    ⟨some 23, .mv (.tmp 2), none, none⟩,
    ⟨some 24, .iadr 1 (.tmp 22) (.tmp 23), none, none⟩,
    ⟨some 25, .ldR 1000000 1 false (.tmp 24), none, none⟩,
    ⟨some 26, .iadr 1 (.tmp 14) (.tmp 15), none, none⟩,
    ⟨none, .stR 1000000 1 (.tmp 26) (.tmp 21), none, none⟩,
    ⟨some 27, .iadr 1 (.tmp 16) (.tmp 17), none, none⟩,
    ⟨none, .stR 1000000 1 (.tmp 27) (.tmp 25), none, none⟩]
def slices_Reverse_int_r2 : List RO := [
    ⟨some 10, .mv (.tmp 2), none, none⟩,
    ⟨some 11, .bin .add (.tmp 10) (.const (.int .i64 1)), none, none⟩,
    ⟨some 12, .mv (.tmp 3), none, none⟩,
    ⟨some 13, .bin .sub (.tmp 12) (.const (.int .i64 1)), none, none⟩,
    ⟨some 2, .mv (.tmp 11), none, none⟩,
    ⟨some 3, .mv (.tmp 13), none, none⟩]
def slices_Reverse_int_g0 : IC := .gh (.seq (.seq (.reg slices_Reverse_int_r1 [.keep [0, 2, 3, 9] [1000000]]) (.cond (.tmp 9) .skip (.exit 0))) (.seq (.block 1 (.reg slices_Reverse_int_r3 [.keep [0, 2, 3] [1000000]])) (.reg slices_Reverse_int_r2 [.keep [0, 2, 3] [1000000]]))) [.keep [0, 2, 3] [1000000]]
def slices_Reverse_int_l1 : IC := .loop slices_Reverse_int_g0
def slices_Reverse_int_ic : IC := (.seq (.reg slices_Reverse_int_r0 [.keep [0, 2, 3] [1000000]]) (.block 0 slices_Reverse_int_l1))
@[simp ↓] theorem slices_Reverse_int_g0_run : run P Γ slices_Reverse_int_g0 Q s = run P Γ (.gh (.seq (.seq (.reg slices_Reverse_int_r1 [.keep [0, 2, 3, 9] [1000000]]) (.cond (.tmp 9) .skip (.exit 0))) (.seq (.block 1 (.reg slices_Reverse_int_r3 [.keep [0, 2, 3] [1000000]])) (.reg slices_Reverse_int_r2 [.keep [0, 2, 3] [1000000]]))) [.keep [0, 2, 3] [1000000]]) Q s := Eq.trans rfl rfl
@[simp ↓] theorem slices_Reverse_int_ic_run : run P Γ slices_Reverse_int_ic Q s = run P Γ (.seq (.reg slices_Reverse_int_r0 [.keep [0, 2, 3] [1000000]]) (.block 0 slices_Reverse_int_l1)) Q s := Eq.trans rfl rfl
theorem slices_Reverse_int_l1_run (h : ∀ K : St → Prop, K = run P Γ slices_Reverse_int_l1 Q → run P Γ slices_Reverse_int_g0 (thenX K Q) s) : run P Γ slices_Reverse_int_l1 Q s := run_loop h
attribute [simp] slices_Reverse_int_r0 slices_Reverse_int_r1 slices_Reverse_int_r3 slices_Reverse_int_r2
def slices_Reverse_int_rv : List RV := []

/- probecard/probecardlaw34.lives (function 16) -/
def law34_lives_r0 : List RO := [
    ⟨some 0, .mv (.const (.bool false)), none, none⟩]
def law34_lives_r1 : List RO := [
    ⟨some 9, .call 47 [(.const (.int .i64 5))], none, none⟩,
    ⟨some 10, .call 13 [(.tmp 9), (.const (.int .i64 2))], none, none⟩,
    ⟨some 8, .mv (.tmp 10), none, none⟩,
    ⟨some 11, .ext (.tmp 8) 0, none, none⟩,
    ⟨some 12, .ext (.tmp 8) 1, none, none⟩,
    ⟨some 1, .mv (.tmp 11), none, none⟩,
    ⟨some 2, .mv (.tmp 12), none, none⟩]
def law34_lives_r2 : List RO := [
    ⟨some 13, .build [(1, (.const (.int .i64 0))), (1, (.const (.int .i64 0)))], none, none⟩,
    ⟨some 14, .build [(1, (.const (.int .i64 5))), (1, (.const (.int .i64 0)))], none, none⟩,
    ⟨some 15, .build [(1, (.const (.int .i64 1))), (1, (.const (.int .i64 0)))], none, none⟩,
    ⟨some 16, .bsl true 93 2 [(.tmp 13), (.tmp 14), (.tmp 15)], none, none⟩,
    ⟨some 3, .mv (.tmp 16), none, none⟩]
def law34_lives_r3 : List RO := [
    ⟨some 18, .call 47 [(.const (.int .i64 3))], none, none⟩,
    ⟨some 19, .bsl true 3 1 [(.const (.int .i64 1)), (.const (.int .i64 2)), (.const (.int .i64 3))], none, none⟩,
    ⟨some 20, .bsl true 31 1 [(.tmp 19)], none, none⟩,
    ⟨some 21, .mv (.tmp 3), none, none⟩,
    ⟨some 22, .call 21 [(.tmp 18), (.tmp 20), (.tmp 21)], none, none⟩,
    ⟨some 17, .mv (.tmp 22), none, none⟩,
    ⟨some 23, .ext (.tmp 17) 0, none, none⟩,
    ⟨some 24, .ext (.tmp 17) 1, none, none⟩,
    ⟨some 4, .mv (.tmp 23), none, none⟩,
    ⟨some 5, .mv (.tmp 24), none, none⟩]
def law34_lives_r4 : List RO := [
    ⟨some 26, .call 47 [(.const (.int .i64 3))], none, none⟩,
    ⟨some 27, .bsl true 3 1 [(.const (.int .i64 1)), (.const (.int .i64 2)), (.const (.int .i64 3))], none, none⟩,
    ⟨some 28, .bsl true 31 1 [(.tmp 27)], none, none⟩,
    ⟨some 29, .mv (.tmp 3), none, none⟩,
    ⟨some 30, .call 22 [(.tmp 26), (.tmp 28), (.tmp 29)], none, none⟩,
    ⟨some 25, .mv (.tmp 30), none, none⟩,
    ⟨some 31, .ext (.tmp 25) 0, none, none⟩,
    ⟨some 32, .ext (.tmp 25) 1, none, none⟩,
    ⟨some 6, .mv (.tmp 31), none, none⟩,
    ⟨some 7, .mv (.tmp 32), none, none⟩]
def law34_lives_r5 : List RO := [
    ⟨some 33, .mv (.tmp 2), none, none⟩,
    ⟨some 34, .bin .neq (.tmp 33) (.const (.int .i64 0)), none, none⟩,
    ⟨some 35, .mv (.tmp 34), none, none⟩,
    ⟨some 36, .mv (.tmp 5), some (35, false), none⟩,
    ⟨some 37, .bin .neq (.tmp 36) (.const (.int .i64 0)), some (35, false), none⟩,
    ⟨some 38, .pick (.tmp 35) (.const (.bool true)) (.tmp 37), none, none⟩,
    ⟨some 39, .mv (.tmp 38), none, none⟩,
    ⟨some 40, .mv (.tmp 7), some (39, false), none⟩,
    ⟨some 41, .bin .neq (.tmp 40) (.const (.int .i64 0)), some (39, false), none⟩,
    ⟨some 42, .pick (.tmp 39) (.const (.bool true)) (.tmp 41), none, none⟩,
    ⟨some 43, .mv (.tmp 42), none, none⟩,
    ⟨some 44, .mv (.tmp 1), some (43, false), none⟩,
    ⟨some 45, .len 0 (.tmp 44), some (43, false), none⟩,
    ⟨some 46, .bin .neq (.tmp 45) (.const (.int .i64 2)), some (43, false), none⟩,
    ⟨some 47, .pick (.tmp 43) (.const (.bool true)) (.tmp 46), none, none⟩,
    ⟨some 48, .mv (.tmp 47), none, none⟩,
    ⟨some 49, .mv (.tmp 1), some (48, false), none⟩,
    ⟨some 50, .iadr 1 (.tmp 49) (.const (.int .i64 0)), some (48, false), none⟩,
    ⟨some 51, .load 1 false (.tmp 50), some (48, false), none⟩,
    ⟨some 52, .len 0 (.tmp 51), some (48, false), none⟩,
    ⟨some 53, .bin .neq (.tmp 52) (.const (.int .i64 3)), some (48, false), none⟩,
    ⟨some 54, .pick (.tmp 48) (.const (.bool true)) (.tmp 53), none, none⟩,
    ⟨some 55, .mv (.tmp 54), none, none⟩,
    ⟨some 56, .mv (.tmp 1), some (55, false), none⟩,
    ⟨some 57, .iadr 1 (.tmp 56) (.const (.int .i64 1)), some (55, false), none⟩,
    ⟨some 58, .load 1 false (.tmp 57), some (55, false), none⟩,
    ⟨some 59, .len 0 (.tmp 58), some (55, false), none⟩,
    ⟨some 60, .bin .neq (.tmp 59) (.const (.int .i64 2)), some (55, false), none⟩,
    ⟨some 61, .pick (.tmp 55) (.const (.bool true)) (.tmp 60), none, none⟩,
    ⟨some 62, .mv (.tmp 61), none, none⟩,
    ⟨some 63, .mv (.tmp 6), some (62, false), none⟩,
    ⟨some 64, .len 0 (.tmp 63), some (62, false), none⟩,
    ⟨some 65, .bin .neq (.tmp 64) (.const (.int .i64 1)), some (62, false), none⟩,
    ⟨some 66, .pick (.tmp 62) (.const (.bool true)) (.tmp 65), none, none⟩,
    ⟨some 67, .mv (.tmp 66), none, none⟩,
    ⟨some 68, .mv (.tmp 6), some (67, false), none⟩,
    ⟨some 69, .iadr 1 (.tmp 68) (.const (.int .i64 0)), some (67, false), none⟩,
    ⟨some 70, .load 1 false (.tmp 69), some (67, false), none⟩,
    ⟨some 71, .len 0 (.tmp 70), some (67, false), none⟩,
    ⟨some 72, .bin .neq (.tmp 71) (.const (.int .i64 3)), some (67, false), none⟩,
    ⟨some 73, .pick (.tmp 67) (.const (.bool true)) (.tmp 72), none, none⟩]
def law34_lives_r6 : List RO := [
    ⟨some 0, .mv (.const (.bool false)), none, none⟩]
def law34_lives_r7 : List RO := [
    ⟨some 74, .mv (.tmp 1), none, none⟩,
    ⟨some 75, .iadr 1 (.tmp 74) (.const (.int .i64 0)), none, none⟩,
    ⟨some 76, .load 1 false (.tmp 75), none, none⟩,
    ⟨some 77, .iadr 1 (.tmp 76) (.const (.int .i64 0)), none, none⟩,
    ⟨some 78, .load 1 false (.tmp 77), none, none⟩,
    ⟨some 79, .bin .eql (.tmp 78) (.const (.int .i64 1)), none, none⟩,
    ⟨some 80, .mv (.tmp 79), none, none⟩,
    ⟨some 81, .mv (.tmp 1), some (80, true), none⟩,
    ⟨some 82, .iadr 1 (.tmp 81) (.const (.int .i64 1)), some (80, true), none⟩,
    ⟨some 83, .load 1 false (.tmp 82), some (80, true), none⟩,
    ⟨some 84, .iadr 1 (.tmp 83) (.const (.int .i64 1)), some (80, true), none⟩,
    ⟨some 85, .load 1 false (.tmp 84), some (80, true), none⟩,
    ⟨some 86, .bin .eql (.tmp 85) (.const (.int .i64 5)), some (80, true), none⟩,
    ⟨some 87, .pick (.tmp 80) (.tmp 86) (.const (.bool false)), none, none⟩,
    ⟨some 88, .mv (.tmp 87), none, none⟩,
    ⟨some 89, .mv (.tmp 4), some (88, true), none⟩,
    ⟨some 90, .bin .eql (.tmp 89) (.const (.int .i64 9)), some (88, true), none⟩,
    ⟨some 91, .pick (.tmp 88) (.tmp 90) (.const (.bool false)), none, none⟩,
    ⟨some 92, .mv (.tmp 91), none, none⟩,
    ⟨some 93, .mv (.tmp 6), some (92, true), none⟩,
    ⟨some 94, .iadr 1 (.tmp 93) (.const (.int .i64 0)), some (92, true), none⟩,
    ⟨some 95, .load 1 false (.tmp 94), some (92, true), none⟩,
    ⟨some 96, .iadr 1 (.tmp 95) (.const (.int .i64 0)), some (92, true), none⟩,
    ⟨some 97, .load 1 false (.tmp 96), some (92, true), none⟩,
    ⟨some 98, .bin .eql (.tmp 97) (.const (.int .i64 2)), some (92, true), none⟩,
    ⟨some 99, .pick (.tmp 92) (.tmp 98) (.const (.bool false)), none, none⟩,
    ⟨some 100, .mv (.tmp 99), none, none⟩,
    ⟨some 101, .mv (.tmp 6), some (100, true), none⟩,
    ⟨some 102, .iadr 1 (.tmp 101) (.const (.int .i64 0)), some (100, true), none⟩,
    ⟨some 103, .load 1 false (.tmp 102), some (100, true), none⟩,
    ⟨some 104, .iadr 1 (.tmp 103) (.const (.int .i64 1)), some (100, true), none⟩,
    ⟨some 105, .load 1 false (.tmp 104), some (100, true), none⟩,
    ⟨some 106, .bin .eql (.tmp 105) (.const (.int .i64 3)), some (100, true), none⟩,
    ⟨some 107, .pick (.tmp 100) (.tmp 106) (.const (.bool false)), none, none⟩,
    ⟨some 108, .mv (.tmp 107), none, none⟩,
    ⟨some 109, .mv (.tmp 6), some (108, true), none⟩,
    ⟨some 110, .iadr 1 (.tmp 109) (.const (.int .i64 0)), some (108, true), none⟩,
    ⟨some 111, .load 1 false (.tmp 110), some (108, true), none⟩,
    ⟨some 112, .iadr 1 (.tmp 111) (.const (.int .i64 2)), some (108, true), none⟩,
    ⟨some 113, .load 1 false (.tmp 112), some (108, true), none⟩,
    ⟨some 114, .bin .eql (.tmp 113) (.const (.int .i64 1)), some (108, true), none⟩,
    ⟨some 115, .pick (.tmp 108) (.tmp 114) (.const (.bool false)), none, none⟩,
    ⟨some 0, .mv (.tmp 115), none, none⟩]
def law34_lives_ic : IC := (.seq (.reg law34_lives_r0 [.keep [] []]) (.seq (.reg law34_lives_r1 [.keep [1, 2] []]) (.seq (.reg law34_lives_r2 [.keep [1, 2, 3] []]) (.seq (.reg law34_lives_r3 [.keep [1, 2, 3, 4, 5] []]) (.seq (.reg law34_lives_r4 [.keep [1, 2, 4, 5, 6, 7] []]) (.seq (.seq (.reg law34_lives_r5 [.keep [1, 4, 6, 73] []]) (.cond (.tmp 73) (.seq (.reg law34_lives_r6 [.keep [0] []]) .ret) .skip)) (.seq (.reg law34_lives_r7 [.keep [0] []]) .ret)))))))
@[simp ↓] theorem law34_lives_ic_run : run P Γ law34_lives_ic Q s = run P Γ (.seq (.reg law34_lives_r0 [.keep [] []]) (.seq (.reg law34_lives_r1 [.keep [1, 2] []]) (.seq (.reg law34_lives_r2 [.keep [1, 2, 3] []]) (.seq (.reg law34_lives_r3 [.keep [1, 2, 3, 4, 5] []]) (.seq (.reg law34_lives_r4 [.keep [1, 2, 4, 5, 6, 7] []]) (.seq (.seq (.reg law34_lives_r5 [.keep [1, 4, 6, 73] []]) (.cond (.tmp 73) (.seq (.reg law34_lives_r6 [.keep [0] []]) .ret) .skip)) (.seq (.reg law34_lives_r7 [.keep [0] []]) .ret))))))) Q s := Eq.trans rfl rfl
attribute [simp] law34_lives_r0 law34_lives_r1 law34_lives_r2 law34_lives_r3 law34_lives_r4 law34_lives_r5 law34_lives_r6 law34_lives_r7
def law34_lives_rv : List RV := [.tmp 0]

/- probecard/probecardlaw34.row (function 47) -/
def law34_row_r0 : List RO := [
    ⟨some 2, .alloc false [(.slice none 0 0), (.slice none 0 0), (.slice none 0 0), (.slice none 0 0)], none, none⟩]
def law34_row_r1 : List RO := [
    ⟨some 5, .build [(1, (.const (.int .u8 0))), (1, (.const (.slice none 0 0))), (1, (.const (.int .i64 0))), (1, (.const (.int .i64 0)))], none, none⟩,
    ⟨some 6, .bsl false 48 4 [(.tmp 5)], none, some 20⟩,
    ⟨some 7, .bsl false 9 1 [(.const (sV [97]))], none, some 32⟩,
    ⟨some 8, .bsl true 3 1 [(.const (.int .i64 0))], none, none⟩,
    ⟨some 9, .build [(1, (.tmp 6)), (1, (.tmp 7)), (1, (.const (.slice none 0 0))), (1, (.tmp 8))], none, none⟩,
    ⟨some 3, .alloc false [(.slice none 0 0), (.slice none 0 0), (.slice none 0 0), (.slice none 0 0)], none, none⟩,
    ⟨none, .store 4 (.tmp 3) (.tmp 9), none, none⟩]
def law34_row_r2 : List RO := [
    ⟨some 4, .mv (.const (.int .i64 0)), none, none⟩]
def law34_row_r3 : List RO := [
    ⟨some 10, .mv (.tmp 4), none, none⟩,
    ⟨some 11, .mv (.tmp 0), none, none⟩,
    ⟨some 12, .bin .lss (.tmp 10) (.tmp 11), none, none⟩]
def law34_row_r5 : List RO := [
    ⟨some 15, .fadr 0 (.tmp 3), none, none⟩,
    ⟨some 16, .load 1 false (.tmp 15), none, none⟩,
    ⟨some 17, .bsl true 3 1 [(.const (.int .i64 0))], none, none⟩,
    ⟨some 18, .build [(1, (.const (.int .u8 14))), (1, (.tmp 17)), (1, (.const (.int .i64 0))), (1, (.const (.int .i64 0)))], none, none⟩,
    ⟨some 19, .bsl true 48 4 [(.tmp 18)], none, none⟩,
    ⟨some 20, .app false 48 4 (.tmp 16) (.tmp 19), none, none⟩,
    ⟨some 21, .fadr 0 (.tmp 3), none, none⟩,
    ⟨none, .store 1 (.tmp 21) (.tmp 20), none, none⟩]
def law34_row_r6 : List RO := [
    ⟨some 22, .fadr 1 (.tmp 3), none, none⟩,
    ⟨some 23, .ldR 3 1 false (.tmp 22), none, none⟩,
    ⟨some 24, .mv (.tmp 4), none, none⟩,
    ⟨some 25, .bin .rem (.tmp 24) (.const (.int .i64 10)), none, none⟩,
    ⟨some 26, .mv (.tmp 4), none, none⟩,
    ⟨some 27, .bin .rem (.tmp 26) (.const (.int .i64 10)), none, none⟩,
    ⟨some 28, .bin .add (.tmp 27) (.const (.int .i64 1)), none, none⟩,
    ⟨some 29, .slice 0 (.const (sV [48, 49, 50, 51, 52, 53, 54, 55, 56, 57])) (some (.tmp 25)) (some (.tmp 28)) none, none, none⟩,
    ⟨some 30, .bin .add (.const (sV [102])) (.tmp 29), none, none⟩,
    ⟨some 31, .bsl true 9 1 [(.tmp 30)], none, none⟩,
    ⟨some 32, .app false 9 1 (.tmp 23) (.tmp 31), none, none⟩,
    ⟨some 33, .fadr 1 (.tmp 3), none, none⟩,
    ⟨none, .stR 3 1 (.tmp 33) (.tmp 32), none, none⟩]
def law34_row_r4 : List RO := [
    ⟨some 13, .mv (.tmp 4), none, none⟩,
    ⟨some 14, .bin .add (.tmp 13) (.const (.int .i64 1)), none, none⟩,
    ⟨some 4, .mv (.tmp 14), none, none⟩]
def law34_row_g0 : IC := .gh (.seq (.seq (.reg law34_row_r3 [.keep [0, 2, 3, 4, 12] [2, 3, 20, 32]]) (.cond (.tmp 12) .skip (.exit 0))) (.seq (.block 1 (.seq (.reg law34_row_r5 [.keep [0, 2, 3, 4] [2, 3, 20, 32]]) (.reg law34_row_r6 [.keep [0, 2, 3, 4] [2, 3, 20, 32]]))) (.reg law34_row_r4 [.keep [0, 2, 3, 4] [2, 3, 20, 32]]))) [.keep [0, 2, 3, 4] [2, 3, 20, 32]]
def law34_row_l1 : IC := .loop law34_row_g0
def law34_row_r7 : List RO := [
    ⟨some 34, .load 4 true (.tmp 3), none, none⟩,
    ⟨none, .store 4 (.tmp 2) (.tmp 34), none, none⟩]
def law34_row_ic : IC := (.seq (.reg law34_row_r0 [.keep [0, 2] [2, 20, 32]]) (.seq (.reg law34_row_r1 [.keep [0, 2, 3] [2, 3, 20, 32]]) (.seq (.seq (.reg law34_row_r2 [.keep [0, 2, 3, 4] [2, 3, 20, 32]]) (.block 0 law34_row_l1)) (.seq (.reg law34_row_r7 [.keep [2] [2, 20, 32]]) .ret))))
@[simp ↓] theorem law34_row_g0_run : run P Γ law34_row_g0 Q s = run P Γ (.gh (.seq (.seq (.reg law34_row_r3 [.keep [0, 2, 3, 4, 12] [2, 3, 20, 32]]) (.cond (.tmp 12) .skip (.exit 0))) (.seq (.block 1 (.seq (.reg law34_row_r5 [.keep [0, 2, 3, 4] [2, 3, 20, 32]]) (.reg law34_row_r6 [.keep [0, 2, 3, 4] [2, 3, 20, 32]]))) (.reg law34_row_r4 [.keep [0, 2, 3, 4] [2, 3, 20, 32]]))) [.keep [0, 2, 3, 4] [2, 3, 20, 32]]) Q s := Eq.trans rfl rfl
@[simp ↓] theorem law34_row_ic_run : run P Γ law34_row_ic Q s = run P Γ (.seq (.reg law34_row_r0 [.keep [0, 2] [2, 20, 32]]) (.seq (.reg law34_row_r1 [.keep [0, 2, 3] [2, 3, 20, 32]]) (.seq (.seq (.reg law34_row_r2 [.keep [0, 2, 3, 4] [2, 3, 20, 32]]) (.block 0 law34_row_l1)) (.seq (.reg law34_row_r7 [.keep [2] [2, 20, 32]]) .ret)))) Q s := Eq.trans rfl rfl
theorem law34_row_l1_run (h : ∀ K : St → Prop, K = run P Γ law34_row_l1 Q → run P Γ law34_row_g0 (thenX K Q) s) : run P Γ law34_row_l1 Q s := run_loop h
attribute [simp] law34_row_r0 law34_row_r1 law34_row_r2 law34_row_r3 law34_row_r5 law34_row_r6 law34_row_r4 law34_row_r7
def law34_row_rv : List RV := [.cell 2 4 true]
end
end Go.Lg

/- The abstract code is that of the program (by the kernel). Conditions: none. -/
namespace Go.Lg
open Go Go.Proofs
theorem scans_Balance_chk : chkF Tryd.prog 13 scans_Balance_ic 62 2 scans_Balance_rv = true := by kernel_rfl
theorem scans_Check_chk : chkF Tryd.prog 18 scans_Check_ic 68 2 scans_Check_rv = true := by kernel_rfl
theorem scans_Length_chk : chkF Tryd.prog 21 scans_Length_ic 36 3 scans_Length_rv = true := by kernel_rfl
theorem scans_Shorten_chk : chkF Tryd.prog 22 scans_Shorten_ic 38 3 scans_Shorten_rv = true := by kernel_rfl
theorem scans_placed_chk : chkF Tryd.prog 49 scans_placed_ic 60 3 scans_placed_rv = true := by kernel_rfl
theorem scans_length_chk : chkF Tryd.prog 50 scans_length_ic 44 2 scans_length_rv = true := by kernel_rfl
theorem scans_shorter_chk : chkF Tryd.prog 51 scans_shorter_ic 49 2 scans_shorter_rv = true := by kernel_rfl
theorem scans_abs_chk : chkF Tryd.prog 79 scans_abs_ic 7 1 scans_abs_rv = true := by kernel_rfl
theorem slices_Reverse_int_chk : chkF Tryd.prog 80 slices_Reverse_int_ic 28 1 slices_Reverse_int_rv = true := by kernel_rfl
theorem law34_lives_chk : chkF Tryd.prog 16 law34_lives_ic 116 0 law34_lives_rv = true := by kernel_rfl
theorem law34_row_chk : chkF Tryd.prog 47 law34_row_ic 35 1 law34_row_rv = true := by kernel_rfl
end Go.Lg

/- scans.Check. Conditions: none. -/
set_option linter.unusedSimpArgs false
set_option linter.unusedVariables false
set_option maxRecDepth 100000
namespace Go.Lg
open Go Go.Proofs
variable {Γ : Tables}

def seenI (l : List Int) : List (Value × T) := l.map fun n => (.int .i64 n, tB true)
theorem seenI_find (x : Int) : ∀ l : List Int, findM (.int .i64 x) (seenI l) = if x ∈ l then some (tB true) else none
  | [] => rfl
  | y :: l => by
    have ih := seenI_find x l
    simp only [seenI, List.map_cons, findM, keyEq, int_beq] at ih ⊢
    by_cases h : x = y
    · simp [h]
    · simp [h, ih]
theorem seenI_set (x : Int) : ∀ l : List Int, x ∉ l → setM (.int .i64 x) (tB true) (seenI l) = seenI (l ++ [x])
  | [], _ => rfl
  | y :: l, h => by
    have ih := seenI_set x l (fun hm => h (List.mem_cons_of_mem _ hm))
    have hne : x ≠ y := fun e => h (by simp [e])
    simp only [seenI, List.map_cons, setM, keyEq, int_beq, List.cons_append] at ih ⊢
    simp [hne, ih]
theorem seenI_fit (l : List Int) : keysFit (.int .i64) (seenI l) := by
  intro e he; obtain ⟨s, _, rfl⟩ := List.mem_map.1 he; rfl
theorem seenI_len (l : List Int) : (seenI l).length = l.length := by simp [seenI]

def elemBad (c : Cir) (done : List Int) (n : Int) : Bool := decide (n < 0 ∨ (c.nodes.l.length : Int) ≤ n ∨ kindAt c n.toNat ≠ 14 ∨ n ∈ done)
def goElems (c : Cir) : List Int → List Int → Option (List Int)
  | done, [] => some done
  | done, n :: l => if elemBad c done n then none else goElems c (done ++ [n]) l
def goChains (c : Cir) : List Int → List (Sl Int) → Option (List Int)
  | done, [] => some done
  | done, s :: l => if s.l = [] then none else (goElems c done s.l).bind fun d => goChains c d l

theorem elems_loop {Q : AX → St → Prop} (c : Cir) (hn : c.nodes.l.length ≤ 1000000000) (chs : T) (a21 a22 : T) (s : Sl Int) (hs : s.l.length ≤ 1000000000) (R : Option (List Int))
    (h0 : ∀ d, R = some d → Q (.exit 2) ⟨[(2, .t (.ip (tC c) 0)), (6, .lm 19), (20, .t chs), (21, .t a21), (22, .t a22), (29, .t (tSl s)), (30, .t (tI s.l.length)), (31, .t (tI s.l.length)), (32, .t (tB false))], [(19, .mp (seenI d))]⟩)
    (h1 : R = none → Q .ret ⟨[(4, .t (tI 1))], []⟩) : ∀ (kk k : Nat) (done : List Int), kk + k = s.l.length → goElems c done (s.l.drop k) = R →
    run Tryd.prog Γ scans_Check_l1 Q ⟨[(2, .t (.ip (tC c) 0)), (6, .lm 19), (20, .t chs), (21, .t a21), (22, .t a22), (29, .t (tSl s)), (30, .t (tI s.l.length)), (31, .t (tI k))], [(19, .mp (seenI done))]⟩
  | 0, k, done, h, hR => by
    refine scans_Check_l1_run fun K hK => ?_
    have h2 : ¬ k < s.l.length := by omega
    have h3 : k = s.l.length := by omega
    simp [h2]
    subst h3
    rw [List.drop_of_length_le (Nat.le_refl _)] at hR
    exact h0 _ hR.symm
  | kk + 1, k, done, h, hR => by
    refine scans_Check_l1_run fun K hK => ?_
    have h2 : k < s.l.length := by omega
    rw [List.drop_eq_getElem_cons h2] at hR
    simp only [goElems] at hR
    have hfit := seenI_fit done
    generalize hx : s.l[k] = n at hR
    by_cases b1 : n < 0
    · rw [if_pos (show elemBad c done n = true by simp [elemBad, b1])] at hR
      simp (disch := omega) [h2, tSl, enc1_len, enc1_get (0 : Int), enc1_wid, hx, b1]
      exact h1 hR.symm
    by_cases b2 : (c.nodes.l.length : Int) ≤ n
    · rw [if_pos (show elemBad c done n = true by simp [elemBad, b2])] at hR
      simp (disch := omega) [h2, tSl, enc1_len, enc1_get (0 : Int), enc1_wid, hx, b1, b2, tC, tNodes, encN_len]
      exact h1 hR.symm
    have hj : n.toNat < c.nodes.l.length := by omega
    have hk : kindAt c n.toNat = c.nodes.l[n.toNat].k := by simp [kindAt, hj]
    by_cases b3 : c.nodes.l[n.toNat].k = 14
    case neg =>
      rw [if_pos (show elemBad c done n = true by simp [elemBad, hk, b3])] at hR
      simp (disch := omega) [h2, tSl, enc1_len, enc1_get (0 : Int), enc1_wid, hx, b1, b2, tC, tNodes, encN_len, encN_get Nd.d, tNd_wid, tNd, hj, b3]
      exact ⟨by omega, h1 hR.symm⟩
    by_cases b4 : n ∈ done
    · rw [if_pos (show elemBad c done n = true by simp [elemBad, b4])] at hR
      simp (disch := omega) [h2, tSl, enc1_len, enc1_get (0 : Int), enc1_wid, hx, b1, b2, tC, tNodes, encN_len, encN_get Nd.d, tNd_wid, tNd, hj, b3, KT.fits, hfit, seenI_find, b4]
      exact ⟨by omega, h1 hR.symm⟩
    rw [if_neg (show ¬ elemBad c done n = true by simp [elemBad, b1, b2, hk, b3, b4])] at hR
    simp (disch := omega) [h2, tSl, enc1_len, enc1_get (0 : Int), enc1_wid, hx, b1, b2, tC, tNodes, encN_len, encN_get Nd.d, tNd_wid, tNd, hj, b3, KT.fits, hfit, seenI_find, b4, seenI_set, wrap_i64]
    refine ⟨by omega, ?_⟩
    rw [hK]
    have := elems_loop c hn chs a21 a22 s hs R h0 h1 kk (k + 1) (done ++ [n]) (by omega) hR
    simpa [tSl, tC, tNodes] using this

theorem chains_loop {Q : AX → St → Prop} (c : Cir) (hn : c.nodes.l.length ≤ 1000000000) (chs : Sl (Sl Int)) (hl : chs.l.length ≤ 1000000000) (hs : ∀ s ∈ chs.l, s.l.length ≤ 1000000000) (R : Option (List Int))
    (h0 : ∀ d, R = some d → Q (.exit 0) ⟨[(2, .t (.ip (tC c) 0)), (6, .lm 19), (20, .t (tChs chs)), (21, .t (tI chs.l.length)), (22, .t (tI chs.l.length)), (23, .t (tB false))], [(19, .mp (seenI d))]⟩)
    (h1 : R = none → Q .ret ⟨[(4, .t (tI 1))], []⟩) : ∀ (kk k : Nat) (done : List Int), kk + k = chs.l.length → goChains c done (chs.l.drop k) = R →
    run Tryd.prog Γ scans_Check_l3 Q ⟨[(2, .t (.ip (tC c) 0)), (6, .lm 19), (20, .t (tChs chs)), (21, .t (tI chs.l.length)), (22, .t (tI k))], [(19, .mp (seenI done))]⟩
  | 0, k, done, h, hR => by
    refine scans_Check_l3_run fun K hK => ?_
    have h2 : ¬ k < chs.l.length := by omega
    have h3 : k = chs.l.length := by omega
    simp [h2]
    subst h3
    rw [List.drop_of_length_le (Nat.le_refl _)] at hR
    exact h0 _ hR.symm
  | kk + 1, k, done, h, hR => by
    refine scans_Check_l3_run fun K hK => ?_
    have h2 : k < chs.l.length := by omega
    have hsl := hs _ (List.getElem_mem h2)
    rw [List.drop_eq_getElem_cons h2] at hR
    simp only [goChains] at hR
    by_cases he : chs.l[k].l = []
    · rw [if_pos he] at hR
      simp (disch := omega) [h2, tChs, enc1_len, enc1_get Sl.d, enc1_wid, tSl, he, enc1_nil]
      exact h1 hR.symm
    rw [if_neg he] at hR
    have he' : ¬ chs.l[k].l.length = 0 := fun e => he (List.eq_nil_of_length_eq_zero e)
    simp (disch := omega) [h2, tChs, enc1_len, enc1_get Sl.d, enc1_wid, tSl, he, he']
    refine elems_loop c hn (.sl (enc1 tSl chs.l) chs.cap chs.nl) (tI chs.l.length) (tI k) chs.l[k] hsl (goElems c done chs.l[k].l) (fun d hd => ?_) (fun hd => ?_) chs.l[k].l.length 0 done (by omega) rfl
    · rw [hd] at hR
      simp (disch := omega) [wrap_i64]
      rw [hK]
      have := chains_loop c hn chs hl hs R h0 h1 kk (k + 1) d (by omega) hR
      simpa [tChs] using this
    · rw [hd] at hR
      simp
      exact h1 hR.symm

def checkErr (c : Cir) (chs : List (Sl Int)) : Int :=
  if plainErr c ≠ 0 then plainErr c else if 64 < chs.length then 3 else match goChains c [] chs with
    | none => 1
    | some d => if d.length ≠ (states c).length then 8 else 0

theorem scheck_spec (hΓ : GOk Γ) (c : Cir) (hc : COk c) (chs : Sl (Sl Int)) (hl : chs.l.length ≤ 1000000000) (hs : ∀ s ∈ chs.l, s.l.length ≤ 1000000000) : FreshCalls Tryd.prog Γ 18 [.agg (tC c), tChs chs] (tI (checkErr c chs.l)) := by
  refine run_freshQ scans_Check_chk rfl ?_
  simp [scans_Check_ic, tC, tNodes, tNames, tMems, tSl]
  refine callK_fresh (plain_spec hΓ c hc) rfl ?_
  by_cases h1 : plainErr c = 0
  case neg =>
    have : checkErr c chs.l = plainErr c := by unfold checkErr; rw [if_pos h1]
    simp [h1, scans_Check_rv, this]
  have hp : checkErr c chs.l = if 64 < chs.l.length then 3 else match goChains c [] chs.l with
    | none => 1
    | some d => if d.length ≠ (states c).length then 8 else 0 := by unfold checkErr; rw [if_neg (show ¬ (plainErr c ≠ 0) by simp [h1])]
  by_cases h2 : 64 < chs.l.length
  · rw [if_pos h2] at hp
    have h2' : (64 : Int) < chs.l.length := by omega
    simp [h1, tChs, enc1_len, h2', scans_Check_rv, hp]
  rw [if_neg h2] at hp
  have h2' : ¬ (64 : Int) < chs.l.length := by omega
  simp [h1, tChs, enc1_len, h2']
  refine chains_loop c hc.nodes chs hl hs (goChains c [] chs.l) (fun d hd => ?_) (fun hd => ?_) chs.l.length 0 [] (by omega) rfl
  case refine_2 =>
    rw [hd] at hp
    simp [scans_Check_rv, hp]
  rw [hd] at hp
  simp only at hp
  simp [seenI_len, tC, tNodes, tNames, tMems, tSl]
  refine callK_pure (states_spec c hc) rfl ?_
  by_cases h3 : d.length = (states c).length
  · rw [if_neg (show ¬ (d.length ≠ (states c).length) by simp [h3])] at hp
    simp [enc1_len, h3, scans_Check_rv, hp]
  · rw [if_pos h3] at hp
    have h3' : ¬ (d.length : Int) = (states c).length := by omega
    simp [enc1_len, h3, h3', scans_Check_rv, hp]
end Go.Lg

/- abs, length, Reverse. Conditions: none. -/
set_option linter.unusedSimpArgs false
set_option linter.unusedVariables false
set_option maxRecDepth 100000
namespace Go.Lg
open Go Go.Proofs
variable {Γ : Tables}

abbrev Pnt := Int × Int
def tPnt (p : Pnt) : T := .agg [tI p.1, tI p.2]
def cPnt (p : Pnt) : List T := [tI p.1, tI p.2]
/-- The positions, as a map. -/
def atM (l : List (Int × Pnt)) : List (Value × T) := l.map fun p => (.int .i64 p.1, tPnt p.2)
def atOf (l : List (Int × Pnt)) (n : Int) : Pnt := match l.find? (fun p => p.1 == n) with | some p => p.2 | none => (0, 0)
theorem atM_fit (l : List (Int × Pnt)) : keysFit (.int .i64) (atM l) := by
  intro e he; obtain ⟨s, _, rfl⟩ := List.mem_map.1 he; rfl
theorem atM_find (n : Int) : ∀ l : List (Int × Pnt), (findM (.int .i64 n) (atM l)).getD (.agg [tI 0, tI 0]) = tPnt (atOf l n)
  | [] => rfl
  | p :: l => by
    have ih := atM_find n l
    simp only [atM, List.map_cons, findM, keyEq, int_beq, atOf, List.find?_cons] at ih ⊢
    by_cases h : n = p.1
    · simp [h]
    · have h' : ¬ p.1 = n := fun e => h e.symm
      simp only [h, h', decide_false, Bool.false_eq_true, ↓reduceIte]
      exact ih

theorem abs_spec (n : Int) (h : -4000000 ≤ n ∧ n ≤ 4000000) : FreshCalls Tryd.prog Γ 79 [tI n] (tI (max n (-n))) := by
  refine run_freshQ scans_abs_chk rfl ?_
  simp (disch := omega) [scans_abs_ic, scans_abs_rv, wrap_i64]
  split <;> omega

def Small (l : List (Int × Pnt)) : Prop := ∀ p ∈ l, -1000000 ≤ p.2.1 ∧ p.2.1 ≤ 1000000 ∧ -1000000 ≤ p.2.2 ∧ p.2.2 ≤ 1000000
theorem Small.at {l : List (Int × Pnt)} (h : Small l) (n : Int) : -1000000 ≤ (atOf l n).1 ∧ (atOf l n).1 ≤ 1000000 ∧ -1000000 ≤ (atOf l n).2 ∧ (atOf l n).2 ≤ 1000000 := by
  unfold atOf
  split
  · rename_i p hp
    exact h p (List.mem_of_find?_eq_some hp)
  · simp
def dist (p q : Pnt) : Int := max (p.1 - q.1) (-(p.1 - q.1)) + max (p.2 - q.2) (-(p.2 - q.2))
theorem dist_le {l : List (Int × Pnt)} (h : Small l) (a b : Int) : 0 ≤ dist (atOf l a) (atOf l b) ∧ dist (atOf l a) (atOf l b) ≤ 4000000 := by
  have h1 := h.at a
  have h2 := h.at b
  unfold dist; omega

def lenS (m : List (Int × Pnt)) : List Int → Int
  | a :: b :: l => dist (atOf m a) (atOf m b) + lenS m (b :: l)
  | _ => 0
theorem lenS_snoc (m : List (Int × Pnt)) (b : Int) : ∀ (l : List Int) (a : Int), lenS m (l ++ [a, b]) = lenS m (l ++ [a]) + dist (atOf m a) (atOf m b)
  | [], a => by simp [lenS]
  | [x], a => by simp [lenS]
  | x :: y :: l, a => by
    have := lenS_snoc m b (y :: l) a
    simp only [List.cons_append, lenS] at this ⊢
    omega
theorem lenS_le {m : List (Int × Pnt)} (h : Small m) : ∀ l : List Int, 0 ≤ lenS m l ∧ lenS m l ≤ 4000000 * l.length
  | [] => by simp [lenS]
  | [a] => by simp [lenS]
  | a :: b :: l => by
    have h1 := lenS_le h (b :: l)
    have h2 := dist_le h a b
    simp only [lenS, List.length_cons] at h1 ⊢
    omega

theorem length_loop {Q : AX → St → Prop} (m : List (Int × Pnt)) (hm : Small m) (l : List Int) (cap : Option Nat) (nl : Option Bool) (hl : l.length ≤ 1000000000)
    (h0 : Q (.exit 0) ⟨[(0, .t (.sl (ints l) cap nl)), (1, .t (.mp (atM m))), (5, .t (tI (lenS m l))), (6, .t (tI (max 1 l.length : Nat))), (12, .t (tB false))], []⟩) :
    ∀ (kk i : Nat), kk + i = max 1 l.length → 1 ≤ i →
    run Tryd.prog Γ scans_length_l1 Q ⟨[(0, .t (.sl (ints l) cap nl)), (1, .t (.mp (atM m))), (5, .t (tI (lenS m (l.take i)))), (6, .t (tI i))], []⟩
  | 0, i, h, h1 => by
    refine scans_length_l1_run fun K hK => ?_
    have h2 : ¬ i < l.length := by omega
    simp [h2, enc1_len]
    have h3 : i = max 1 l.length := by omega
    subst h3
    rw [List.take_of_length_le (by omega)]
    exact_mod_cast h0
  | kk + 1, i, h, h1 => by
    refine scans_length_l1_run fun K hK => ?_
    have h2 : i < l.length := by omega
    have h4 : i - 1 < l.length := by omega
    have hi : ((i : Int) - 1).toNat = i - 1 := by omega
    have hfit := atM_fit m
    have hle := lenS_le hm (l.take i)
    have hlt : (l.take i).length = i := by simp; omega
    have e0 : l.take i = l.take (i - 1) ++ [l[i - 1]] := by
      have := List.take_add_one (l := l) (i := i - 1)
      rw [show i - 1 + 1 = i by omega] at this
      rw [this]; simp [h4]
    have t1 : l.take (i + 1) = l.take i ++ [l[i]] := by rw [List.take_add_one]; simp [h2]
    have e1 : l.take (i + 1) = l.take (i - 1) ++ [l[i - 1], l[i]] := t1.trans ((congrArg (· ++ [l[i]]) e0).trans (List.append_assoc _ _ _))
    have hs := lenS_snoc m l[i] (l.take (i - 1)) l[i - 1]
    rw [← e0, ← e1] at hs
    have ha := hm.at l[i - 1]
    have hb := hm.at l[i]
    have hd : dist (atOf m l[i - 1]) (atOf m l[i]) = max ((atOf m l[i - 1]).1 - (atOf m l[i]).1) (-((atOf m l[i - 1]).1 - (atOf m l[i]).1)) + max ((atOf m l[i - 1]).2 - (atOf m l[i]).2) (-((atOf m l[i - 1]).2 - (atOf m l[i]).2)) := rfl
    rw [hd] at hs
    have f1 := atM_find l[i - 1] m
    have f2 := atM_find l[i] m
    simp only [tPnt] at f1 f2
    obtain ⟨a1, a2, a3, a4⟩ := ha
    obtain ⟨b1, b2, b3, b4⟩ := hb
    have k1 := abs_spec (Γ := Γ) ((atOf m l[i - 1]).1 - (atOf m l[i]).1) (by omega)
    have k2 := abs_spec (Γ := Γ) ((atOf m l[i - 1]).2 - (atOf m l[i]).2) (by omega)
    have ih := length_loop m hm l cap nl hl h0 kk (i + 1) (by omega) (by omega)
    rw [hs] at ih
    generalize atOf m l[i - 1] = p at *
    generalize atOf m l[i] = q at *
    simp (disch := omega) [h2, h4, hi, enc1_len, enc1_get (0 : Int), enc1_wid, wrap_i64, KT.fits, hfit, f1, f2]
    refine ⟨by omega, ?_⟩
    refine callK_fresh k1 rfl ?_
    simp (disch := omega) [wrap_i64]
    refine callK_fresh k2 rfl ?_
    simp (disch := omega) [wrap_i64]
    rw [hK]
    exact_mod_cast ih

theorem length_spec (m : List (Int × Pnt)) (hm : Small m) (l : List Int) (cap : Option Nat) (nl : Option Bool) (hl : l.length ≤ 1000000000) : FreshCalls Tryd.prog Γ 50 [.sl (ints l) cap nl, .mp (atM m)] (tI (lenS m l)) := by
  refine run_freshQ scans_length_chk rfl ?_
  simp [scans_length_ic]
  have h1 : lenS m (l.take 1) = 0 := by
    match l with
    | [] => rfl
    | [a] => rfl
    | a :: b :: l => rfl
  have := length_loop (Γ := Γ) (Q := blockX 0 (thenX (run Tryd.prog Γ (.seq (.reg scans_length_r7 [.keep [4] []]) .ret) (ret true scans_length_rv fun r => r = tI (lenS m l))) (ret true scans_length_rv fun r => r = tI (lenS m l)))) m hm l cap nl hl (by simp [scans_length_rv]) (max 1 l.length - 1) 1 (by omega) (by omega)
  rw [h1] at this
  exact this

/-- The part from a to b of a list, turned. -/
def revL : Nat → Nat → Nat → List Int → List Int
  | 0, _, _, l => l
  | f + 1, a, b, l => if a < b then revL f (a + 1) (b - 1) (swapL l a b) else l
theorem revL_len : ∀ {f a b : Nat} {l : List Int}, (revL f a b l).length = l.length
  | 0, _, _, _ => rfl
  | f + 1, a, b, l => by
    simp only [revL]
    split
    · rw [revL_len]; exact swapL_len
    · rfl

theorem reverse_loop {Q : AX → St → Prop} (ty : Nat) (off len : Nat) (cap : Option Nat) (R : List Int) (hlen : len ≤ 1000000000)
    (h0 : ∀ a b : Int, Q (.exit 0) ⟨[(0, .ls 1000000 off len cap), (2, .t (tI a)), (3, .t (tI b)), (9, .t (tB false))], [(1000000, .sl ty 1 (ints R))]⟩) :
    ∀ (f a : Nat) (b : Int) (l : List Int), (b < len ∧ -1 ≤ b) → b + 1 ≤ f + a → a ≤ len → off + len ≤ l.length → revL f (off + a) ((off + b).toNat) l = R →
    run Tryd.prog Γ slices_Reverse_int_l1 Q ⟨[(0, .ls 1000000 off len cap), (2, .t (tI a)), (3, .t (tI b))], [(1000000, .sl ty 1 (ints l))]⟩
  | 0, a, b, l, hb, hf, ha, hl, hR => by
    refine slices_Reverse_int_l1_run fun K hK => ?_
    have h2 : ¬ (a : Int) < b := by omega
    simp [h2]
    simp only [revL] at hR
    subst hR
    exact h0 _ _
  | f + 1, a, b, l, hb, hf, ha, hl, hR => by
    refine slices_Reverse_int_l1_run fun K hK => ?_
    simp only [revL] at hR
    by_cases h2 : (a : Int) < b
    case neg =>
      rw [if_neg (by omega)] at hR
      simp [h2]
      subst hR
      exact h0 _ _
    rw [if_pos (by omega)] at hR
    have hbn : (off + b).toNat = off + b.toNat := by omega
    have hb2 : b.toNat < len := by omega
    have la : off + a < l.length := by omega
    have lb : off + b.toNat < l.length := by omega
    have hsw : swapL l (off + a) (off + b).toNat = (l.set (off + a) l[off + b.toNat]).set (off + b.toNat) l[off + a] := by
      unfold swapL
      rw [hbn]
      simp [la, lb]
    rw [hsw] at hR
    have ih := reverse_loop ty off len cap R hlen h0 f (a + 1) (b - 1) ((l.set (off + a) l[off + b.toNat]).set (off + b.toNat) l[off + a]) (by omega) (by omega) (by omega) (by simp; omega) (by
      rw [← hR]; congr 1; omega)
    simp (disch := omega) [h2, hb2, enc1_len, enc1_get (0 : Int), enc1_wid, enc1_set, wrap_i64, la, lb]
    refine ⟨by omega, by omega, by omega, ?_⟩
    rw [hK]
    exact_mod_cast ih

def revP (l : List Int) (off len : Nat) : List Int := revL (len + 1) off (off + len - 1) l

theorem reverse_h (ty off len : Nat) (cap : Option Nat) (l : List Int) (hl : off + len ≤ l.length) (hlen : len ≤ 1000000000) (h1 : 1 ≤ len) : HCalls Tryd.prog Γ 80 [(1000000, .sl ty 1 (ints l))] [.ls 1000000 off len cap] (.t (.tup [])) [(1000000, .sl ty 1 (ints (revP l off len)))] := by
  refine run_handQ slices_Reverse_int_chk rfl ?_
  simp (disch := omega) [slices_Reverse_int_ic, wrap_i64]
  have := reverse_loop (Γ := Γ) (Q := blockX 0 (retH slices_Reverse_int_rv fun r h => r = .t (.tup []) ∧ h = [(1000000, .sl ty 1 (ints (revP l off len)))])) ty off len cap (revP l off len) hlen (fun a b => by simp [slices_Reverse_int_rv]) (len + 1) 0 (len - 1) l (by omega) (by omega) (by omega) hl (by
    unfold revP; congr 1; omega)
  exact this
end Go.Lg

/- placed and Length. Conditions: none. -/
set_option linter.unusedSimpArgs false
set_option linter.unusedVariables false
set_option maxRecDepth 100000
namespace Go.Lg
open Go Go.Proofs
variable {Γ : Tables}

def tPts (s : Sl Pnt) : T := .sl (encN cPnt s.l) s.cap s.nl
theorem cPnt_wid {l : List Pnt} : wid 2 (encN cPnt l) := encN_wid fun _ => rfl

theorem states_nodup (c : Cir) : (states c).Nodup := (ofL_nodup _ _ _).2

theorem atM_set (n : Int) (p : Pnt) : ∀ l : List (Int × Pnt), n ∉ l.map (·.1) → setM (.int .i64 n) (tPnt p) (atM l) = atM (l ++ [(n, p)])
  | [], _ => rfl
  | y :: l, h => by
    have ih := atM_set n p l (fun hm => h (List.mem_cons_of_mem _ hm))
    have hne : ¬ n = y.1 := fun e => h (by simp [e])
    simp only [atM, List.map_cons, setM, keyEq, int_beq, List.cons_append] at ih ⊢
    simp [hne, ih]

def ptBad (p : Pnt) : Bool := decide (p.1 < -1000000 ∨ 1000000 < p.1 ∨ p.2 < -1000000 ∨ 1000000 < p.2)

theorem placed_loop {Q : AX → St → Prop} (st : List Int) (hnd : st.Nodup) (at' : Sl Pnt) (hl : at'.l.length ≤ 1000000000) (he : at'.l.length = st.length)
    (h0 : at'.l.any ptBad = false → Q (.exit 0) ⟨[(9, .t (.sl (ints st) (some st.length) none)), (10, .lm 26), (27, .t (tPts at')), (28, .t (tI at'.l.length)), (29, .t (tI at'.l.length)), (30, .t (tB false))], [(26, .mp (atM (st.zip at'.l)))]⟩)
    (h1 : at'.l.any ptBad = true → ∀ m, Q .ret ⟨[(6, .t (.mp [])), (7, .t (tI 1))], [(26, .mp (atM m))]⟩) : ∀ (kk i : Nat), kk + i = at'.l.length → (∀ j, j < i → ∀ p, at'.l[j]? = some p → ptBad p = false) →
    run Tryd.prog Γ scans_placed_l1 Q ⟨[(9, .t (.sl (ints st) (some st.length) none)), (10, .lm 26), (27, .t (tPts at')), (28, .t (tI at'.l.length)), (29, .t (tI i))], [(26, .mp (atM ((st.zip at'.l).take i)))]⟩
  | 0, i, h, hq => by
    refine scans_placed_l1_run fun K hK => ?_
    have h2 : ¬ i < at'.l.length := by omega
    have h3 : i = at'.l.length := by omega
    simp [h2]
    subst h3
    rw [List.take_of_length_le (by simp [List.length_zip]; omega)]
    refine h0 (List.any_eq_false.2 fun p hp => ?_)
    obtain ⟨j, hj, rfl⟩ := List.getElem_of_mem hp
    simp [hq j hj _ (List.getElem?_eq_getElem hj)]
  | kk + 1, i, h, hq => by
    refine scans_placed_l1_run fun K hK => ?_
    have h2 : i < at'.l.length := by omega
    have h2' : i < st.length := by omega
    have hget : (encN cPnt at'.l)[i]?.getD [] = cPnt at'.l[i] := by simp [encN, h2]
    have hzl : i < (st.zip at'.l).length := by simp [List.length_zip]; omega
    have hzt : (st.zip at'.l).take (i + 1) = (st.zip at'.l).take i ++ [(st[i], at'.l[i])] := by
      rw [List.take_add_one, List.getElem?_eq_getElem hzl]; simp
    have hnm : st[i] ∉ ((st.zip at'.l).take i).map (·.1) := by
      intro hm
      obtain ⟨p, hp, hpe⟩ := List.mem_map.1 hm
      obtain ⟨j, hj, rfl⟩ := List.getElem_of_mem hp
      simp [List.length_zip] at hj
      simp at hpe
      exact (List.pairwise_iff_getElem.1 hnd j i (by omega) h2' (by omega)) hpe
    have hset := atM_set st[i] at'.l[i] _ hnm
    rw [← hzt] at hset
    have hfit := atM_fit ((st.zip at'.l).take i)
    have hbad : at'.l[i] ∈ at'.l := List.getElem_mem h2
    have fail : ptBad at'.l[i] = true → at'.l.any ptBad = true := fun hb => List.any_eq_true.2 ⟨_, hbad, hb⟩
    generalize hp : at'.l[i] = p at *
    obtain ⟨x, y⟩ := p
    by_cases b1 : x < -1000000
    · simp (disch := omega) [h2, tPts, encN_len, hget, cPnt_wid, cPnt, b1]
      exact h1 (fail (by simp [ptBad, b1])) _
    by_cases b2 : 1000000 < x
    · simp (disch := omega) [h2, tPts, encN_len, hget, cPnt_wid, cPnt, b1, b2]
      exact h1 (fail (by simp [ptBad, b2])) _
    by_cases b3 : y < -1000000
    · simp (disch := omega) [h2, tPts, encN_len, hget, cPnt_wid, cPnt, b1, b2, b3]
      exact h1 (fail (by simp [ptBad, b3])) _
    by_cases b4 : 1000000 < y
    · simp (disch := omega) [h2, tPts, encN_len, hget, cPnt_wid, cPnt, b1, b2, b3, b4]
      exact h1 (fail (by simp [ptBad, b4])) _
    have ih := placed_loop st hnd at' hl he h0 h1 kk (i + 1) (by omega) (fun j hj q hqq => by
      rcases Nat.lt_succ_iff_lt_or_eq.1 hj with hj | rfl
      · exact hq j hj q hqq
      · rw [List.getElem?_eq_getElem h2, hp] at hqq
        simp only [Option.some.injEq] at hqq; subst hqq
        simp [ptBad, b1, b2, b3, b4])
    simp only [tPnt] at hset
    simp (disch := omega) [h2, h2', tPts, encN_len, hget, cPnt_wid, cPnt, b1, b2, b3, b4, enc1_len, enc1_get (0 : Int), enc1_wid, KT.fits, hfit, hset, wrap_i64]
    rw [hK]
    simpa [tPts] using ih

def placedErr (c : Cir) (chs : List (Sl Int)) (at' : List Pnt) : Int :=
  if checkErr c chs ≠ 0 then checkErr c chs else if at'.length ≠ (states c).length then 8 else if at'.any ptBad = true then 1 else 0
def placedM (c : Cir) (chs : List (Sl Int)) (at' : List Pnt) : List (Int × Pnt) := if placedErr c chs at' = 0 then (states c).zip at' else []

theorem placed_spec (hΓ : GOk Γ) (c : Cir) (hc : COk c) (chs : Sl (Sl Int)) (hl : chs.l.length ≤ 1000000000) (hs : ∀ s ∈ chs.l, s.l.length ≤ 1000000000) (at' : Sl Pnt) (ha : at'.l.length ≤ 1000000000) :
    PureCalls Tryd.prog Γ 49 [.agg (tC c), tChs chs, tPts at'] (.tup [.mp (atM (placedM c chs.l at'.l)), tI (placedErr c chs.l at'.l)]) := by
  refine run_pureQ scans_placed_chk rfl ?_
  simp [scans_placed_ic, tC, tNodes, tNames, tMems, tSl]
  refine callK_fresh (scheck_spec hΓ c hc chs hl hs) rfl ?_
  by_cases h1 : checkErr c chs.l = 0
  case neg =>
    have : placedErr c chs.l at'.l = checkErr c chs.l := by unfold placedErr; rw [if_pos h1]
    simp [h1, scans_placed_rv, placedM, this, atM]
  have hp : placedErr c chs.l at'.l = if at'.l.length ≠ (states c).length then 8 else if at'.l.any ptBad = true then 1 else 0 := by
    unfold placedErr; rw [if_neg (show ¬ (checkErr c chs.l ≠ 0) by simp [h1])]
  simp [h1]
  refine callK_pure (states_spec c hc) rfl ?_
  by_cases h2 : at'.l.length = (states c).length
  case neg =>
    rw [if_pos h2] at hp
    have h2' : ¬ (at'.l.length : Int) = (states c).length := by omega
    simp [tPts, encN_len, enc1_len, h2, h2', scans_placed_rv, hp, placedM, atM]
  rw [if_neg (show ¬ (at'.l.length ≠ (states c).length) by simp [h2])] at hp
  have hpl := fun Q h0 h1 => placed_loop (Γ := Γ) (Q := Q) (states c) (states_nodup c) at' ha h2 h0 h1 at'.l.length 0 (by omega) (by simp)
  simp [tPts, encN_len, enc1_len, h2]
  simp only [tPts, h2] at hpl
  refine hpl _ (fun hb => ?_) (fun hb m => ?_)
  · rw [if_neg (by simp [hb])] at hp
    simp [scans_placed_rv, hp, placedM]
  · rw [if_pos hb] at hp
    simp [scans_placed_rv, hp, placedM, atM]

def lenTot (m : List (Int × Pnt)) (l : List (Sl Int)) : Int := (l.map fun s => lenS m s.l).sum

theorem lenTot_snoc (m : List (Int × Pnt)) (l : List (Sl Int)) (s : Sl Int) : lenTot m (l ++ [s]) = lenTot m l + lenS m s.l := by simp [lenTot]
theorem lenTot_le {m : List (Int × Pnt)} (hm : Small m) : ∀ l : List (Sl Int), (∀ s ∈ l, s.l.length ≤ 1000000000) → 0 ≤ lenTot m l ∧ lenTot m l ≤ 4000000000000000 * l.length
  | [], _ => by simp [lenTot]
  | s :: l, h => by
    have h1 := lenTot_le hm l fun x hx => h x (List.mem_cons_of_mem _ hx)
    have h2 := lenS_le hm s.l
    have h3 := h s List.mem_cons_self
    simp only [lenTot, List.map_cons, List.sum_cons, List.length_cons] at h1 ⊢
    omega
theorem lenS_nil : ∀ l : List Int, lenS [] l = 0
  | [] => rfl
  | [_] => rfl
  | a :: b :: l => by simp only [lenS, lenS_nil (b :: l)]; simp [atOf, dist]
theorem lenTot_nil (l : List (Sl Int)) : lenTot [] l = 0 := by
  induction l with
  | nil => rfl
  | cons s l ih => simp only [lenTot, List.map_cons, List.sum_cons, lenS_nil] at ih ⊢; omega

theorem Length_loop {Q : AX → St → Prop} (m : List (Int × Pnt)) (hm : Small m) (chs : Sl (Sl Int)) (hl : chs.l.length ≤ 1000000000) (hs : ∀ s ∈ chs.l, s.l.length ≤ 1000000000) (hb : m = [] ∨ chs.l.length ≤ 64) (e : Int)
    (h0 : Q (.exit 0) ⟨[(8, .t (.mp (atM m))), (9, .t (tI e)), (10, .t (tI (lenTot m chs.l))), (20, .t (tChs chs)), (21, .t (tI chs.l.length)), (22, .t (tI chs.l.length)), (23, .t (tB false))], []⟩) : ∀ (kk i : Nat), kk + i = chs.l.length →
    run Tryd.prog Γ scans_Length_l1 Q ⟨[(8, .t (.mp (atM m))), (9, .t (tI e)), (10, .t (tI (lenTot m (chs.l.take i)))), (20, .t (tChs chs)), (21, .t (tI chs.l.length)), (22, .t (tI i))], []⟩
  | 0, i, h => by
    refine scans_Length_l1_run fun K hK => ?_
    have h2 : ¬ i < chs.l.length := by omega
    have h3 : i = chs.l.length := by omega
    simp [h2]
    subst h3
    simpa using h0
  | kk + 1, i, h => by
    refine scans_Length_l1_run fun K hK => ?_
    have h2 : i < chs.l.length := by omega
    have hsl := hs _ (List.getElem_mem h2)
    have ht : chs.l.take (i + 1) = chs.l.take i ++ [chs.l[i]] := by rw [List.take_add_one]; simp [h2]
    have hsn := lenTot_snoc m (chs.l.take i) chs.l[i]
    rw [← ht] at hsn
    have b1 := lenS_le hm chs.l[i].l
    have b2 := lenTot_le hm (chs.l.take i) fun s hs' => hs s (List.mem_of_mem_take hs')
    have b3 : (chs.l.take i).length = i := by simp; omega
    have b4 : 0 ≤ lenTot m (chs.l.take i) + lenS m chs.l[i].l ∧ lenTot m (chs.l.take i) + lenS m chs.l[i].l ≤ 4611686018427387904 := by
      rcases hb with rfl | hb
      · rw [lenS_nil, lenTot_nil]; omega
      · omega
    have e1 := length_spec (Γ := Γ) m hm chs.l[i].l chs.l[i].cap chs.l[i].nl hsl
    have ih := Length_loop m hm chs hl hs hb e h0 kk (i + 1) (by omega)
    rw [hsn] at ih
    simp (disch := omega) [h2, tChs, enc1_len, enc1_get Sl.d, enc1_wid, tSl]
    refine callK_fresh e1 rfl ?_
    simp (disch := omega) [wrap_i64]
    rw [hK]
    simpa [tChs] using ih

theorem placedM_small (c : Cir) (chs : List (Sl Int)) (at' : List Pnt) : Small (placedM c chs at') := by
  unfold placedM
  split
  · rename_i h
    intro p hp
    have hb : ptBad p.2 = false := by
      unfold placedErr at h
      split at h
      · rename_i h'; exact absurd h h'
      split at h
      · cases h
      split at h
      · cases h
      rename_i h3
      have h4 : at'.any ptBad = false := by simpa using h3
      have h5 := List.any_eq_false.1 h4 p.2 (List.of_mem_zip hp).2
      simpa using h5
    simp only [ptBad, decide_eq_false_iff_not, not_or, Int.not_lt] at hb
    omega
  · intro p hp; cases hp

theorem checkErr_len {c : Cir} {chs : List (Sl Int)} (h : checkErr c chs = 0) : chs.length ≤ 64 := by
  unfold checkErr at h
  split at h
  · rename_i h'; exact absurd h h'
  split at h
  · cases h
  omega
theorem placedM_len (c : Cir) (chs : List (Sl Int)) (at' : List Pnt) : placedM c chs at' = [] ∨ chs.length ≤ 64 := by
  unfold placedM
  split
  · rename_i h
    right
    unfold placedErr at h
    split at h
    · rename_i h'; exact absurd h h'
    · rename_i h'; exact checkErr_len (by simpa using h')
  · exact .inl rfl

theorem Length_spec (hΓ : GOk Γ) (c : Cir) (hc : COk c) (chs : Sl (Sl Int)) (hl : chs.l.length ≤ 1000000000) (hs : ∀ s ∈ chs.l, s.l.length ≤ 1000000000) (at' : Sl Pnt) (ha : at'.l.length ≤ 1000000000) :
    FreshCalls Tryd.prog Γ 21 [.agg (tC c), tChs chs, tPts at'] (.tup [tI (if placedErr c chs.l at'.l = 0 then lenTot (placedM c chs.l at'.l) chs.l else 0), tI (placedErr c chs.l at'.l)]) := by
  refine run_freshQ scans_Length_chk rfl ?_
  simp [scans_Length_ic, tC, tNodes, tNames, tMems, tSl]
  refine callK_pure (placed_spec hΓ c hc chs hl hs at' ha) rfl ?_
  simp
  simp [tChs, enc1_len]
  refine Length_loop (placedM c chs.l at'.l) (placedM_small _ _ _) chs hl hs (placedM_len _ _ _) (placedErr c chs.l at'.l) ?_ chs.l.length 0 (by omega)
  by_cases h : placedErr c chs.l at'.l = 0 <;> simp [h, scans_Length_rv]
end Go.Lg

/- shorter and Shorten. Conditions: none. -/
set_option linter.unusedSimpArgs false
set_option linter.unusedVariables false
set_option maxRecDepth 100000
namespace Go.Lg
open Go Go.Proofs
variable {Γ : Tables}

def kLoop (m : List (Int × Pnt)) (best : Int) (i : Nat) : Nat → Nat → List Int → Sum (Int × List Int) (List Int)
  | 0, _, l => .inr l
  | f + 1, k, l => if lenS m (revP l i (k + 1 - i)) < best then .inl (lenS m (revP l i (k + 1 - i)), revP l i (k + 1 - i)) else kLoop m best i f (k + 1) (revP (revP l i (k + 1 - i)) i (k + 1 - i))
def iLoop (m : List (Int × Pnt)) (best : Int) (n : Nat) : Nat → Nat → List Int → Sum (Int × List Int) (List Int)
  | 0, _, l => .inr l
  | f + 1, i, l => match kLoop m best i (n - (i + 1)) (i + 1) l with
    | .inl r => .inl r
    | .inr l' => iLoop m best n f (i + 1) l'
def shortS (m : List (Int × Pnt)) (n : Nat) : Nat → Int → List Int → List Int
  | 0, _, l => l
  | f + 1, best, l => match iLoop m best n n 0 l with
    | .inl r => shortS m n f r.1 r.2
    | .inr l' => l'

theorem revP_len {l : List Int} {a b : Nat} : (revP l a b).length = l.length := revL_len

/-- Lists that come back have the same length. -/
def lenOk (n : Nat) : Sum (Int × List Int) (List Int) → Prop
  | .inl r => r.2.length = n
  | .inr l => l.length = n
theorem kLoop_len {m : List (Int × Pnt)} {best : Int} {i : Nat} : ∀ {f k : Nat} {l : List Int}, lenOk l.length (kLoop m best i f k l)
  | 0, _, _ => rfl
  | f + 1, k, l => by
    simp only [kLoop]
    split
    · exact revP_len
    · have := kLoop_len (m := m) (best := best) (i := i) (f := f) (k := k + 1) (l := revP (revP l i (k + 1 - i)) i (k + 1 - i))
      rw [revP_len, revP_len] at this; exact this
theorem iLoop_len {m : List (Int × Pnt)} {best : Int} {n : Nat} : ∀ {f i : Nat} {l : List Int}, lenOk l.length (iLoop m best n f i l)
  | 0, _, _ => rfl
  | f + 1, i, l => by
    simp only [iLoop]
    have h := kLoop_len (m := m) (best := best) (i := i) (f := n - (i + 1)) (k := i + 1) (l := l)
    split
    · rename_i r hr; rw [hr] at h; exact h
    · rename_i l' hr
      rw [hr] at h
      have := iLoop_len (m := m) (best := best) (n := n) (f := f) (i := i + 1) (l := l')
      rw [show l'.length = l.length from h] at this; exact this
/-- An improvement is one. -/
theorem kLoop_lt {m : List (Int × Pnt)} {best : Int} {i : Nat} {r : Int × List Int} : ∀ {f k : Nat} {l : List Int}, kLoop m best i f k l = .inl r → r.1 < best ∧ r.1 = lenS m r.2
  | 0, _, _, h => by simp [kLoop] at h
  | f + 1, k, l, h => by
    simp only [kLoop] at h
    split at h
    · rename_i hlt; simp only [Sum.inl.injEq] at h; subst h; exact ⟨hlt, rfl⟩
    · exact kLoop_lt h
theorem iLoop_lt {m : List (Int × Pnt)} {best : Int} {n : Nat} {r : Int × List Int} : ∀ {f i : Nat} {l : List Int}, iLoop m best n f i l = .inl r → r.1 < best ∧ r.1 = lenS m r.2
  | 0, _, _, h => by simp [iLoop] at h
  | f + 1, i, l, h => by
    simp only [iLoop] at h
    split at h
    · rename_i r' hr; simp only [Sum.inl.injEq] at h; subst h; exact kLoop_lt hr
    · exact iLoop_lt h

theorem k_loop {Q : AX → St → Prop} (m : List (Int × Pnt)) (hm : Small m) (n : Nat) (hn : n ≤ 1000000000) (best : Int) (i : Nat) (R : Sum (Int × List Int) (List Int))
    (h0 : ∀ l, R = .inr l → Q (.exit 4) ⟨[(0, .ls 10007 0 n (some n)), (1, .t (.mp (atM m))), (5, .t (tI best)), (6, .t (tI i)), (7, .t (tI (max n (i + 1) : Nat))), (16, .t (tI n)), (17, .t (tI i)), (25, .t (tB false))], [(10007, .sl 3 1 (ints l))]⟩)
    (h1 : ∀ r, R = .inl r → Q (.exit 1) ⟨[(0, .ls 10007 0 n (some n)), (1, .t (.mp (atM m))), (5, .t (tI r.1))], [(10007, .sl 3 1 (ints r.2))]⟩) : ∀ (f k : Nat) (l : List Int), f + k = max n (i + 1) → i < k → l.length = n → kLoop m best i f k l = R →
    run Tryd.prog Γ scans_shorter_l1 Q ⟨[(0, .ls 10007 0 n (some n)), (1, .t (.mp (atM m))), (5, .t (tI best)), (6, .t (tI i)), (7, .t (tI k)), (16, .t (tI n)), (17, .t (tI i))], [(10007, .sl 3 1 (ints l))]⟩
  | 0, k, l, h, hik, hl, hR => by
    refine scans_shorter_l1_run fun K hK => ?_
    have h2 : ¬ k < n := by omega
    simp [h2]
    have h3 : k = max n (i + 1) := by omega
    subst h3
    simp only [kLoop] at hR
    exact_mod_cast h0 l hR.symm
  | f + 1, k, l, h, hik, hl, hR => by
    refine scans_shorter_l1_run fun K hK => ?_
    have h2 : k < n := by omega
    have hi2 : i < n := by omega
    simp only [kLoop] at hR
    have hr1 := reverse_h (Γ := Γ) 3 i (k + 1 - i) (some (n - i)) l (by omega) (by omega) (by omega)
    generalize hlr : revP l i (k + 1 - i) = lr at hr1 hR
    have hlrn : lr.length = n := by rw [← hlr, revP_len, hl]
    have hr2 := reverse_h (Γ := Γ) 3 i (k + 1 - i) (some (n - i)) lr (by omega) (by omega) (by omega)
    have e1 := length_spec (Γ := Γ) m hm lr (some n) none (by omega)
    have hle := lenS_le hm lr
    have htk : (ints lr).take n = ints lr := by rw [← hlrn]; simp
    have hk1 : ((k : Int) + 1).toNat = k + 1 := by omega
    simp (disch := omega) [h2, wrap_i64, hk1]
    refine ⟨by omega, _, _, hr1, ?_⟩
    simp [enc1_len, hlrn, hl]
    refine callK_fresh e1 (by simp [reify, htk]) ?_
    by_cases hlt : lenS m lr < best
    · rw [if_pos hlt] at hR
      simp [hlt]
      exact h1 _ hR.symm
    · rw [if_neg hlt] at hR
      simp (disch := omega) [hlt, wrap_i64, hk1]
      refine ⟨by omega, _, _, hr2, ?_⟩
      simp (disch := omega) [enc1_len, hlrn, revP_len, wrap_i64]
      refine ⟨rfl, ?_⟩
      rw [hK]
      exact_mod_cast k_loop m hm n hn best i R h0 h1 f (k + 1) _ (by omega) (by omega) (by rw [revP_len, hlrn]) hR

theorem i_loop {Q : AX → St → Prop} (m : List (Int × Pnt)) (hm : Small m) (n : Nat) (hn : n ≤ 1000000000) (best : Int) (R : Sum (Int × List Int) (List Int))
    (h0 : ∀ l, R = .inr l → Q (.exit 2) ⟨[(0, .ls 10007 0 n (some n)), (1, .t (.mp (atM m))), (5, .t (tI best)), (16, .t (tI n)), (17, .t (tI n)), (18, .t (tB false))], [(10007, .sl 3 1 (ints l))]⟩)
    (h1 : ∀ r, R = .inl r → Q (.exit 1) ⟨[(0, .ls 10007 0 n (some n)), (1, .t (.mp (atM m))), (5, .t (tI r.1))], [(10007, .sl 3 1 (ints r.2))]⟩) : ∀ (f i : Nat) (l : List Int), f + i = n → l.length = n → iLoop m best n f i l = R →
    run Tryd.prog Γ scans_shorter_l3 Q ⟨[(0, .ls 10007 0 n (some n)), (1, .t (.mp (atM m))), (5, .t (tI best)), (16, .t (tI n)), (17, .t (tI i))], [(10007, .sl 3 1 (ints l))]⟩
  | 0, i, l, h, hl, hR => by
    refine scans_shorter_l3_run fun K hK => ?_
    have h2 : ¬ i < n := by omega
    simp [h2]
    have h3 : i = n := by omega
    subst h3
    exact h0 l hR.symm
  | f + 1, i, l, h, hl, hR => by
    refine scans_shorter_l3_run fun K hK => ?_
    have h2 : i < n := by omega
    simp only [iLoop] at hR
    simp (disch := omega) [h2, wrap_i64]
    have hk := fun Q h0 h1 => k_loop (Γ := Γ) (Q := Q) m hm n hn best i (kLoop m best i (n - (i + 1)) (i + 1) l) h0 h1 (n - (i + 1)) (i + 1) l (by omega) (by omega) hl rfl
    have hlen := kLoop_len (m := m) (best := best) (i := i) (f := n - (i + 1)) (k := i + 1) (l := l)
    generalize kLoop m best i (n - (i + 1)) (i + 1) l = S at hk hR hlen
    refine hk _ (fun l' hS => ?_) (fun r hS => ?_)
    · subst hS
      simp only at hR
      simp (disch := omega) [wrap_i64]
      rw [hK]
      have h5 : l'.length = l.length := hlen
      exact_mod_cast i_loop m hm n hn best R h0 h1 f (i + 1) l' (by omega) (by omega) hR
    · subst hS
      simp only at hR
      simp
      exact h1 r hR.symm

theorem again_loop {Q : AX → St → Prop} (m : List (Int × Pnt)) (hm : Small m) (n : Nat) (hn : n ≤ 1000000000) (R : List Int)
    (h0 : Q .ret ⟨[(4, .ls 10007 0 n (some n))], [(10007, .sl 3 1 (ints R))]⟩) : ∀ (f : Nat) (best : Int) (l : List Int), best < f → best = lenS m l → l.length = n → shortS m n f best l = R →
    run Tryd.prog Γ scans_shorter_l5 Q ⟨[(0, .ls 10007 0 n (some n)), (1, .t (.mp (atM m))), (5, .t (tI best))], [(10007, .sl 3 1 (ints l))]⟩
  | 0, best, l, hb, he, hl, hR => by
    have := (lenS_le hm l).1
    omega
  | f + 1, best, l, hb, he, hl, hR => by
    refine scans_shorter_l5_run fun K hK => ?_
    simp only [shortS] at hR
    simp
    have hi := fun Q h0 h1 => i_loop (Γ := Γ) (Q := Q) m hm n hn best (iLoop m best n n 0 l) h0 h1 n 0 l (by omega) hl rfl
    have hlen := iLoop_len (m := m) (best := best) (n := n) (f := n) (i := 0) (l := l)
    have hlt := @iLoop_lt m best n
    have hlt2 : ∀ r, iLoop m best n n 0 l = .inl r → r.1 < best ∧ r.1 = lenS m r.2 := fun r hr => hlt hr
    generalize iLoop m best n n 0 l = S at hi hR hlen hlt2
    refine hi _ (fun l' hS => ?_) (fun r hS => ?_)
    · subst hS
      simp only at hR
      subst hR
      simp
      exact h0
    · subst hS
      simp only at hR
      simp
      rw [hK]
      obtain ⟨h5, h6⟩ := hlt2 r rfl
      have h7 : r.2.length = l.length := hlen
      exact again_loop m hm n hn R h0 f r.1 r.2 (by omega) h6 (by omega) hR

def shorterL (m : List (Int × Pnt)) (l : List Int) : List Int := shortS m l.length ((lenS m l).toNat + 1) (lenS m l) l

theorem shorter_spec (m : List (Int × Pnt)) (hm : Small m) (l : List Int) (cap : Option Nat) (hl : l.length ≤ 1000000000) (hne : l ≠ []) (nl : Option Bool) (hnl : nl ≠ some true) : FreshCalls Tryd.prog Γ 51 [.sl (ints l) cap nl, .mp (atM m)] (.sl (ints (shorterL m l)) (some l.length) none) := by
  refine run_freshQ scans_shorter_chk rfl ?_
  have hc := clone_int_h (Γ := Γ) l cap hl hne nl hnl
  have hp := clip_int_h (Γ := Γ) 3 (ints l) l.length none enc1_wid
  have e1 := length_spec (Γ := Γ) m hm l (some l.length) none hl
  have hle := lenS_le hm l
  have hsl : ∀ (f : Nat) (b : Int) (x : List Int), x.length = l.length → (shortS m l.length f b x).length = l.length := by
    intro f
    induction f with
    | zero => intro b x hx; exact hx
    | succ f ih =>
      intro b x hx
      simp only [shortS]
      have h := iLoop_len (m := m) (best := b) (n := l.length) (f := l.length) (i := 0) (l := x)
      split
      · rename_i r hr; rw [hr] at h; exact ih _ _ ((show r.2.length = x.length from h).trans hx)
      · rename_i r hr; rw [hr] at h; exact (show r.length = x.length from h).trans hx
  have hsr : (shorterL m l).length = l.length := hsl _ _ _ rfl
  have htk : (ints (shorterL m l)).take l.length = ints (shorterL m l) := by rw [← hsr]; simp
  simp [scans_shorter_ic]
  refine ⟨_, _, hc, ?_⟩
  simp [enc1_len]
  refine ⟨_, _, hp, ?_⟩
  simp [enc1_len]
  refine callK_fresh e1 (by simp [reify]) ?_
  simp
  refine again_loop m hm l.length hl (shorterL m l) ?_ ((lenS m l).toNat + 1) (lenS m l) l (by omega) rfl rfl rfl
  simp [scans_shorter_rv, htk]
end Go.Lg

/- Shorten, Balance. Conditions: none. -/
set_option linter.unusedSimpArgs false
set_option linter.unusedVariables false
set_option maxRecDepth 100000
namespace Go.Lg
open Go Go.Proofs
variable {Γ : Tables}

def shortAll (m : List (Int × Pnt)) (l : List (Sl Int)) : List (Sl Int) := l.map fun s => ⟨shorterL m s.l, some s.l.length, none⟩

theorem goElems_ne {c : Cir} : ∀ {l : List (Sl Int)} {done d : List Int}, goChains c done l = some d → ∀ s ∈ l, s.l ≠ []
  | [], _, _, _, s, hs => by cases hs
  | x :: l, done, d, h, s, hs => by
    simp only [goChains] at h
    split at h
    · cases h
    rename_i hx
    rw [Option.bind_eq_some_iff] at h
    obtain ⟨d', _, h2⟩ := h
    rcases List.mem_cons.1 hs with rfl | hs
    · exact hx
    · exact goElems_ne h2 s hs
theorem checkErr_ne {c : Cir} {chs : List (Sl Int)} (h : checkErr c chs = 0) : ∀ s ∈ chs, s.l ≠ [] := by
  unfold checkErr at h
  split at h
  · rename_i h'; exact absurd h h'
  split at h
  · cases h
  split at h
  · cases h
  rename_i d hd
  exact goElems_ne hd
theorem placedErr_check {c : Cir} {chs : List (Sl Int)} {at' : List Pnt} (h : placedErr c chs at' = 0) : checkErr c chs = 0 := by
  unfold placedErr at h
  split at h
  · rename_i h'; exact absurd h h'
  · rename_i h'; simpa using h'

theorem Shorten_loop {Q : AX → St → Prop} (m : List (Int × Pnt)) (hm : Small m) (chs : Sl (Sl Int)) (hl : chs.l.length ≤ 64) (hs : ∀ s ∈ chs.l, s.l.length ≤ 1000000000 ∧ s.l ≠ [] ∧ s.nl ≠ some true)
    (h0 : Q (.exit 0) ⟨[(8, .t (.mp (atM m))), (10, .ls 34 0 chs.l.length none), (23, .t (tChs chs)), (24, .t (tI chs.l.length)), (25, .t (tI chs.l.length)), (26, .t (tB false))], [(34, .sl 31 1 (enc1 tSl (shortAll m chs.l)))]⟩) : ∀ (kk i : Nat), kk + i = chs.l.length →
    run Tryd.prog Γ scans_Shorten_l1 Q ⟨[(8, .t (.mp (atM m))), (10, .ls 34 0 i none), (23, .t (tChs chs)), (24, .t (tI chs.l.length)), (25, .t (tI i))], [(34, .sl 31 1 (enc1 tSl (shortAll m (chs.l.take i))))]⟩
  | 0, i, h => by
    refine scans_Shorten_l1_run fun K hK => ?_
    have h2 : ¬ i < chs.l.length := by omega
    have h3 : i = chs.l.length := by omega
    simp [h2]
    subst h3
    simpa using h0
  | kk + 1, i, h => by
    refine scans_Shorten_l1_run fun K hK => ?_
    have h2 : i < chs.l.length := by omega
    obtain ⟨hsl, hne, hnl⟩ := hs _ (List.getElem_mem h2)
    have ht : chs.l.take (i + 1) = chs.l.take i ++ [chs.l[i]] := by rw [List.take_add_one]; simp [h2]
    have hsn : shortAll m (chs.l.take (i + 1)) = shortAll m (chs.l.take i) ++ [⟨shorterL m chs.l[i].l, some chs.l[i].l.length, none⟩] := by rw [ht, shortAll, List.map_append]; rfl
    have hln : (shortAll m (chs.l.take i)).length = i := by simp [shortAll]; omega
    have e1 := shorter_spec (Γ := Γ) m hm chs.l[i].l chs.l[i].cap hsl hne chs.l[i].nl hnl
    have ih := Shorten_loop m hm chs hl hs h0 kk (i + 1) (by omega)
    rw [hsn] at ih
    have htk : (enc1 tSl (shortAll m (chs.l.take i))).take i = enc1 tSl (shortAll m (chs.l.take i)) := List.take_of_length_le (by rw [enc1_len, hln]; exact Nat.le_refl i)
    have hw : wid 1 [[T.sl (ints (shorterL m chs.l[i].l)) (some chs.l[i].l.length) none]] := by intro e he; simp at he; subst he; rfl
    simp (disch := omega) [h2, tChs, enc1_len, enc1_get Sl.d, enc1_wid, tSl]
    refine callK_fresh e1 rfl ?_
    simp (disch := omega) [enc1_wid, enc1_len, hln, htk, hw, wrap_i64]
    refine ⟨by omega, ?_⟩
    rw [hK]
    have e2 : enc1 tSl (shortAll m (chs.l.take i)) ++ [[T.sl (ints (shorterL m chs.l[i].l)) (some chs.l[i].l.length) none]] = enc1 tSl (shortAll m (chs.l.take i) ++ [⟨shorterL m chs.l[i].l, some chs.l[i].l.length, none⟩]) := enc1_snoc (f := tSl) (x := ⟨shorterL m chs.l[i].l, some chs.l[i].l.length, none⟩)
    rw [e2]
    simpa [tChs] using ih

theorem Shorten_spec (hΓ : GOk Γ) (c : Cir) (hc : COk c) (chs : Sl (Sl Int)) (hl : chs.l.length ≤ 1000000000) (hs : ∀ s ∈ chs.l, s.l.length ≤ 1000000000 ∧ s.nl ≠ some true) (at' : Sl Pnt) (ha : at'.l.length ≤ 1000000000) :
    PureCalls Tryd.prog Γ 22 [.agg (tC c), tChs chs, tPts at'] (.tup [if placedErr c chs.l at'.l = 0 then tChs ⟨shortAll (placedM c chs.l at'.l) chs.l, some chs.l.length, none⟩ else .sl [] (some 0) (some true), tI (placedErr c chs.l at'.l)]) := by
  refine run_pureQ scans_Shorten_chk rfl ?_
  simp [scans_Shorten_ic, tC, tNodes, tNames, tMems, tSl]
  refine callK_pure (placed_spec hΓ c hc chs hl (fun s h => (hs s h).1) at' ha) rfl ?_
  simp
  by_cases h : placedErr c chs.l at'.l = 0
  case neg => simp [h, Later, scans_Shorten_rv]
  have hck := placedErr_check h
  have h64 := checkErr_len hck
  have hne := checkErr_ne hck
  have hlp := fun Q h0 => Shorten_loop (Γ := Γ) (Q := Q) (placedM c chs.l at'.l) (placedM_small _ _ _) chs h64 (fun s hq => ⟨(hs s hq).1, hne s hq, (hs s hq).2⟩) h0 chs.l.length 0 (by omega)
  simp [h, Later, tChs, enc1_len]
  simp only [shortAll, List.take_zero, List.map_nil, enc1_nil, tChs] at hlp
  refine hlp _ ?_
  have hln : (shortAll (placedM c chs.l at'.l) chs.l).length = chs.l.length := by simp [shortAll]
  have htk : (enc1 tSl (chs.l.map fun s => (⟨shorterL (placedM c chs.l at'.l) s.l, some s.l.length, none⟩ : Sl Int))).take chs.l.length = enc1 tSl (chs.l.map fun s => (⟨shorterL (placedM c chs.l at'.l) s.l, some s.l.length, none⟩ : Sl Int)) := List.take_of_length_le (by simp [enc1])
  simp [Reg.closed, St.freeze, frzRef, frz1, frz0, reify, frzReg, htk]
  refine callK_pure (clip_ints _ none none enc1_wid) rfl ?_
  simp [scans_Shorten_rv, enc1_len, shortAll, h]

theorem clone_int_p (l : List Int) (cap : Option Nat) (hl : l.length ≤ 1000000000) (h0 : l ≠ []) : FreshCalls Tryd.prog Γ 43 [.sl (ints l) cap none] (.sl (ints l) none none) := by
  refine run_freshQ slices_Clone_int_chk rfl ?_
  have h1 : ints l ≠ [] := by simpa [enc1] using h0
  simp (disch := omega) [slices_Clone_int_ic, slices_Clone_int_rv, enc1_wid, enc1_len, h1, Later]
  omega

/-- n chains, what is left to be dealt. -/
def balS : Nat → List Int → List (Sl Int)
  | 0, _ => []
  | n + 1, l => ⟨l.take ((l.length + n) / (n + 1)), some ((l.length + n) / (n + 1)), none⟩ :: balS n (l.drop ((l.length + n) / (n + 1)))
theorem balS_len : ∀ {n : Nat} {l : List Int}, (balS n l).length = n
  | 0, _ => rfl
  | n + 1, l => by simp [balS, balS_len]

theorem ceil_div (a n : Nat) : (if 0 < a % (n + 1) then a / (n + 1) + 1 else a / (n + 1)) = (a + n) / (n + 1) := by
  have h1 := Nat.div_add_mod a (n + 1)
  have h2 := Nat.mod_lt a (show 0 < n + 1 by omega)
  symm
  split
  · rw [Nat.div_eq_of_lt_le]
    · rw [Nat.add_mul, Nat.mul_comm]; omega
    · rw [Nat.add_mul, Nat.add_mul, Nat.mul_comm]; omega
  · rw [Nat.div_eq_of_lt_le]
    · rw [Nat.mul_comm]; omega
    · rw [Nat.add_mul, Nat.mul_comm]; omega

theorem bal_loop {Q : AX → St → Prop} (n : Nat) (hn : n ≤ 64) (R : List (Sl Int))
    (h0 : ∀ l c, Q (.exit 1) ⟨[(1, .t (tI n)), (7, .t (.sl (ints l) c none)), (8, .ls 55 0 n none), (29, .t (tI n)), (30, .t (tI n)), (31, .t (tB false))], [(55, .sl 31 1 (enc1 tSl R))]⟩) :
    ∀ (k i : Nat) (l : List Int) (cap : Option Nat) (out : List (Sl Int)), k + i = n → k ≤ l.length → l.length ≤ 1000000000 → out.length = i → out ++ balS k l = R →
    run Tryd.prog Γ scans_Balance_l1 Q ⟨[(1, .t (tI n)), (7, .t (.sl (ints l) cap none)), (8, .ls 55 0 i none), (29, .t (tI n)), (30, .t (tI i))], [(55, .sl 31 1 (enc1 tSl out))]⟩
  | 0, i, l, cap, out, h, hk, hl, ho, hR => by
    refine scans_Balance_l1_run fun K hK => ?_
    have h2 : ¬ i < n := by omega
    have h3 : i = n := by omega
    simp [h2]
    subst h3
    simp only [balS, List.append_nil] at hR
    subst hR
    exact h0 _ _
  | k + 1, i, l, cap, out, h, hk, hl, ho, hR => by
    refine scans_Balance_l1_run fun K hK => ?_
    have h2 : i < n := by omega
    have hni : (n : Int) - i = ((k + 1 : Nat) : Int) := by omega
    have hq : ((l.length : Int).tdiv ((k + 1 : Nat) : Int)) = ((l.length / (k + 1) : Nat) : Int) := by
      rw [Int.natCast_ediv]; exact Int.tdiv_eq_ediv_of_nonneg (by omega)
    have hm : ((l.length : Int).tmod ((k + 1 : Nat) : Int)) = ((l.length % (k + 1) : Nat) : Int) := by
      rw [Int.natCast_emod]; exact Int.tmod_eq_emod_of_nonneg (by omega)
    have hdl : l.length / (k + 1) ≤ l.length := Nat.div_le_self _ _
    have hmany : (l.length + k) / (k + 1) ≤ l.length := by
      rw [Nat.div_le_iff_le_mul_add_pred (by omega)]
      have : l.length ≤ (k + 1) * l.length := Nat.le_mul_of_pos_left _ (by omega)
      omega
    have hpos : 1 ≤ (l.length + k) / (k + 1) := by
      rw [Nat.le_div_iff_mul_le (by omega)]; omega
    have hkeep : k ≤ l.length - (l.length + k) / (k + 1) := by
      have h1 := Nat.div_mul_le_self (l.length + k) (k + 1)
      have h5 : (l.length + k) / (k + 1) * (k + 1) = (l.length + k) / (k + 1) * k + (l.length + k) / (k + 1) := by rw [Nat.mul_add, Nat.mul_one]
      rcases Nat.eq_zero_or_pos k with h6 | h6
      · omega
      · have h7 : k ≤ (l.length + k) / (k + 1) * k := Nat.le_mul_of_pos_left _ (by omega)
        -- with at least one a chain, what is left suffices
        have h8 : (l.length + k) / (k + 1) ≤ l.length - k := by
          rw [Nat.div_le_iff_le_mul_add_pred (by omega)]
          have h9 : (k + 1) * (l.length - k) = k * (l.length - k) + (l.length - k) := by rw [Nat.add_mul, Nat.one_mul]
          have h10 : k ≤ k * (l.length - k) := Nat.le_mul_of_pos_right _ (by omega)
          omega
        omega
    simp only [balS] at hR
    have hcd := ceil_div l.length k
    generalize hmn : (l.length + k) / (k + 1) = many at *
    have hne : l.take many ≠ [] := by
      intro e
      have := congrArg List.length e
      rw [List.length_take, List.length_nil] at this
      omega
    have hlt : (l.take many).length = many := by simp; omega
    have e1 := clone_int_p (Γ := Γ) (l.take many) cap (by omega) hne
    have e2 := clip_int (Γ := Γ) (ints (l.take many)) none none enc1_wid
    rw [enc1_len, hlt] at e2
    have ih := bal_loop n hn R h0 k (i + 1) (l.drop many) (cap.map (· - many)) (out ++ [⟨l.take many, some many, none⟩]) (by omega) (by simp; omega) (by simp; omega) (by simp [ho]) (by rw [← hR]; simp)
    have htk : (enc1 tSl out).take i = enc1 tSl out := List.take_of_length_le (by rw [enc1_len, ho]; exact Nat.le_refl i)
    have hw : wid 1 [[T.sl (ints (l.take many)) (some many) none]] := by intro e he; simp at he; subst he; rfl
    have hsn : enc1 tSl out ++ [[T.sl (ints (l.take many)) (some many) none]] = enc1 tSl (out ++ [⟨l.take many, some many, none⟩]) := enc1_snoc (f := tSl) (x := ⟨l.take many, some many, none⟩)
    have hdk : ((k + 1 : Nat) : Int) ≠ 0 := by omega
    generalize l.length / (k + 1) = q at hq hdl hcd
    generalize l.length % (k + 1) = r at hm hcd
    simp (disch := omega) [h2, wrap_i64, enc1_len, hni, hq, hm, -Int.natCast_ediv, -Int.natCast_emod, -Int.natCast_add]
    refine ⟨fun hc => ?_, fun hc => ?_⟩
    · have hr0 : 0 < r := by omega
      rw [if_pos hr0] at hcd
      have hqm : (q : Int) + 1 = many := by omega
      simp (disch := omega) [Later, wrap_i64, enc1_len, enc1_wid, enc1_take, hqm]
      refine ⟨hmany, ?_⟩
      refine callK_fresh e1 rfl ?_
      simp
      refine callK_pure e2 rfl ?_
      simp (disch := omega) [enc1_len, enc1_wid, ho, htk, hw, wrap_i64, enc1_drop, hqm]
      refine ⟨by omega, by omega, ?_⟩
      rw [hK, hsn]
      rw [List.take_of_length_le (by rw [enc1_len, List.length_drop]; exact Nat.le_refl _)]
      simpa using ih
    · have hr0 : ¬ 0 < r := by omega
      rw [if_neg hr0] at hcd
      have hqm : (q : Int) = many := by omega
      simp (disch := omega) [Later, wrap_i64, enc1_len, enc1_wid, enc1_take, hqm]
      refine ⟨by omega, ?_⟩
      refine callK_fresh e1 rfl ?_
      simp
      refine callK_pure e2 rfl ?_
      simp (disch := omega) [enc1_len, enc1_wid, ho, htk, hw, wrap_i64, enc1_drop, hqm]
      refine ⟨by omega, by omega, ?_⟩
      rw [hK, hsn]
      rw [List.take_of_length_le (by rw [enc1_len, List.length_drop]; exact Nat.le_refl _)]
      simpa using ih

def balErr (c : Cir) (n : Int) : Int := if plainErr c ≠ 0 then plainErr c else if n < 1 then 1 else if 64 < n then 3 else 0
def balN (c : Cir) (n : Int) : Nat := min n.toNat (states c).length
def bal (c : Cir) (n : Int) : List (Sl Int) := balS (balN c n) (states c)

theorem states_len (c : Cir) : (states c).length ≤ c.nodes.l.length := ofL_len _ _ _

theorem Balance_spec (hΓ : GOk Γ) (c : Cir) (hc : COk c) (n : Int) :
    PureCalls Tryd.prog Γ 13 [.agg (tC c), tI n] (.tup [if balErr c n = 0 then tChs ⟨bal c n, some (bal c n).length, none⟩ else .sl [] (some 0) (some true), tI (balErr c n)]) := by
  refine run_pureQ scans_Balance_chk rfl ?_
  simp [scans_Balance_ic, tC, tNodes, tNames, tMems, tSl]
  refine callK_fresh (plain_spec hΓ c hc) rfl ?_
  by_cases h1 : plainErr c = 0
  case neg =>
    have : balErr c n = plainErr c := by unfold balErr; rw [if_pos h1]
    simp [h1, scans_Balance_rv, this]
  have hb : balErr c n = if n < 1 then 1 else if 64 < n then 3 else 0 := by unfold balErr; rw [if_neg (show ¬ (plainErr c ≠ 0) by simp [h1])]
  by_cases h2 : n < 1
  · rw [if_pos h2] at hb
    simp [h1, h2, scans_Balance_rv, hb]
  rw [if_neg h2] at hb
  by_cases h3 : 64 < n
  · rw [if_pos h3] at hb
    simp [h1, h2, h3, scans_Balance_rv, hb]
  rw [if_neg h3] at hb
  have hsl := states_len c
  have hcn := hc.nodes
  have hmin : (if ((states c).length : Int) < n then ((states c).length : Int) else n) = (balN c n : Nat) := by
    unfold balN; split <;> omega
  have hbl := fun Q h0 => bal_loop (Γ := Γ) (Q := Q) (balN c n) (by unfold balN; omega) (bal c n) h0 (balN c n) 0 (states c) (some (states c).length) [] (by omega) (by unfold balN; omega) (by omega) rfl rfl
  have hlen : (bal c n).length = balN c n := balS_len
  simp [h1, h2, h3]
  refine callK_pure (states_spec c hc) rfl ?_
  simp [enc1_len, hmin]
  refine hbl _ fun l cp => ?_
  have htk : (enc1 tSl (bal c n)).take (balN c n) = enc1 tSl (bal c n) := List.take_of_length_le (by rw [enc1_len, hlen]; exact Nat.le_refl _)
  simp [Reg.closed, St.freeze, frzRef, frz1, frz0, reify, frzReg, htk]
  refine callK_pure (clip_ints _ none none enc1_wid) rfl ?_
  simp [scans_Balance_rv, enc1_len, hb, tChs]
end Go.Lg

/- The examples of the chapter. Conditions: none. -/
set_option linter.unusedSimpArgs false
set_option linter.unusedVariables false
set_option maxRecDepth 100000
namespace Go.Lg
open Go Go.Proofs
variable {Γ : Tables}

def rowNd : Nat → Nd
  | 0 => ⟨0, ⟨[], some 0, some true⟩, 0, 0⟩
  | _ + 1 => ⟨14, ⟨[0], some 1, some false⟩, 0, 0⟩
def rowNm : Nat → List UInt8
  | 0 => [97]
  | i + 1 => [102, UInt8.ofNat (48 + i)]
def rowC' (n : Nat) : Cir := ⟨⟨(List.range (n + 1)).map rowNd, none, none⟩, ⟨(List.range (n + 1)).map rowNm, none, none⟩, ⟨[], some 0, some true⟩, ⟨[0], some 1, some false⟩⟩

theorem row_loop {Q : AX → St → Prop} (n : Nat) (hn : n ≤ 9) (e2 : List AV)
    (h0 : Q (.exit 0) ⟨[(0, .t (tI n)), (2, .lp 2 0 0), (3, .lp 3 0 0), (4, .t (tI n)), (12, .t (tB false))], [(2, .bx [.t (.sl [] (some 0) (some true)), .t (.sl [] (some 0) (some true)), .t (.sl [] (some 0) (some true)), .t (.sl [] (some 0) (some true))]), (3, .bx [.ls 20 0 (n + 1) none, .ls 32 0 (n + 1) none, .t (.sl [] (some 0) (some true)), .t (.sl [[tI 0]] (some 1) (some false))]), (20, .sl 48 4 (encN tNd ((List.range (n + 1)).map rowNd))), (32, .sl 9 1 (enc1 tS ((List.range (n + 1)).map rowNm)))]⟩) :
    ∀ (k i : Nat), k + i = n →
    run Tryd.prog Γ law34_row_l1 Q ⟨[(0, .t (tI n)), (2, .lp 2 0 0), (3, .lp 3 0 0), (4, .t (tI i))], [(2, .bx [.t (.sl [] (some 0) (some true)), .t (.sl [] (some 0) (some true)), .t (.sl [] (some 0) (some true)), .t (.sl [] (some 0) (some true))]), (3, .bx [.ls 20 0 (i + 1) none, .ls 32 0 (i + 1) none, .t (.sl [] (some 0) (some true)), .t (.sl [[tI 0]] (some 1) (some false))]), (20, .sl 48 4 (encN tNd ((List.range (i + 1)).map rowNd))), (32, .sl 9 1 (enc1 tS ((List.range (i + 1)).map rowNm)))]⟩
  | 0, i, h => by
    refine law34_row_l1_run fun K hK => ?_
    have h2 : ¬ i < n := by omega
    have h3 : i = n := by omega
    simp [h2]
    subst h3
    exact h0
  | k + 1, i, h => by
    refine law34_row_l1_run fun K hK => ?_
    have h2 : i < n := by omega
    have hmod : (i : Int).tmod 10 = i := by
      rw [Int.tmod_eq_emod_of_nonneg (by omega)]; omega
    have ih := row_loop n hn e2 h0 k (i + 1) (by omega)
    have hr : List.range (i + 1 + 1) = List.range (i + 1) ++ [i + 1] := List.range_succ
    have hw4 : wid 4 [[tK 14, T.sl [[tI 0]] (some 1) (some false), tI 0, tI 0]] := by intro e he; simp at he; subst he; rfl
    have ht1 : (encN tNd ((List.range (i + 1)).map rowNd)).take (i + 1) = encN tNd ((List.range (i + 1)).map rowNd) := List.take_of_length_le (by simp [encN])
    have ht2 : (enc1 tS ((List.range (i + 1)).map rowNm)).take (i + 1) = enc1 tS ((List.range (i + 1)).map rowNm) := List.take_of_length_le (by simp [enc1])
    have hi9 : i = 0 ∨ i = 1 ∨ i = 2 ∨ i = 3 ∨ i = 4 ∨ i = 5 ∨ i = 6 ∨ i = 7 ∨ i = 8 := by omega
    have hx : (ByteArray.mk #[48, 49, 50, 51, 52, 53, 54, 55, 56, 57]).extract i (i + 1) = ByteArray.mk #[UInt8.ofNat (48 + i)] := by
      rcases hi9 with rfl | rfl | rfl | rfl | rfl | rfl | rfl | rfl | rfl <;> rfl
    have hy : ∀ x : UInt8, ByteArray.mk #[102] ++ ByteArray.mk #[x] = ByteArray.mk #[102, x] := fun x => rfl
    have hs1 : (ByteArray.mk #[48, 49, 50, 51, 52, 53, 54, 55, 56, 57]).size = 10 := rfl
    have hs2 : (ByteArray.mk #[102]).size = 1 := rfl
    have hs3 : ∀ x : UInt8, (ByteArray.mk #[x]).size = 1 := fun x => rfl
    simp (disch := omega) [h2, hmod, wrap_i64, hw4, encN_len, enc1_len, tNd_wid, enc1_wid, ht1, ht2, sV, hx, hy, hs1, hs2, hs3]
    have q1 : encN tNd ((List.range (i + 1 + 1)).map rowNd) = encN tNd ((List.range (i + 1)).map rowNd) ++ [[tK 14, T.sl [[tI 0]] (some 1) (some false), tI 0, tI 0]] := by
      rw [hr, List.map_append]; simp [encN, rowNd, tNd, tSl, enc1]
    have q2 : enc1 tS ((List.range (i + 1 + 1)).map rowNm) = enc1 tS ((List.range (i + 1)).map rowNm) ++ [[T.v (Value.string { data := #[102, 48 + UInt8.ofNat i] })]] := by
      rw [hr, List.map_append]; simp [enc1, rowNm, tS, sV]
    rw [q1, q2] at ih
    refine ⟨by omega, ⟨by omega, by omega⟩, ⟨by intro e he; simp at he; subst he; rfl, by omega⟩, ?_⟩
    rw [hK]
    exact_mod_cast ih

theorem row_spec (n : Nat) (hn : n ≤ 9) : PureCalls Tryd.prog Γ 47 [tI n] (.agg (tC (rowC' n))) := by
  refine run_pureQ law34_row_chk rfl ?_
  have hl := fun Q h0 => row_loop (Γ := Γ) (Q := Q) n hn [] h0 n 0 (by omega)
  have q1 : encN tNd ((List.range (0 + 1)).map rowNd) = [[tK 0, T.sl [] (some 0) (some true), tI 0, tI 0]] := rfl
  have q2 : enc1 tS ((List.range (0 + 1)).map rowNm) = [[tS [97]]] := rfl
  rw [q1, q2] at hl
  have ht1 : (encN tNd ((List.range (n + 1)).map rowNd)).take (n + 1) = encN tNd ((List.range (n + 1)).map rowNd) := List.take_of_length_le (by simp [encN])
  have ht2 : (enc1 tS ((List.range (n + 1)).map rowNm)).take (n + 1) = enc1 tS ((List.range (n + 1)).map rowNm) := List.take_of_length_le (by simp [enc1])
  simp only [tS, sV] at hl
  simp [law34_row_ic, sV]
  refine hl _ ?_
  simp [law34_row_rv, ht1, ht2, tC, rowC', tNodes, tNames, tMems, tSl, enc1, encN]
  exact ⟨List.take_of_length_le (by simp), List.take_of_length_le (by simp)⟩

theorem rowBal : balErr (rowC' 5) 2 = 0 ∧ bal (rowC' 5) 2 = [⟨[1, 2, 3], some 3, none⟩, ⟨[4, 5], some 2, none⟩] := by
  constructor
  · decide +kernel
  · rfl
def rowCh : List (Sl Int) := [⟨[1, 2, 3], some 3, some false⟩]
def rowAt : List Pnt := [(0, 0), (5, 0), (1, 0)]
theorem rowPl : placedErr (rowC' 3) rowCh rowAt = 0 := by decide +kernel
theorem rowLen : lenTot (placedM (rowC' 3) rowCh rowAt) rowCh = 9 := by decide +kernel
theorem rowShort : shorterL (placedM (rowC' 3) rowCh rowAt) [1, 2, 3] = [2, 3, 1] := by decide +kernel
theorem rowOk (n : Nat) (hn : n ≤ 9) : COk (rowC' n) := by
  have h1 : ∀ x ∈ (rowC' n).nodes.l, 0 ≤ x.k ∧ x.k ≤ 255 ∧ x.inn.l.length ≤ 1000000000 := by
    intro x hx
    obtain ⟨i, _, rfl⟩ := List.mem_map.1 hx
    cases i <;> simp [rowNd]
  refine ⟨⟨by simp [rowC']; omega, by simp [rowC']; omega, by simp [rowC'], by simp [rowC'], fun x hx => ⟨(h1 x hx).1, (h1 x hx).2.1⟩, fun x hx => (h1 x hx).2.2, by simp [rowC']⟩, ?_⟩
  intro s hs b hb
  obtain ⟨i, hi, rfl⟩ := List.mem_map.1 hs
  have hi' := List.mem_range.1 hi
  have : i = 0 ∨ i = 1 ∨ i = 2 ∨ i = 3 ∨ i = 4 ∨ i = 5 ∨ i = 6 ∨ i = 7 ∨ i = 8 ∨ i = 9 := by omega
  rcases this with rfl | rfl | rfl | rfl | rfl | rfl | rfl | rfl | rfl | rfl <;> simp [rowNm] at hb <;> (try rcases hb with rfl | rfl) <;> (try subst hb) <;> decide

theorem lives_spec (hΓ : GOk Γ) : FreshCalls Tryd.prog Γ 16 [] (tB true) := by
  refine run_freshQ law34_lives_chk rfl ?_
  have b5 := Balance_spec hΓ (rowC' 5) (rowOk 5 (by omega)) 2
  have l3 := Length_spec hΓ (rowC' 3) (rowOk 3 (by omega)) ⟨rowCh, some 1, some false⟩ (by decide) (by decide) ⟨rowAt, some 3, some false⟩ (by decide)
  have s3 := Shorten_spec hΓ (rowC' 3) (rowOk 3 (by omega)) ⟨rowCh, some 1, some false⟩ (by decide) (by decide) ⟨rowAt, some 3, some false⟩ (by decide)
  have e1 : shortAll (placedM (rowC' 3) rowCh rowAt) rowCh = [⟨[2, 3, 1], some 3, none⟩] := by
    show [(⟨shorterL (placedM (rowC' 3) rowCh rowAt) [1, 2, 3], some 3, none⟩ : Sl Int)] = _
    rw [rowShort]
  simp only [rowPl, rowLen, rowBal, e1, if_true] at b5 l3 s3
  simp [law34_lives_ic]
  refine callK_pure (row_spec 5 (by omega)) rfl ?_
  simp
  refine callK_pure b5 rfl ?_
  simp
  refine callK_pure (row_spec 3 (by omega)) rfl ?_
  simp
  refine callK_fresh l3 rfl ?_
  simp
  refine callK_pure (row_spec 3 (by omega)) rfl ?_
  simp
  refine callK_pure s3 rfl ?_
  simp [tChs, enc1, tSl]
  simp [law34_lives_rv, wid]
end Go.Lg

/- ScansBalance: the plain law. Conditions: none. -/
set_option linter.unusedSimpArgs false
set_option linter.unusedVariables false
set_option maxRecDepth 100000
namespace Go.Lg
open Go Go.Proofs
variable {Γ : Tables}

def elems (l : List (Sl Int)) : List Int := (l.map fun s => s.l).flatten
theorem elems_nil : elems [] = [] := rfl
theorem elems_cons {s : Sl Int} {l : List (Sl Int)} : elems (s :: l) = s.l ++ elems l := rfl

/-- Chains of different good nodes are accepted. -/
theorem goElems_ok {c : Cir} : ∀ {l done : List Int}, (∀ n ∈ l, 0 ≤ n ∧ n < c.nodes.l.length ∧ kindAt c n.toNat = 14) → l.Nodup → (∀ n ∈ l, n ∉ done) → goElems c done l = some (done ++ l)
  | [], done, _, _, _ => by simp [goElems]
  | n :: l, done, h, hn, hd => by
    have h0 := h n List.mem_cons_self
    have hb : ¬ elemBad c done n = true := by
      simp [elemBad, h0.2.2, hd n List.mem_cons_self]; omega
    simp only [goElems, if_neg hb]
    rw [goElems_ok (fun m hm => h m (List.mem_cons_of_mem _ hm)) (List.nodup_cons.1 hn).2 (fun m hm he => by
      rcases List.mem_append.1 he with he | he
      · exact hd m (List.mem_cons_of_mem _ hm) he
      · simp at he; subst he; exact (List.nodup_cons.1 hn).1 hm)]
    simp
theorem goChains_ok {c : Cir} : ∀ {l : List (Sl Int)} {done : List Int}, (∀ s ∈ l, s.l ≠ []) → (∀ n ∈ elems l, 0 ≤ n ∧ n < c.nodes.l.length ∧ kindAt c n.toNat = 14) → (elems l).Nodup → (∀ n ∈ elems l, n ∉ done) → goChains c done l = some (done ++ elems l)
  | [], done, _, _, _, _ => by simp [goChains, elems_nil]
  | s :: l, done, hne, h, hn, hd => by
    simp only [elems_cons] at h hn hd ⊢
    have hn' := List.nodup_append.1 hn
    simp only [goChains, if_neg (hne s List.mem_cons_self)]
    rw [goElems_ok (fun n hm => h n (List.mem_append_left _ hm)) hn'.1 (fun n hm => hd n (List.mem_append_left _ hm)), Option.bind_some]
    rw [goChains_ok (fun t ht => hne t (List.mem_cons_of_mem _ ht)) (fun n hm => h n (List.mem_append_right _ hm)) hn'.2.1 (fun n hm he => by
      rcases List.mem_append.1 he with he | he
      · exact hd n (List.mem_append_right _ hm) he
      · exact hn'.2.2 n he n hm rfl)]
    simp

theorem states_good {c : Cir} : ∀ n ∈ states c, 0 ≤ n ∧ n < c.nodes.l.length ∧ kindAt c n.toNat = 14 := by
  intro n hn
  obtain ⟨h1, h2, h3⟩ := ofL_kind [14] c.nodes.l 0 n hn
  refine ⟨by omega, by omega, ?_⟩
  simpa [kindAt] using h3

end Go.Lg

/- Shortening: the plain law. Conditions: none. -/
set_option linter.unusedSimpArgs false
set_option linter.unusedVariables false
set_option maxRecDepth 100000
namespace Go.Lg
open Go Go.Proofs

/-- Complete chains in any order are accepted. -/
theorem check_perm {c : Cir} {chs : List (Sl Int)} (hp : plainErr c = 0) (h64 : chs.length ≤ 64) (hne : ∀ s ∈ chs, s.l ≠ []) (hperm : (elems chs).Perm (states c)) : checkErr c chs = 0 := by
  have hg := goChains_ok (c := c) (l := chs) (done := []) hne (fun n hn => states_good n (hperm.mem_iff.1 hn)) (hperm.nodup_iff.2 (states_nodup c)) (by simp)
  unfold checkErr
  rw [if_neg (by simp [hp]), if_neg (by omega), hg]
  simp [hperm.length_eq]

end Go.Lg

/- The abstract code of some functions, as the program gen.py prints it. Conditions: none. -/
set_option linter.unusedVariables false
namespace Go.Lg
open Go
section
variable {P : Program} {Γ : Tables} {Q : AX → St → Prop} {s : St}
/- probecard/probecardlaw34.ScansShorten (function 5) -/
def law34_Case_Of_r0 : List RO := [
    ⟨some 1, .box false (.tmp 0), none, none⟩,
    ⟨some 2, .alloc false [(.slice none 0 0), (.slice none 0 0), (.slice none 0 0), (.slice none 0 0)], none, none⟩,
    ⟨some 3, .mv (.const (.slice none 0 0)), none, none⟩]
def law34_Case_Of_r1 : List RO := [
    ⟨some 5, .fadr 0 (.tmp 1), none, none⟩,
    ⟨some 6, .fadr 5 (.tmp 5), none, none⟩,
    ⟨none, .store 1 (.tmp 6) (.const (.bool false)), none, none⟩]
def law34_Case_Of_r2 : List RO := [
    ⟨some 7, .fadr 0 (.tmp 1), none, none⟩,
    ⟨some 8, .load 12 true (.tmp 7), none, none⟩,
    ⟨some 9, .call 12 [(.tmp 8)], none, none⟩,
    ⟨some 4, .alloc false [(.slice none 0 0), (.slice none 0 0), (.slice none 0 0), (.slice none 0 0)], none, none⟩,
    ⟨none, .store 4 (.tmp 4) (.tmp 9), none, none⟩]
def law34_Case_Of_r3 : List RO := [
    ⟨some 10, .ldR 4 4 true (.tmp 4), none, none⟩,
    ⟨some 11, .ldR 4 4 true (.tmp 4), none, none⟩,
    ⟨some 12, .fadr 12 (.tmp 1), none, none⟩,
    ⟨some 13, .ldR 1 1 false (.tmp 12), none, none⟩,
    ⟨some 14, .fadr 13 (.tmp 1), none, none⟩,
    ⟨some 15, .ldR 1 1 false (.tmp 14), none, none⟩,
    ⟨some 16, .call 48 [(.tmp 11), (.tmp 13), (.tmp 15)], none, none⟩,
    ⟨none, .stR 2 4 (.tmp 2) (.tmp 10), none, none⟩,
    ⟨some 3, .mv (.tmp 16), none, none⟩]
def law34_Case_Of_ic : IC := (.seq (.reg law34_Case_Of_r0 [.keep [1, 2] [1, 2]]) (.seq (.reg law34_Case_Of_r1 [.keep [1, 2] [1, 2]]) (.seq (.reg law34_Case_Of_r2 [.keep [1, 2, 4] [1, 2, 4]]) (.seq (.reg law34_Case_Of_r3 [.keep [2, 3] [2]]) .ret))))
@[simp ↓] theorem law34_Case_Of_ic_run : run P Γ law34_Case_Of_ic Q s = run P Γ (.seq (.reg law34_Case_Of_r0 [.keep [1, 2] [1, 2]]) (.seq (.reg law34_Case_Of_r1 [.keep [1, 2] [1, 2]]) (.seq (.reg law34_Case_Of_r2 [.keep [1, 2, 4] [1, 2, 4]]) (.seq (.reg law34_Case_Of_r3 [.keep [2, 3] [2]]) .ret)))) Q s := Eq.trans rfl rfl
attribute [simp] law34_Case_Of_r0 law34_Case_Of_r1 law34_Case_Of_r2 law34_Case_Of_r3
def law34_Case_Of_rv : List RV := [.cell 2 4 true, .tmp 3]

/- probecard/probecardlaw34.Places (function 20) -/
def law34_Chains_r0 : List RO := [
    ⟨some 3, .box true (.tmp 0), none, none⟩,
    ⟨some 6, .mv (.const (.slice none 0 0)), none, none⟩]
def law34_Chains_r1 : List RO := [
    ⟨some 13, .load 4 true (.tmp 3), none, none⟩,
    ⟨some 14, .call 17 [(.tmp 13)], none, none⟩,
    ⟨some 15, .app false 3 1 (.const (.slice none 0 0)) (.tmp 14), none, none⟩,
    ⟨some 7, .mv (.tmp 15), none, none⟩]
def law34_Chains_r2 : List RO := [
    ⟨some 8, .mv (.const (.int .i64 0)), none, none⟩]
def law34_Chains_r3 : List RO := [
    ⟨some 16, .mv (.tmp 8), none, none⟩,
    ⟨some 17, .mv (.tmp 7), none, none⟩,
    ⟨some 18, .len 0 (.tmp 17), none, none⟩,
    ⟨some 19, .bin .lss (.tmp 16) (.tmp 18), none, none⟩,
    ⟨some 20, .mv (.tmp 19), none, none⟩,
    ⟨some 21, .mv (.tmp 8), some (20, true), none⟩,
    ⟨some 22, .mv (.tmp 1), some (20, true), none⟩,
    ⟨some 23, .len 0 (.tmp 22), some (20, true), none⟩,
    ⟨some 24, .bin .lss (.tmp 21) (.tmp 23), some (20, true), none⟩,
    ⟨some 25, .pick (.tmp 20) (.tmp 24) (.const (.bool false)), none, none⟩]
def law34_Chains_r5 : List RO := [
    ⟨some 28, .mv (.tmp 8), none, none⟩,
    ⟨some 29, .mv (.tmp 1), none, none⟩,
    ⟨some 30, .mv (.tmp 8), none, none⟩,
    ⟨some 31, .iadr 1 (.tmp 29) (.tmp 30), none, none⟩,
    ⟨some 32, .load 1 false (.tmp 31), none, none⟩,
    ⟨some 33, .conv .i64 (.tmp 32), none, none⟩,
    ⟨some 34, .mv (.tmp 7), none, none⟩,
    ⟨some 35, .len 0 (.tmp 34), none, none⟩,
    ⟨some 36, .mv (.tmp 8), none, none⟩,
    ⟨some 37, .bin .sub (.tmp 35) (.tmp 36), none, none⟩,
    ⟨some 38, .bin .rem (.tmp 33) (.tmp 37), none, none⟩,
    ⟨some 39, .bin .add (.tmp 28) (.tmp 38), none, none⟩,
    ⟨some 9, .mv (.tmp 39), none, none⟩]
def law34_Chains_r6 : List RO := [
    ⟨some 40, .mv (.tmp 7), none, none⟩,
    ⟨some 41, .mv (.tmp 8), none, none⟩,
    ⟨some 42, .mv (.tmp 7), none, none⟩,
    ⟨some 43, .mv (.tmp 9), none, none⟩,
    ⟨some 44, .mv (.tmp 7), none, none⟩,
    ⟨some 45, .mv (.tmp 9), none, none⟩,
    ⟨some 46, .iadr 1 (.tmp 44) (.tmp 45), none, none⟩,
    ⟨some 47, .ldR 15 1 false (.tmp 46), none, none⟩,
    ⟨some 48, .mv (.tmp 7), none, none⟩,
    ⟨some 49, .mv (.tmp 8), none, none⟩,
    ⟨some 50, .iadr 1 (.tmp 48) (.tmp 49), none, none⟩,
    ⟨some 51, .ldR 15 1 false (.tmp 50), none, none⟩,
    ⟨some 52, .iadr 1 (.tmp 40) (.tmp 41), none, none⟩,
    ⟨none, .stR 15 1 (.tmp 52) (.tmp 47), none, none⟩,
    ⟨some 53, .iadr 1 (.tmp 42) (.tmp 43), none, none⟩,
    ⟨none, .stR 15 1 (.tmp 53) (.tmp 51), none, none⟩]
def law34_Chains_r4 : List RO := [
    ⟨some 26, .mv (.tmp 8), none, none⟩,
    ⟨some 27, .bin .add (.tmp 26) (.const (.int .i64 1)), none, none⟩,
    ⟨some 8, .mv (.tmp 27), none, none⟩]
def law34_Chains_g0 : IC := .gh (.seq (.seq (.reg law34_Chains_r3 [.keep [1, 2, 7, 8, 25] [15]]) (.cond (.tmp 25) .skip (.exit 0))) (.seq (.block 1 (.seq (.reg law34_Chains_r5 [.keep [1, 2, 7, 8, 9] [15]]) (.reg law34_Chains_r6 [.keep [1, 2, 7, 8] [15]]))) (.reg law34_Chains_r4 [.keep [1, 2, 7, 8] [15]]))) [.keep [1, 2, 7, 8] [15]]
def law34_Chains_l1 : IC := .loop law34_Chains_g0
def law34_Chains_r7 : List RO := [
    ⟨some 10, .mv (.const (.slice none 0 0)), none, none⟩]
def law34_Chains_r8 : List RO := [
    ⟨some 11, .mv (.const (.int .i64 0)), none, none⟩]
def law34_Chains_r9 : List RO := [
    ⟨some 54, .mv (.tmp 11), none, none⟩,
    ⟨some 55, .mv (.tmp 2), none, none⟩,
    ⟨some 56, .len 0 (.tmp 55), none, none⟩,
    ⟨some 57, .bin .lss (.tmp 54) (.tmp 56), none, none⟩,
    ⟨some 58, .mv (.tmp 57), none, none⟩,
    ⟨some 59, .mv (.tmp 7), some (58, true), none⟩,
    ⟨some 60, .len 0 (.tmp 59), some (58, true), none⟩,
    ⟨some 61, .bin .gtr (.tmp 60) (.const (.int .i64 0)), some (58, true), none⟩,
    ⟨some 62, .pick (.tmp 58) (.tmp 61) (.const (.bool false)), none, none⟩]
def law34_Chains_r11 : List RO := [
    ⟨some 65, .mv (.tmp 2), none, none⟩,
    ⟨some 66, .mv (.tmp 11), none, none⟩,
    ⟨some 67, .iadr 1 (.tmp 65) (.tmp 66), none, none⟩,
    ⟨some 68, .load 1 false (.tmp 67), none, none⟩,
    ⟨some 69, .conv .i64 (.tmp 68), none, none⟩,
    ⟨some 70, .mv (.tmp 7), none, none⟩,
    ⟨some 71, .len 0 (.tmp 70), none, none⟩,
    ⟨some 72, .bin .rem (.tmp 69) (.tmp 71), none, none⟩,
    ⟨some 73, .bin .add (.const (.int .i64 1)) (.tmp 72), none, none⟩,
    ⟨some 12, .mv (.tmp 73), none, none⟩]
def law34_Chains_r12 : List RO := [
    ⟨some 74, .mv (.tmp 10), none, none⟩,
    ⟨some 75, .mv (.tmp 7), none, none⟩,
    ⟨some 76, .mv (.tmp 12), none, none⟩,
    ⟨some 77, .slice 1 (.tmp 75) none (some (.tmp 76)) none, none, none⟩,
    ⟨some 78, .appT 3 1 (.const (.slice none 0 0)) (.tmp 77), none, none⟩,
    ⟨some 79, .bsl true 31 1 [(.tmp 78)], none, none⟩,
    ⟨some 80, .app false 31 1 (.tmp 74) (.tmp 79), none, none⟩,
    ⟨some 10, .mv (.tmp 80), none, none⟩]
def law34_Chains_r13 : List RO := [
    ⟨some 81, .mv (.tmp 7), none, none⟩,
    ⟨some 82, .mv (.tmp 12), none, none⟩,
    ⟨some 83, .slice 1 (.tmp 81) (some (.tmp 82)) none none, none, none⟩,
    ⟨some 7, .mv (.tmp 83), none, none⟩]
def law34_Chains_r10 : List RO := [
    ⟨some 63, .mv (.tmp 11), none, none⟩,
    ⟨some 64, .bin .add (.tmp 63) (.const (.int .i64 1)), none, none⟩,
    ⟨some 11, .mv (.tmp 64), none, none⟩]
def law34_Chains_g2 : IC := .gh (.seq (.seq (.reg law34_Chains_r9 [.keep [2, 7, 10, 11, 62] [15, 80]]) (.cond (.tmp 62) .skip (.exit 2))) (.seq (.block 3 (.seq (.reg law34_Chains_r11 [.keep [2, 7, 10, 11, 12] [15, 80]]) (.seq (.reg law34_Chains_r12 [.keep [2, 7, 10, 11, 12] [15, 80]]) (.reg law34_Chains_r13 [.keep [2, 7, 10, 11] [15, 80]])))) (.reg law34_Chains_r10 [.keep [2, 7, 10, 11] [15, 80]]))) [.keep [2, 7, 10, 11] [15, 80]]
def law34_Chains_l3 : IC := .loop law34_Chains_g2
def law34_Chains_r14 : List RO := [
    ⟨some 84, .mv (.tmp 7), none, none⟩,
    ⟨some 85, .len 0 (.tmp 84), none, none⟩,
    ⟨some 86, .bin .gtr (.tmp 85) (.const (.int .i64 0)), none, none⟩]
def law34_Chains_r15 : List RO := [
    ⟨some 87, .mv (.tmp 10), none, none⟩,
    ⟨some 88, .mv (.tmp 7), none, none⟩,
    ⟨some 89, .appT 3 1 (.const (.slice none 0 0)) (.tmp 88), none, none⟩,
    ⟨some 90, .bsl true 31 1 [(.tmp 89)], none, none⟩,
    ⟨some 91, .app false 31 1 (.tmp 87) (.tmp 90), none, some 80⟩,
    ⟨some 10, .mv (.tmp 91), none, none⟩]
def law34_Chains_r16 : List RO := [
    ⟨some 92, .mv (.tmp 10), none, none⟩,
    ⟨some 6, .mv (.tmp 92), none, none⟩]
def law34_Chains_ic : IC := (.seq (.reg law34_Chains_r0 [.keep [1, 2, 3] []]) (.seq (.reg law34_Chains_r1 [.keep [1, 2, 7] [15]]) (.seq (.seq (.reg law34_Chains_r2 [.keep [1, 2, 7, 8] [15]]) (.block 0 law34_Chains_l1)) (.seq (.reg law34_Chains_r7 [.nl 10 80 31 1, .keep [2, 7, 10] [15, 80]]) (.seq (.seq (.reg law34_Chains_r8 [.keep [2, 7, 10, 11] [15, 80]]) (.block 2 law34_Chains_l3)) (.seq (.seq (.reg law34_Chains_r14 [.keep [7, 10, 86] [15, 80]]) (.cond (.tmp 86) (.reg law34_Chains_r15 [.keep [10] [80]]) .skip)) (.seq (.reg law34_Chains_r16 [.keep [6] [80]]) .ret)))))))
@[simp ↓] theorem law34_Chains_g0_run : run P Γ law34_Chains_g0 Q s = run P Γ (.gh (.seq (.seq (.reg law34_Chains_r3 [.keep [1, 2, 7, 8, 25] [15]]) (.cond (.tmp 25) .skip (.exit 0))) (.seq (.block 1 (.seq (.reg law34_Chains_r5 [.keep [1, 2, 7, 8, 9] [15]]) (.reg law34_Chains_r6 [.keep [1, 2, 7, 8] [15]]))) (.reg law34_Chains_r4 [.keep [1, 2, 7, 8] [15]]))) [.keep [1, 2, 7, 8] [15]]) Q s := Eq.trans rfl rfl
@[simp ↓] theorem law34_Chains_g2_run : run P Γ law34_Chains_g2 Q s = run P Γ (.gh (.seq (.seq (.reg law34_Chains_r9 [.keep [2, 7, 10, 11, 62] [15, 80]]) (.cond (.tmp 62) .skip (.exit 2))) (.seq (.block 3 (.seq (.reg law34_Chains_r11 [.keep [2, 7, 10, 11, 12] [15, 80]]) (.seq (.reg law34_Chains_r12 [.keep [2, 7, 10, 11, 12] [15, 80]]) (.reg law34_Chains_r13 [.keep [2, 7, 10, 11] [15, 80]])))) (.reg law34_Chains_r10 [.keep [2, 7, 10, 11] [15, 80]]))) [.keep [2, 7, 10, 11] [15, 80]]) Q s := Eq.trans rfl rfl
@[simp ↓] theorem law34_Chains_ic_run : run P Γ law34_Chains_ic Q s = run P Γ (.seq (.reg law34_Chains_r0 [.keep [1, 2, 3] []]) (.seq (.reg law34_Chains_r1 [.keep [1, 2, 7] [15]]) (.seq (.seq (.reg law34_Chains_r2 [.keep [1, 2, 7, 8] [15]]) (.block 0 law34_Chains_l1)) (.seq (.reg law34_Chains_r7 [.nl 10 80 31 1, .keep [2, 7, 10] [15, 80]]) (.seq (.seq (.reg law34_Chains_r8 [.keep [2, 7, 10, 11] [15, 80]]) (.block 2 law34_Chains_l3)) (.seq (.seq (.reg law34_Chains_r14 [.keep [7, 10, 86] [15, 80]]) (.cond (.tmp 86) (.reg law34_Chains_r15 [.keep [10] [80]]) .skip)) (.seq (.reg law34_Chains_r16 [.keep [6] [80]]) .ret))))))) Q s := Eq.trans rfl rfl
theorem law34_Chains_l1_run (h : ∀ K : St → Prop, K = run P Γ law34_Chains_l1 Q → run P Γ law34_Chains_g0 (thenX K Q) s) : run P Γ law34_Chains_l1 Q s := run_loop h
theorem law34_Chains_l3_run (h : ∀ K : St → Prop, K = run P Γ law34_Chains_l3 Q → run P Γ law34_Chains_g2 (thenX K Q) s) : run P Γ law34_Chains_l3 Q s := run_loop h
attribute [simp] law34_Chains_r0 law34_Chains_r1 law34_Chains_r2 law34_Chains_r3 law34_Chains_r5 law34_Chains_r6 law34_Chains_r4 law34_Chains_r7 law34_Chains_r8 law34_Chains_r9 law34_Chains_r11 law34_Chains_r12 law34_Chains_r13 law34_Chains_r10 law34_Chains_r14 law34_Chains_r15 law34_Chains_r16
def law34_Chains_rv : List RV := [.tmp 6]
end
end Go.Lg

/- The abstract code is that of the program (by the kernel). Conditions: none. -/
namespace Go.Lg
open Go Go.Proofs
theorem law34_Case_Of_chk : chkF Tryd.prog 19 law34_Case_Of_ic 17 1 law34_Case_Of_rv = true := by kernel_rfl
theorem law34_Chains_chk : chkF Tryd.prog 48 law34_Chains_ic 93 3 law34_Chains_rv = true := by kernel_rfl
end Go.Lg

/- turned, Places, Chains. Conditions: none. -/
set_option linter.unusedSimpArgs false
set_option linter.unusedVariables false
set_option maxRecDepth 100000
namespace Go.Lg
open Go Go.Proofs
variable {Γ : Tables}

def permS : Nat → Nat → List Int → List Int → List Int
  | 0, _, _, l => l
  | f + 1, i, keys, l => permS f (i + 1) keys (swapL l i (i + (keys.getD i 0).toNat % (l.length - i)))
def cutS : List Int → List Int → List (Sl Int)
  | [], l => if l = [] then [] else [⟨l, none, none⟩]
  | b :: cuts, l => if l = [] then [] else ⟨l.take (1 + b.toNat % l.length), none, none⟩ :: cutS cuts (l.drop (1 + b.toNat % l.length))

theorem permS_perm : ∀ (f i : Nat) (keys l : List Int), i + f ≤ l.length → (permS f i keys l).Perm l
  | 0, _, _, l, _ => List.Perm.refl l
  | f + 1, i, keys, l, h => by
    simp only [permS]
    have hm := Nat.mod_lt (keys.getD i 0).toNat (show 0 < l.length - i by omega)
    exact (permS_perm f (i + 1) keys _ (by rw [swapL_len]; omega)).trans (swapL_perm (by omega) (by omega))
theorem permS_len {f i : Nat} {keys l : List Int} (h : i + f ≤ l.length) : (permS f i keys l).length = l.length := (permS_perm f i keys l h).length_eq
theorem cutS_elems : ∀ (cuts l : List Int), elems (cutS cuts l) = l
  | [], l => by
    simp only [cutS]
    split
    · rename_i h; rw [h]; rfl
    · simp [elems]
  | b :: cuts, l => by
    simp only [cutS]
    split
    · rename_i h; rw [h]; rfl
    · rw [elems_cons, cutS_elems cuts]; exact List.take_append_drop _ _
theorem cutS_ne : ∀ (cuts l : List Int), ∀ s ∈ cutS cuts l, s.l ≠ [] ∧ s.nl ≠ some true
  | [], l, s, hs => by
    simp only [cutS] at hs
    split at hs
    · cases hs
    · rename_i h; simp at hs; subst hs; exact ⟨h, by simp⟩
  | b :: cuts, l, s, hs => by
    simp only [cutS] at hs
    split at hs
    · cases hs
    · rename_i h
      rcases List.mem_cons.1 hs with rfl | hs
      · refine ⟨fun e => ?_, by simp⟩
        have := congrArg List.length e
        have hp : 0 < l.length := List.length_pos_iff.2 h
        rw [List.length_take, List.length_nil] at this; omega
      · exact cutS_ne cuts _ s hs
theorem elems_le : ∀ (l : List (Sl Int)), (∀ s ∈ l, s.l ≠ []) → l.length ≤ (elems l).length ∧ ∀ s ∈ l, s.l.length ≤ (elems l).length
  | [], _ => by simp [elems_nil]
  | x :: l, h => by
    obtain ⟨h1, h2⟩ := elems_le l fun s hs => h s (List.mem_cons_of_mem _ hs)
    have h3 : 0 < x.l.length := List.length_pos_iff.2 (h x List.mem_cons_self)
    rw [elems_cons, List.length_append]
    refine ⟨by simp only [List.length_cons]; omega, fun s hs => ?_⟩
    rcases List.mem_cons.1 hs with rfl | hs
    · omega
    · have := h2 s hs; omega

theorem perm_loop {Q : AX → St → Prop} (keys : Sl Int) (hk : ∀ b ∈ keys.l, Byt b) (a2 : T) (n : Nat) (hn : n ≤ 1000000000) (R : List Int)
    (h0 : Q (.exit 0) ⟨[(1, .t (.sl (enc1 tK keys.l) keys.cap keys.nl)), (2, .t a2), (7, .ls 15 0 n none), (8, .t (tI (min n keys.l.length : Nat))), (25, .t (tB false))], [(15, .sl 3 1 (ints R))]⟩) : ∀ (k i : Nat) (l : List Int), k + i = min n keys.l.length → permS k i keys.l l = R → l.length = n →
    run Tryd.prog Γ law34_Chains_l1 Q ⟨[(1, .t (.sl (enc1 tK keys.l) keys.cap keys.nl)), (2, .t a2), (7, .ls 15 0 n none), (8, .t (tI i))], [(15, .sl 3 1 (ints l))]⟩
  | 0, i, l, h, hR, hl => by
    refine law34_Chains_l1_run fun K hK => ?_
    simp only [permS] at hR
    subst hR
    have hi : i = min n keys.l.length := by omega
    by_cases h2 : i < n
    · have h3 : ¬ i < keys.l.length := by omega
      simp (disch := omega) [h2, h3, enc1_len]
      subst hi
      simpa using h0
    · simp (disch := omega) [h2, enc1_len]
      subst hi
      simpa using h0
  | k + 1, i, l, h, hR, hl => by
    refine law34_Chains_l1_run fun K hK => ?_
    have h2 : i < n := by omega
    have h3 : i < keys.l.length := by omega
    simp only [permS] at hR
    have ih := perm_loop keys hk a2 n hn R h0 k (i + 1) _ (by omega) hR (by rw [swapL_len]; exact hl)
    have hget := enc1_get (f := tK) 0 h3
    have hkg : keys.l[i]?.getD 0 = keys.l.getD i 0 := by simp [List.getD_eq_getElem?_getD]
    rw [hkg] at hget
    have hmem : keys.l.getD i 0 ∈ keys.l := by rw [getD_eq h3]; exact List.getElem_mem h3
    obtain ⟨b0, b1⟩ := hk _ hmem
    generalize keys.l.getD i 0 = b at *
    rw [hl] at ih
    have hm := Nat.mod_lt b.toNat (show 0 < n - i by omega)
    have hne : ¬ ((n : Int) - i = 0) := by omega
    have hmod : b.tmod ((n : Int) - i) = ((b.toNat % (n - i) : Nat) : Int) := by
      have e1 : b = (b.toNat : Int) := by omega
      have e2 : ((n : Int) - i) = ((n - i : Nat) : Int) := by omega
      rw [e2, Int.natCast_emod, ← e1]; exact Int.tmod_eq_emod_of_nonneg (by omega)
    generalize b.toNat % (n - i) = q at *
    have hj : i + q < n := by omega
    have la : i < l.length := by omega
    have lb : i + q < l.length := by omega
    have ga : l[i]?.getD 0 = l.getD i 0 := by simp [List.getD_eq_getElem?_getD]
    have gb : l[i + q]?.getD 0 = l.getD (i + q) 0 := by simp [List.getD_eq_getElem?_getD]
    have e1 := enc1_get (f := tI) 0 la
    have e2 := enc1_get (f := tI) 0 lb
    rw [ga] at e1
    rw [gb] at e2
    have hs : ints (swapL l i (i + q)) = ((ints l).set i [tI (l.getD (i + q) 0)]).set (i + q) [tI (l.getD i 0)] := by
      show enc1 tI _ = ((enc1 tI l).set _ _).set _ _
      rw [enc1_set, enc1_set]; rfl
    rw [hs] at ih
    generalize l.getD i 0 = va at *
    generalize l.getD (i + q) 0 = vb at *
    have hiq : ((i : Int) + q).toNat = i + q := by omega
    have hiq2 : (i : Int) + q < n := by omega
    simp (disch := omega) [h2, h3, enc1_len, enc1_wid, hget, hl, hne, hmod, e1, e2, hiq, hiq2, hj, wrap_i64]
    refine ⟨by omega, ?_⟩
    rw [hK]
    simpa using ih

theorem cut_loop {Q : AX → St → Prop} (cuts : Sl Int) (hk : ∀ b ∈ cuts.l, Byt b) (L : List Int) (hL : L.length ≤ 1000000000) (R : List (Sl Int))
    (h0 : ∀ (i off len : Nat) (out : List (Sl Int)), out.length ≤ off → off + len = L.length → out ++ (if L.drop off = [] then [] else [⟨L.drop off, none, none⟩]) = R → Q (.exit 2) ⟨[(2, .t (.sl (enc1 tK cuts.l) cuts.cap cuts.nl)), (7, .ls 15 off len none), (10, .ls 80 0 out.length none), (11, .t (tI i)), (62, .t (tB false))], [(15, .sl 3 1 (ints L)), (80, .sl 31 1 (enc1 tSl out))]⟩) : ∀ (k i off len : Nat) (out : List (Sl Int)), k + i = cuts.l.length → off + len = L.length → out ++ cutS (cuts.l.drop i) (L.drop off) = R → out.length ≤ off → i = out.length →
    run Tryd.prog Γ law34_Chains_l3 Q ⟨[(2, .t (.sl (enc1 tK cuts.l) cuts.cap cuts.nl)), (7, .ls 15 off len none), (10, .ls 80 0 out.length none), (11, .t (tI i))], [(15, .sl 3 1 (ints L)), (80, .sl 31 1 (enc1 tSl out))]⟩
  | 0, i, off, len, out, h, ho, hR, hl, hio => by
    refine law34_Chains_l3_run fun K hK => ?_
    have h2 : ¬ i < cuts.l.length := by omega
    rw [List.drop_of_length_le (by omega)] at hR
    simp only [cutS] at hR
    simp [h2, enc1_len]
    exact h0 i off len out hl ho hR
  | k + 1, i, off, len, out, h, ho, hR, hl, hio => by
    refine law34_Chains_l3_run fun K hK => ?_
    have h2 : i < cuts.l.length := by omega
    by_cases hlen : len = 0
    · subst hlen
      have hd : L.drop off = [] := List.drop_of_length_le (by omega)
      rw [hd] at hR
      have hR' : out ++ (if L.drop off = [] then [] else [⟨L.drop off, none, none⟩]) = R := by
        rw [hd]
        rw [List.drop_eq_getElem_cons h2] at hR
        simpa [cutS] using hR
      simp [h2, enc1_len]
      exact h0 i off 0 out hl ho hR'
    have hdl : (L.drop off).length = len := by simp; omega
    have hdn : ¬ L.drop off = [] := fun e => by rw [e] at hdl; simp at hdl; omega
    rw [List.drop_eq_getElem_cons h2] at hR
    simp only [cutS, if_neg hdn, hdl] at hR
    have hget := enc1_get (f := tK) 0 h2
    have hkg : cuts.l[i]?.getD 0 = cuts.l[i] := by simp [h2]
    rw [hkg] at hget
    obtain ⟨b0, b1⟩ := hk _ (List.getElem_mem h2)
    generalize cuts.l[i] = b at *
    have hm := Nat.mod_lt b.toNat (show 0 < len by omega)
    have hne : ¬ (len : Int) = 0 := by omega
    have hmod : b.tmod (len : Int) = ((b.toNat % len : Nat) : Int) := by
      have e1 : b = (b.toNat : Int) := by omega
      rw [Int.natCast_emod, ← e1]; exact Int.tmod_eq_emod_of_nonneg (by omega)
    generalize b.toNat % len = q at *
    have ih := cut_loop cuts hk L hL R h0 k (i + 1) (off + (1 + q)) (len - (1 + q)) (out ++ [⟨(L.drop off).take (1 + q), none, none⟩]) (by omega) (by omega) (by rw [← hR, List.append_assoc, List.drop_drop]; rfl) (by simp; omega) (by simp; omega)
    have ht : ∀ n, (ints L).drop n = ints (L.drop n) := fun n => enc1_drop
    have ht2 : ∀ n (l : List Int), (ints l).take n = ints (l.take n) := fun n l => enc1_take
    have htk : (enc1 tSl out).take out.length = enc1 tSl out := List.take_of_length_le (by rw [enc1_len]; exact Nat.le_refl _)
    have hw : wid 1 [[T.sl (ints ((L.drop off).take (1 + q))) none none]] := by intro e he; simp at he; subst he; rfl
    have hsn : enc1 tSl out ++ [[T.sl (ints ((L.drop off).take (1 + q))) none none]] = enc1 tSl (out ++ [⟨(L.drop off).take (1 + q), none, none⟩]) := enc1_snoc (f := tSl) (x := ⟨(L.drop off).take (1 + q), none, none⟩)
    have hlt : 0 < len := by omega
    have hq1 : (1 + (q : Int)).toNat = 1 + q := by omega
    simp (disch := omega) [h2, enc1_len, enc1_wid, hget, hne, hlen, hlt, hmod, hq1, ht, ht2, htk, hw, hsn, wrap_i64]
    refine ⟨by omega, by omega, by omega, by omega, ?_⟩
    rw [hK]
    have hq1' : (1 : Int) + q = ((1 + q : Nat) : Int) := by omega
    simpa using ih
end Go.Lg

/- Chains of plain data. Conditions: none. -/
set_option linter.unusedSimpArgs false
set_option linter.unusedVariables false
set_option maxRecDepth 100000
namespace Go.Lg
open Go Go.Proofs
variable {Γ : Tables}

theorem Chains_spec (c : Cir) (hc : COk c) (keys cuts : Sl Int) (hk : ∀ b ∈ keys.l, Byt b) (hcu : ∀ b ∈ cuts.l, Byt b) :
    PureCalls Tryd.prog Γ 48 [.agg (tC c), .sl (enc1 tK keys.l) keys.cap keys.nl, .sl (enc1 tK cuts.l) cuts.cap cuts.nl] (tChs ⟨cutS cuts.l (permS (min (states c).length keys.l.length) 0 keys.l (states c)), none, none⟩) := by
  refine run_pureQ law34_Chains_chk rfl ?_
  have hsl := states_len c
  have hcn := hc.nodes
  have hpl := permS_len (f := min (states c).length keys.l.length) (i := 0) (keys := keys.l) (l := states c) (by omega)
  have g1 := fun Q h0 => perm_loop (Γ := Γ) (Q := Q) keys hk (.sl (enc1 tK cuts.l) cuts.cap cuts.nl) (states c).length (by omega) _ h0 (min (states c).length keys.l.length) 0 (states c) (by omega) rfl rfl
  generalize permS (min (states c).length keys.l.length) 0 keys.l (states c) = L at *
  have g2 := fun Q h0 => cut_loop (Γ := Γ) (Q := Q) cuts hcu L (by omega) (cutS cuts.l L) h0 cuts.l.length 0 0 L.length [] (by omega) (by omega) (by simp) (by simp) rfl
  simp [law34_Chains_ic, tC, tNodes, tNames, tMems, tSl]
  refine callK_pure (states_spec c hc) rfl ?_
  simp [enc1_len, enc1_wid]
  simp only [hpl] at g2
  refine ⟨by omega, g1 _ ?_⟩
  simp
  refine g2 _ fun i off len out h1 h2 h3 => ?_
  have hdl : (L.drop off).length = len := by rw [List.length_drop]; omega
  by_cases hlen : len = 0
  · have hd : L.drop off = [] := List.drop_of_length_le (by omega)
    rw [hd, if_pos rfl, List.append_nil] at h3
    generalize cutS cuts.l L = R at *
    subst h3
    have htk : (enc1 tSl out).take out.length = enc1 tSl out := enc1_take_len
    simp [hlen, law34_Chains_rv, reify, htk, tChs]
  · have hdn : ¬ L.drop off = [] := fun e => by rw [e] at hdl; simp at hdl; omega
    rw [if_neg hdn] at h3
    have hlt : 0 < len := by omega
    have htk : (enc1 tSl out).take out.length = enc1 tSl out := enc1_take_len
    have ht : (ints L).drop off = ints (L.drop off) := enc1_drop
    have ht2 : (ints (L.drop off)).take len = ints (L.drop off) := List.take_of_length_le (by rw [enc1_len, hdl]; exact Nat.le_refl _)
    have hw : wid 1 [[T.sl (ints (L.drop off)) none none]] := by intro e he; simp at he; subst he; rfl
    have hsn : enc1 tSl out ++ [[T.sl (ints (L.drop off)) none none]] = enc1 tSl (out ++ [⟨L.drop off, none, none⟩]) := enc1_snoc (f := tSl) (x := ⟨L.drop off, none, none⟩)
    have hww : wid 1 (ints (L.drop off)) := enc1_wid
    rw [h3] at hsn
    have hRl : (cutS cuts.l L).length = out.length + 1 := by rw [← h3]; simp
    have htk2 : (enc1 tSl (cutS cuts.l L)).take (out.length + 1) = enc1 tSl (cutS cuts.l L) := by rw [← hRl]; exact enc1_take_len
    have hol : out.length ≤ 1000000000 := by omega
    have hol1 : (out.length : Int) + 1 = ((out.length + 1 : Nat) : Int) := by omega
    clear h3
    generalize cutS cuts.l L = R at *
    simp [hlen, hlt, enc1_len, ht, ht2, htk, hw, hww, hsn, hdl]
    refine ⟨by omega, by omega, ?_⟩
    simp [law34_Chains_rv, reify, htk2, tChs]
end Go.Lg

/- What a case lays. Conditions: none. -/
set_option linter.unusedSimpArgs false
set_option linter.unusedVariables false
set_option maxRecDepth 100000
namespace Go.Lg
open Go Go.Proofs
variable {Γ : Tables}

structure CaseD where
  x : CD
  keys : Sl Int
  cuts : Sl Int
def tCase (y : CaseD) : List T := tCD y.x ++ [.sl (enc1 tK y.keys.l) y.keys.cap y.keys.nl, .sl (enc1 tK y.cuts.l) y.cuts.cap y.cuts.nl]
structure CaseOk (y : CaseD) : Prop where
  x : CDOk y.x
  keys : ∀ b ∈ y.keys.l, Byt b
  cuts : ∀ b ∈ y.cuts.l, Byt b
def noMemX (x : CD) : CD := { x with mem := false }
def caseC (y : CaseD) : Cir := ofC (noMemX y.x)
def caseCh (y : CaseD) : List (Sl Int) := cutS y.cuts.l (permS (min (states (caseC y)).length y.keys.l.length) 0 y.keys.l (states (caseC y)))
theorem noMemX_ok {x : CD} (h : CDOk x) : CDOk (noMemX x) := ⟨h.i, h.f, h.d0, h.d1, h.p0, h.p1, h.p2, h.p3, h.gates, h.outs⟩

theorem CaseOf_spec (y : CaseD) (hy : CaseOk y) : PureCalls Tryd.prog Γ 19 [.agg (tCase y)] (.tup [.agg (tC (caseC y)), tChs ⟨caseCh y, none, none⟩]) := by
  refine run_pureQ law34_Case_Of_chk rfl ?_
  have hx := noMemX_ok hy.x
  have e1 := Of_spec (Γ := Γ) (noMemX y.x) hx
  have hc := ofC_ok hx
  have e2 := Chains_spec (Γ := Γ) (caseC y) hc y.keys y.cuts hy.keys hy.cuts
  unfold caseCh
  have hcc : ofC (noMemX y.x) = caseC y := rfl
  rw [hcc] at e1
  generalize caseC y = c at *
  simp [law34_Case_Of_ic, tCase, tCD]
  simp [tCD, noMemX] at e1
  refine callK_pure e1 rfl ?_
  simp [tC, tNodes, tNames, tMems, tSl]
  simp [tC, tNodes, tNames, tMems, tSl] at e2
  refine callK_pure e2 rfl ?_
  simp [law34_Case_Of_rv, reify]
end Go.Lg

/- A case and a list of places, opened. Conditions: none. -/
set_option linter.unusedSimpArgs false
set_option linter.unusedVariables false
set_option maxRecDepth 100000
namespace Go.Lg
open Go Go.Proofs Go.Proofs.YtgnghiijbegacaaDoor
theorem cells51 : Tryd.prog.cellsOf 51 = 14 := by kernel_rfl
theorem rdBytes : Rd Tryd.prog 25 fun ts => ∃ s : Sl Int, ts = [.sl (enc1 tK s.l) s.cap s.nl] ∧ ∀ b ∈ s.l, Byt b := by
  refine (rd_slice Tryd.underlying25 cells5 (by decide) rdU8).mono fun ts ⟨es, cap, nl, h, _, hes⟩ => ?_
  obtain ⟨l, rfl, hl⟩ := list_of (f := fun n => [tK n]) (Q := Byt) fun x hx => (hes x hx).1
  exact ⟨⟨l, cap, nl⟩, h, hl⟩
theorem rdCase : Rd Tryd.prog 51 fun ts => ∃ y, ts = tCase y ∧ CaseOk y := by
  refine (rd_struct (l := [(12, fun ts => ∃ x, ts = tCD x ∧ CDOk x), (1, fun ts => ∃ s : Sl Int, ts = [.sl (enc1 tK s.l) s.cap s.nl] ∧ ∀ b ∈ s.l, Byt b), (1, fun ts => ∃ s : Sl Int, ts = [.sl (enc1 tK s.l) s.cap s.nl] ∧ ∀ b ∈ s.l, Byt b)]) Tryd.underlying51 cells51
    (.cons rfl cells27 rdCD (.cons rfl cells25 rdBytes (.cons rfl cells25 rdBytes (.nil _))))).mono fun ts h => ?_
  obtain ⟨_, _, rfl, ⟨x, rfl, hx⟩, _, _, rfl, ⟨s, rfl, hs⟩, _, _, rfl, ⟨t, rfl, ht⟩, rfl⟩ := h
  exact ⟨⟨x, s, t⟩, by simp [tCase], hx, hs, ht⟩
end Go.Lg
namespace Go.Proofs.YtgnghiijbegacaaDoor
open Go Go.Lg Go.ChangeShapes Go.WideShapes Go.ChangeAt Go.RowKit
theorem open_case {H : Type} {enc : TypeId × Value → H} {W : World} {base : Nat} {v : Value} {d : DataW H} {p : List MemPlace} (hval : Value.okWide Tryd.prog W .any base 51 v) (h : DataW.Trod enc Tryd.prog W 0 (fun _ => true) true 51 v d p) : ∃ y, CaseOk y ∧ TR W (Old W) (.agg (tCase y)) v := by
  simp only [Value.okWide, Tryd.underlying51] at hval
  obtain ⟨cs, rfl, _, _⟩ := hval
  obtain ⟨fuel, hf⟩ := h
  obtain ⟨ts, ⟨x, rfl, hx⟩, htr, ho⟩ := rdCase H enc W true fuel _ _ hf
  exact ⟨x, hx, tr_agg htr ho⟩
end Go.Proofs.YtgnghiijbegacaaDoor

/- The seat's rows that list more than the table of the gates. Conditions: none. -/
set_option linter.unusedSimpArgs false
set_option linter.unusedVariables false
set_option maxRecDepth 100000
namespace Go.Proofs.YtgnghiijbegacaaDoor
open Go Go.Lg Go.ChangeShapes Go.WideShapes Go.ChangeAt Go.RowKit

theorem laidMet_tail {P : Program} {x : String × DataW Unit} {l : List (String × DataW Unit)} {w : World} (h : laidMet P (x :: l) w) : laidMet P l w := by
  obtain ⟨ps, hv, hn, hm⟩ := h
  obtain ⟨n, d⟩ := x
  obtain ⟨g, t, cs, fuel, p, q, h1, h2, h3, h4, h5, rfl⟩ := hv
  exact ⟨q, h5, (List.nodup_append.1 hn).2.1, fun b off hq => hm b off (List.mem_append_right _ hq)⟩

theorem gl_of4 {W : World} (h : laidMetH Tryd.prog [("math/bits.deBruijn32tab", Rows.laid_math_bits_deBruijn32tab), ("math/bits.deBruijn64tab", Rows.laid_math_bits_deBruijn64tab), ("internal/strconv.uint64pow10", Rows.laid_internal_strconv_uint64pow10), ("probecard/logic.fanins", Rows.laid_probecard_logic_fanins)] W) : Gl G0 W (Old W) := by
  rw [MakeChecks.laidMetH_plain _ _ _ (by kernel_rfl)] at h
  exact fan_gl (laidMet_tail (laidMet_tail (laidMet_tail h)))

/-- A world for the witness: the tables hold what their initialisers lay. -/
noncomputable def laidWorld4 (os : Os) : World :=
  { laidWorld os with heap := (((laidWorld os).heap.modify 2 fun
      | .cells _ t frozen => .cells ([.int .u64 1, .int .u64 10, .int .u64 100, .int .u64 1000, .int .u64 10000, .int .u64 100000, .int .u64 1000000, .int .u64 10000000, .int .u64 100000000, .int .u64 1000000000, .int .u64 10000000000, .int .u64 100000000000, .int .u64 1000000000000, .int .u64 10000000000000, .int .u64 100000000000000, .int .u64 1000000000000000, .int .u64 10000000000000000, .int .u64 100000000000000000, .int .u64 1000000000000000000, .int .u64 10000000000000000000] : List Value).toArray t frozen
      | o => o).modify 3 fun
      | .cells _ t frozen => .cells ([.int .u8 0, .int .u8 1, .int .u8 28, .int .u8 2, .int .u8 29, .int .u8 14, .int .u8 24, .int .u8 3, .int .u8 30, .int .u8 22, .int .u8 20, .int .u8 15, .int .u8 25, .int .u8 17, .int .u8 4, .int .u8 8, .int .u8 31, .int .u8 27, .int .u8 13, .int .u8 23, .int .u8 21, .int .u8 19, .int .u8 16, .int .u8 7, .int .u8 26, .int .u8 12, .int .u8 18, .int .u8 6, .int .u8 11, .int .u8 5, .int .u8 10, .int .u8 9] : List Value).toArray t frozen
      | o => o).modify 4 fun
      | .cells _ t frozen => .cells ([.int .u8 0, .int .u8 1, .int .u8 56, .int .u8 2, .int .u8 57, .int .u8 49, .int .u8 28, .int .u8 3, .int .u8 61, .int .u8 58, .int .u8 42, .int .u8 50, .int .u8 38, .int .u8 29, .int .u8 17, .int .u8 4, .int .u8 62, .int .u8 47, .int .u8 59, .int .u8 36, .int .u8 45, .int .u8 43, .int .u8 51, .int .u8 22, .int .u8 53, .int .u8 39, .int .u8 33, .int .u8 30, .int .u8 24, .int .u8 18, .int .u8 12, .int .u8 5, .int .u8 63, .int .u8 55, .int .u8 48, .int .u8 27, .int .u8 60, .int .u8 41, .int .u8 37, .int .u8 16, .int .u8 46, .int .u8 35, .int .u8 44, .int .u8 21, .int .u8 52, .int .u8 32, .int .u8 23, .int .u8 11, .int .u8 54, .int .u8 26, .int .u8 40, .int .u8 15, .int .u8 34, .int .u8 20, .int .u8 31, .int .u8 10, .int .u8 25, .int .u8 14, .int .u8 19, .int .u8 9, .int .u8 13, .int .u8 8, .int .u8 7, .int .u8 6] : List Value).toArray t frozen
      | o => o }
end Go.Proofs.YtgnghiijbegacaaDoor
