/- Circuits from plain data: name and gate. Conditions: none. -/
import Derived.Test.YtgnghiijbegacaaDoorPkD
import Derived.Test.YtgnghiijbegacaaDoorPkC
import Derived.Test.YtgnghiijbegacaaDoorRows
import Derived.Test.YtgnghiijbegacaaDoorCards
import Derived.Test.YtgnghiijbegacaaDoorTie
import Derived.ProofKit
import Derived.Deep.DeepHandedRow
import Derived.SevenTiedAt
import Derived.Test.YtgnghiijbegacaaDoorProg
import Derived.KernelRfl
set_option linter.unusedSimpArgs false
set_option linter.unusedVariables false
set_option maxRecDepth 100000
namespace Go.Lg
open Go Go.Proofs
variable {Γ : Tables}

structure Gd where
  k : Int
  a : Int
  b : Int
  d : Int
def tGd (g : Gd) : List T := [tK g.k, tK g.a, tK g.b, tK g.d]
structure CD where
  i : Int
  f : Int
  d0 : Int
  d1 : Int
  bus : Bool
  mem : Bool
  p0 : Int
  p1 : Int
  p2 : Int
  p3 : Int
  gates : Sl Gd
  outs : Sl Int
def tCD (x : CD) : List T := [tK x.i, tK x.f, tK x.d0, tK x.d1, tB x.bus, tB x.mem, tK x.p0, tK x.p1, tK x.p2, tK x.p3, .sl (encN tGd x.gates.l) x.gates.cap x.gates.nl, .sl (enc1 tK x.outs.l) x.outs.cap x.outs.nl]

def Byt (n : Int) : Prop := 0 ≤ n ∧ n ≤ 255
def GdOk (g : Gd) : Prop := Byt g.k ∧ Byt g.a ∧ Byt g.b ∧ Byt g.d

def nameL (i : Nat) : List UInt8 := [110, UInt8.ofNat (48 + i / 10), UInt8.ofNat (48 + i % 10)]

theorem name_spec (i : Nat) (hi : i < 100) : FreshCalls Tryd.prog Γ 40 [tI i] (tS (nameL i)) := by
  refine run_freshQ law03_name_chk rfl ?_
  have h1 : (i : Int).tdiv 10 = ((i / 10 : Nat) : Int) := by rw [Int.tdiv_eq_ediv_of_nonneg (by omega)]; omega
  have h2 : (i : Int).tmod 10 = ((i % 10 : Nat) : Int) := by rw [Int.tmod_eq_emod_of_nonneg (by omega)]; omega
  have h3 : i / 10 < 10 := by omega
  have h4 : i % 10 < 10 := by omega
  generalize hq : i / 10 = q at *
  generalize hr : i % 10 = r at *
  have e1 : (48 + (q : Int)).toNat = 48 + q := by omega
  have e2 : (48 + (r : Int)).toNat = 48 + r := by omega
  simp (disch := omega) [law03_name_ic, sV, h1, h2, wrap_i64, wrap_u8, bytesOf]
  simp [law03_name_rv, nameL, hq, hr, tS, sV, e1, e2]

def triL (nodes : List Nd) : List Int := ofL [12] nodes 0
def gateT (bus : Bool) (g : Gd) (a b d : Int) (t : List Int) : Nd :=
  let kind := if bus then g.k.tmod 13 else g.k.tmod 9
  if kind < 6 then ⟨5 + kind, if 128 ≤ g.k then ⟨[a, b, d], none, none⟩ else ⟨[a, b], none, none⟩, 0, 0⟩
  else if kind = 6 then ⟨4, ⟨[a], none, none⟩, 0, 0⟩
  else if kind = 7 then ⟨11, ⟨[a, b, d], none, none⟩, 0, 0⟩
  else if kind = 9 ∨ kind = 10 then ⟨12, ⟨[a, b], none, none⟩, 0, 0⟩
  else if 10 < kind ∧ 0 < t.length then
    let k := g.a.tmod t.length
    ⟨13, if 1 < t.length then ⟨[t.getD k.toNat 0, t.getD ((k + 1).tmod t.length).toNat 0], none, none⟩ else ⟨[t.getD k.toNat 0], none, none⟩, 0, 0⟩
  else if 240 < g.k then ⟨1 + g.a.tmod 2, ⟨[], some 0, some true⟩, 0, 0⟩
  else ⟨3, ⟨[a], none, none⟩, 0, 0⟩

def gateN (bus : Bool) (g : Gd) (nodes : List Nd) : Nd := gateT bus g (g.a.tmod nodes.length) (g.b.tmod nodes.length) (g.d.tmod nodes.length) (triL nodes)

theorem gate_loop {Q : AX → St → Prop} (nodes : List Nd) (cap : Option Nat) (nl : Option Bool) (hl : nodes.length ≤ 100) (a3 a4 a8 a9 a10 : T) (r6 : List T)
    (h0 : Q (.exit 0) ⟨[(2, .t (.sl (encN tNd nodes) cap nl)), (3, .t a3), (4, .t a4), (6, .lp 6 0 0), (7, .t (tI nodes.length)), (8, .t a8), (9, .t a9), (10, .t a10), (11, .ls 51 0 (triL nodes).length none), (12, .t (tI nodes.length)), (39, .t (tB false))], [(6, .bx (r6.map AV.t)), (51, .sl 3 1 (ints (triL nodes)))]⟩) : ∀ (k i : Nat), k + i = nodes.length →
    run Tryd.prog Γ law03_C_gate_l1 Q ⟨[(2, .t (.sl (encN tNd nodes) cap nl)), (3, .t a3), (4, .t a4), (6, .lp 6 0 0), (7, .t (tI nodes.length)), (8, .t a8), (9, .t a9), (10, .t a10), (11, .ls 51 0 (triL (nodes.take i)).length none), (12, .t (tI i))], [(6, .bx (r6.map AV.t)), (51, .sl 3 1 (ints (triL (nodes.take i))))]⟩
  | 0, i, h => by
    refine law03_C_gate_l1_run fun K hK => ?_
    have h2 : ¬ i < nodes.length := by omega
    have h3 : i = nodes.length := by omega
    simp [h2]
    subst h3
    simpa using h0
  | k + 1, i, h => by
    refine law03_C_gate_l1_run fun K hK => ?_
    have h2 : i < nodes.length := by omega
    have ht : nodes.take (i + 1) = nodes.take i ++ [nodes[i]] := by rw [List.take_add_one]; simp [h2]
    have hlen := ofL_len [12] (nodes.take i) 0
    have htl : (nodes.take i).length = i := by simp; omega
    have hal : triL (nodes.take (i + 1)) = if nodes[i].k = 12 then triL (nodes.take i) ++ [(i : Int)] else triL (nodes.take i) := by
      simp only [triL]
      rw [ht, ofL_app, htl]
      simp only [ofL, Nat.zero_add, List.contains_cons, List.contains_nil, Bool.or_false, int_beq, decide_eq_true_eq]
      split <;> simp
    have ih := gate_loop nodes cap nl hl a3 a4 a8 a9 a10 r6 h0 k (i + 1) (by omega)
    rw [hal] at ih
    simp only [triL] at ih ⊢
    by_cases h5 : nodes[i].k = 12
    · rw [if_pos h5] at ih
      have hw : wid 1 [[tI (i : Int)]] := by intro e he; simp at he; subst he; rfl
      simp (disch := omega) [h2, encN_len, encN_get Nd.d, tNd_wid, tNd, tSl, h5, wrap_i64, enc1_len, enc1_wid, hw]
      rw [hK]
      simp at ih
      rw [enc1_snoc (f := tI) (x := (i : Int))]
      exact ⟨by omega, ih⟩
    · rw [if_neg h5] at ih
      simp (disch := omega) [h2, encN_len, encN_get Nd.d, tNd_wid, tNd, tSl, h5, wrap_i64]
      rw [hK]
      simpa using ih

theorem tmod_lt {a : Int} {n : Nat} (h0 : 0 ≤ a) (h1 : 0 < n) : 0 ≤ a.tmod n ∧ a.tmod n < n := by
  rw [Int.tmod_eq_emod_of_nonneg h0]
  exact ⟨Int.emod_nonneg _ (by omega), Int.emod_lt_of_pos _ (by omega)⟩

theorem flatReg_sl {ty s : Nat} {es : List (List T)} : flatReg (.sl ty s es) = ∀ e ∈ es, ∀ t ∈ e, flatT t = true := rfl
set_option maxHeartbeats 4000000 in
theorem gate_spec (x : CD) (g : Gd) (hg : GdOk g) (nodes : List Nd) (cap : Option Nat) (nl : Option Bool) (h0 : 1 ≤ nodes.length) (h1 : nodes.length ≤ 100) :
    FreshCalls Tryd.prog Γ 39 [.agg (tCD x), .agg (tGd g), .sl (encN tNd nodes) cap nl] (.agg (tNd (gateN x.bus g nodes))) := by
  refine run_freshQ law03_C_gate_chk rfl ?_
  obtain ⟨⟨hk0, hk1⟩, ⟨ha0, ha1⟩, ⟨hb0, hb1⟩, ⟨hd0, hd1⟩⟩ := hg
  have hn0 : ¬ (nodes.length : Int) = 0 := by omega
  have hn1 : (nodes.length : Int) ≠ 0 := by omega
  have hne : ¬ nodes = [] := fun e => by subst e; simp at h0
  have hlp := fun Q a3 a4 a8 a9 a10 r6 h0 => gate_loop (Γ := Γ) (Q := Q) nodes cap nl h1 a3 a4 a8 a9 a10 r6 h0 nodes.length 0 (by omega)
  have ht := ofL_len [12] nodes 0
  simp only [triL, List.take_zero, ofL, List.length_nil, enc1_nil] at hlp
  simp (disch := omega) [law03_C_gate_ic, tCD, tGd, encN_len, wrap_i64, hn0]
  refine ⟨hne, hlp _ _ _ _ _ _ [_, _, _, _] ?_⟩
  clear hlp
  unfold gateN
  simp only [triL]
  generalize ofL [12] nodes 0 = t at *
  have m13 : 0 ≤ g.k.tmod 13 ∧ g.k.tmod 13 < 13 := tmod_lt (n := 13) hk0 (by omega)
  have m9 : 0 ≤ g.k.tmod 9 ∧ g.k.tmod 9 < 9 := tmod_lt (n := 9) hk0 (by omega)
  have ma : 0 ≤ g.a.tmod 2 ∧ g.a.tmod 2 < 2 := tmod_lt (n := 2) ha0 (by omega)
  generalize g.a.tmod nodes.length = a
  generalize g.b.tmod nodes.length = b
  generalize g.d.tmod nodes.length = d
  unfold gateT
  cases x.bus
  · generalize hkk : g.k.tmod 9 = kk at *
    by_cases k1 : kk < 6
    · by_cases k2 : 128 ≤ g.k
      · simp (disch := omega) [hkk, k1, k2, wrap_i64, wrap_u8, Later, law03_C_gate_rv, tNd, tSl, enc1, wid, reify, flatReg_sl]
      · simp (disch := omega) [hkk, k1, k2, wrap_i64, wrap_u8, Later, law03_C_gate_rv, tNd, tSl, enc1, wid, reify, flatReg_sl]
    by_cases k3 : kk = 6
    · simp (disch := omega) [hkk, k1, k3, wrap_i64, wrap_u8, Later, law03_C_gate_rv, tNd, tSl, enc1, wid, reify, flatReg_sl]
    by_cases k4 : kk = 7
    · simp (disch := omega) [hkk, k1, k4, wrap_i64, wrap_u8, Later, law03_C_gate_rv, tNd, tSl, enc1, wid, reify, flatReg_sl]
    have k5 : kk = 8 := by omega
    by_cases k6 : 240 < g.k
    · simp (disch := omega) [hkk, k5, k6, wrap_i64, wrap_u8, Later, law03_C_gate_rv, tNd, tSl, enc1, wid, reify, flatReg_sl]
    · simp (disch := omega) [hkk, k5, k6, wrap_i64, wrap_u8, Later, law03_C_gate_rv, tNd, tSl, enc1, wid, reify, flatReg_sl]
  · generalize hkk : g.k.tmod 13 = kk at *
    by_cases k1 : kk < 6
    · by_cases k2 : 128 ≤ g.k
      · simp (disch := omega) [hkk, k1, k2, wrap_i64, wrap_u8, Later, law03_C_gate_rv, tNd, tSl, enc1, wid, reify, flatReg_sl]
      · simp (disch := omega) [hkk, k1, k2, wrap_i64, wrap_u8, Later, law03_C_gate_rv, tNd, tSl, enc1, wid, reify, flatReg_sl]
    by_cases k3 : kk = 6
    · simp (disch := omega) [hkk, k1, k3, wrap_i64, wrap_u8, Later, law03_C_gate_rv, tNd, tSl, enc1, wid, reify, flatReg_sl]
    by_cases k4 : kk = 7
    · simp (disch := omega) [hkk, k1, k4, wrap_i64, wrap_u8, Later, law03_C_gate_rv, tNd, tSl, enc1, wid, reify, flatReg_sl]
    by_cases k8 : kk = 9
    · simp (disch := omega) [hkk, k8, wrap_i64, wrap_u8, Later, law03_C_gate_rv, tNd, tSl, enc1, wid, reify, flatReg_sl]
    by_cases k9 : kk = 10
    · simp (disch := omega) [hkk, k9, wrap_i64, wrap_u8, Later, law03_C_gate_rv, tNd, tSl, enc1, wid, reify, flatReg_sl]
    by_cases k10 : 10 < kk ∧ 0 < t.length
    · obtain ⟨k11, k10⟩ := k10
      have htn : ¬ (t.length : Int) = 0 := by omega
      have htne : ¬ t = [] := fun e => by subst e; simp at k10
      have htp : (0 : Int) < t.length := by omega
      have mt := tmod_lt (n := t.length) ha0 k10
      generalize hq : g.a.tmod t.length = q at *
      have mt2 := tmod_lt (a := q + 1) (n := t.length) (by omega) k10
      have hq0 : q.toNat < t.length := by omega
      generalize hq2 : (q + 1).tmod t.length = q2 at *
      have hq20 : q2.toNat < t.length := by omega
      have e1 := enc1_get (f := tI) 0 hq0
      have e2 := enc1_get (f := tI) 0 hq20
      by_cases k12 : 1 < t.length
      · have k12' : (1 : Int) < t.length := by omega
        simp (disch := omega) [hkk, k1, k3, k4, k8, k9, k11, k10, htp, htn, k12, k12', hq, hq2, e1, e2, hq0, hq20, mt.1, mt.2, mt2.1, mt2.2, htne, enc1_len, enc1_wid, wrap_i64, wrap_u8, Later, tNd, tSl, reify, flatReg_sl, law03_C_gate_rv]
        simp [wid, enc1]
      · have k12' : ¬ (1 : Int) < t.length := by omega
        simp (disch := omega) [hkk, k1, k3, k4, k8, k9, k11, k10, htp, htn, k12, k12', hq, hq2, e1, e2, hq0, hq20, mt.1, mt.2, mt2.1, mt2.2, htne, enc1_len, enc1_wid, wrap_i64, wrap_u8, Later, tNd, tSl, reify, flatReg_sl, law03_C_gate_rv]
        simp [wid, enc1]
    · by_cases k11 : 10 < kk
      · have k10' : t = [] := List.eq_nil_of_length_eq_zero (by omega)
        subst k10'
        by_cases k6 : 240 < g.k
        · simp (disch := omega) [hkk, k1, k3, k4, k8, k9, k11, k6, wrap_i64, wrap_u8, Later, law03_C_gate_rv, tNd, tSl, enc1, wid, reify, flatReg_sl]
        · simp (disch := omega) [hkk, k1, k3, k4, k8, k9, k11, k6, wrap_i64, wrap_u8, Later, law03_C_gate_rv, tNd, tSl, enc1, wid, reify, flatReg_sl]
      · have k5 : kk = 8 := by omega
        by_cases k6 : 240 < g.k
        · simp (disch := omega) [hkk, k5, k6, wrap_i64, wrap_u8, Later, law03_C_gate_rv, tNd, tSl, enc1, wid, reify, flatReg_sl]
        · simp (disch := omega) [hkk, k5, k6, wrap_i64, wrap_u8, Later, law03_C_gate_rv, tNd, tSl, enc1, wid, reify, flatReg_sl]
end Go.Lg

/- Circuits from plain data: Of. Conditions: none. -/
set_option linter.unusedSimpArgs false
set_option linter.unusedVariables false
set_option maxRecDepth 100000
namespace Go.Lg
open Go Go.Proofs
variable {Γ : Tables}

def tNil : T := .sl [] (some 0) (some true)
def hpO (nodes : List Nd) (names : List (List UInt8)) (m : T) (outs : List Int) : List (Nat × Reg) :=
  [(2, .bx [.t tNil, .t tNil, .t tNil, .t tNil]), (3, .bx [.ls 25 0 nodes.length none, .ls 144 0 names.length none, .t m, .ls 168 0 outs.length none]), (25, .sl 48 4 (encN tNd nodes)), (144, .sl 9 1 (enc1 tS names)), (168, .sl 3 1 (ints outs))]

def inpN : Nd := ⟨0, ⟨[], some 0, some true⟩, 0, 0⟩
def dffN (l : Int) : Nd := ⟨14, ⟨[l], some 1, some false⟩, 0, 0⟩
def memN (b : Int) : Nd := ⟨15, ⟨[], some 0, some true⟩, 0, b⟩

theorem of_inputs {Q : AX → St → Prop} (x : CD) (hx : Byt x.i) (R : List Nd)
    (h0 : Q (.exit 0) ⟨[(1, .t (.ip (tCD x) 0)), (2, .lp 2 0 0), (3, .lp 3 0 0), (4, .t (tI (x.i.tmod 4 + 1))), (18, .t (tB false))], hpO R [] tNil []⟩) : ∀ (k : Nat) (i : Int) (ns : List Nd), k + i = x.i.tmod 4 + 1 → ns ++ List.replicate k inpN = R → ns.length + k ≤ 100 →
    run Tryd.prog Γ law03_C_Of_l1 Q ⟨[(1, .t (.ip (tCD x) 0)), (2, .lp 2 0 0), (3, .lp 3 0 0), (4, .t (tI i))], hpO ns [] tNil []⟩
  | 0, i, ns, h, hR, hl => by
    refine law03_C_Of_l1_run fun K hK => ?_
    have m4 : 0 ≤ x.i.tmod 4 ∧ x.i.tmod 4 < 4 := tmod_lt (n := 4) hx.1 (by omega)
    have h2 : ¬ i ≤ x.i.tmod 4 := by omega
    have h3 : i = x.i.tmod 4 + 1 := by omega
    simp only [List.replicate_zero, List.append_nil] at hR
    subst hR
    simp (disch := omega) [h2, tCD, hpO, wrap_i64, wrap_u8]
    subst h3
    simpa [tCD, hpO] using h0
  | k + 1, i, ns, h, hR, hl => by
    refine law03_C_Of_l1_run fun K hK => ?_
    have m4 : 0 ≤ x.i.tmod 4 ∧ x.i.tmod 4 < 4 := tmod_lt (n := 4) hx.1 (by omega)
    have h2 : i ≤ x.i.tmod 4 := by omega
    have ih := of_inputs x hx R h0 k (i + 1) (ns ++ [inpN]) (by omega) (by rw [← hR]; simp [List.replicate_succ]) (by simp; omega)
    have q : encN tNd ns ++ [[tK 0, .sl [] (some 0) (some true), tI 0, tI 0]] = encN tNd (ns ++ [inpN]) := encN_snoc (f := tNd) (x := inpN)
    have hw4 : wid 4 [[tK 0, .sl [] (some 0) (some true), tI 0, tI 0]] := by intro e he; simp at he; subst he; rfl
    have ht : (encN tNd ns).take ns.length = encN tNd ns := List.take_of_length_le (by simp [encN])
    simp (disch := omega) [h2, tCD, hpO, wrap_i64, wrap_u8, encN_len, hw4, tNd_wid, ht, q]
    rw [hK]
    simp [tCD, hpO] at ih
    exact ⟨by omega, ih⟩

theorem of_dffs {Q : AX → St → Prop} (x : CD) (hx : Byt x.f) (first : Int) (R : List Nd)
    (h0 : Q (.exit 2) ⟨[(1, .t (.ip (tCD x) 0)), (2, .lp 2 0 0), (3, .lp 3 0 0), (5, .t (tI first)), (6, .t (tI (x.f.tmod 3))), (7, .t (tI (x.f.tmod 3))), (36, .t (tB false))], hpO R [] tNil []⟩) : ∀ (k : Nat) (i : Int) (ns : List Nd), k + i = x.f.tmod 3 → ns ++ List.replicate k (dffN 0) = R → ns.length + k ≤ 100 →
    run Tryd.prog Γ law03_C_Of_l3 Q ⟨[(1, .t (.ip (tCD x) 0)), (2, .lp 2 0 0), (3, .lp 3 0 0), (5, .t (tI first)), (6, .t (tI (x.f.tmod 3))), (7, .t (tI i))], hpO ns [] tNil []⟩
  | 0, i, ns, h, hR, hl => by
    refine law03_C_Of_l3_run fun K hK => ?_
    have m3 : 0 ≤ x.f.tmod 3 ∧ x.f.tmod 3 < 3 := tmod_lt (n := 3) hx.1 (by omega)
    have h2 : ¬ i < x.f.tmod 3 := by omega
    have h3 : i = x.f.tmod 3 := by omega
    simp only [List.replicate_zero, List.append_nil] at hR
    subst hR
    simp (disch := omega) [h2, tCD, hpO, wrap_i64, wrap_u8]
    subst h3
    simpa [tCD, hpO] using h0
  | k + 1, i, ns, h, hR, hl => by
    refine law03_C_Of_l3_run fun K hK => ?_
    have m3 : 0 ≤ x.f.tmod 3 ∧ x.f.tmod 3 < 3 := tmod_lt (n := 3) hx.1 (by omega)
    have h2 : i < x.f.tmod 3 := by omega
    have ih := of_dffs x hx first R h0 k (i + 1) (ns ++ [dffN 0]) (by omega) (by rw [← hR]; simp [List.replicate_succ]) (by simp; omega)
    have q : encN tNd ns ++ [[tK 14, .sl [[tI 0]] (some 1) (some false), tI 0, tI 0]] = encN tNd (ns ++ [dffN 0]) := encN_snoc (f := tNd) (x := dffN 0)
    have hw4 : wid 4 [[tK 14, .sl [[tI 0]] (some 1) (some false), tI 0, tI 0]] := by intro e he; simp at he; subst he; rfl
    have ht : (encN tNd ns).take ns.length = encN tNd ns := List.take_of_length_le (by simp [encN])
    simp (disch := omega) [h2, tCD, hpO, wrap_i64, wrap_u8, encN_len, hw4, tNd_wid, ht, q]
    rw [hK]
    simp [tCD, hpO] at ih
    exact ⟨by omega, ih⟩

def gatesN (bus : Bool) : List Gd → List Nd → List Nd
  | [], ns => ns
  | g :: l, ns => gatesN bus l (ns ++ [gateN bus g ns])

theorem tGd_wid {l : List Gd} : wid 4 (encN tGd l) := encN_wid fun _ => rfl
def Gd.z : Gd := ⟨0, 0, 0, 0⟩

theorem of_gates {Q : AX → St → Prop} (x : CD) (hx : ∀ g ∈ x.gates.l, GdOk g) (first dffs : Int) (R : List Nd)
    (h0 : Q (.exit 4) ⟨[(1, .t (.ip (tCD x) 0)), (2, .lp 2 0 0), (3, .lp 3 0 0), (5, .t (tI first)), (6, .t (tI dffs)), (8, .t (tI (min x.gates.l.length 8 : Nat))), (63, .t (tB false))], hpO R [] tNil []⟩) : ∀ (k i : Nat) (ns : List Nd), k + i = min x.gates.l.length 8 → gatesN x.bus ((x.gates.l.take 8).drop i) ns = R → 1 ≤ ns.length → ns.length + k ≤ 100 →
    run Tryd.prog Γ law03_C_Of_l5 Q ⟨[(1, .t (.ip (tCD x) 0)), (2, .lp 2 0 0), (3, .lp 3 0 0), (5, .t (tI first)), (6, .t (tI dffs)), (8, .t (tI i))], hpO ns [] tNil []⟩
  | 0, i, ns, h, hR, hl1, hl => by
    refine law03_C_Of_l5_run fun K hK => ?_
    rw [List.drop_of_length_le (by simp; omega)] at hR
    simp only [gatesN] at hR
    subst hR
    have hi : i = min x.gates.l.length 8 := by omega
    by_cases h2 : i < x.gates.l.length
    · have h3 : ¬ (i : Int) < 8 := by omega
      have h3' : ¬ i < 8 := by omega
      simp (disch := omega) [h2, h3, h3', tCD, hpO, encN_len]
      subst hi
      simpa [tCD, hpO] using h0
    · simp (disch := omega) [h2, tCD, hpO, encN_len]
      subst hi
      simpa [tCD, hpO] using h0
  | k + 1, i, ns, h, hR, hl1, hl => by
    refine law03_C_Of_l5_run fun K hK => ?_
    have h2 : i < x.gates.l.length := by omega
    have h3 : i < 8 := by omega
    have h3' : (i : Int) < 8 := by omega
    rw [List.drop_eq_getElem_cons (by simp; omega)] at hR
    simp only [gatesN, List.getElem_take] at hR
    have ih := of_gates x hx first dffs R h0 k (i + 1) (ns ++ [gateN x.bus x.gates.l[i] ns]) (by omega) hR (by simp) (by simp; omega)
    have hg := gate_spec (Γ := Γ) x x.gates.l[i] (hx _ (List.getElem_mem h2)) ns none none hl1 (by omega)
    generalize gateN x.bus x.gates.l[i] ns = gn at *
    have q : encN tNd ns ++ [tNd gn] = encN tNd (ns ++ [gn]) := encN_snoc (f := tNd) (x := gn)
    have hw4 : wid 4 [tNd gn] := by intro e he; simp at he; subst he; rfl
    have ht : (encN tNd ns).take ns.length = encN tNd ns := List.take_of_length_le (by simp [encN])
    have hget := encN_get (f := tGd) Gd.z h2
    simp (disch := omega) [h2, h3, h3', tCD, hpO, wrap_i64, encN_len, hget, tGd_wid, tGd]
    refine callK_fresh hg (by simp [reify, tCD, ht, tGd]) ?_
    simp [tNd] at q hw4
    simp (disch := omega) [tNd, wrap_i64, encN_len, hw4, tNd_wid, ht, q]
    rw [hK]
    simp [tCD, hpO] at ih
    exact ⟨rfl, by omega, ih⟩

def ddN (x : CD) (i : Nat) : Int := if i = 0 then x.d0 else x.d1
def setIn (ns : List Nd) (j : Nat) (v : Int) : List Nd := ns.set j ⟨(ns.getD j Nd.d).k, ⟨[v], some 1, some false⟩, (ns.getD j Nd.d).mem, (ns.getD j Nd.d).bit⟩
def dataN (x : CD) (first : Nat) : Nat → Nat → List Nd → List Nd
  | 0, _, ns => ns
  | k + 1, i, ns => dataN x first k (i + 1) (setIn ns (first + i) ((ddN x i).tmod ns.length))
theorem setIn_len {ns : List Nd} {j : Nat} {v : Int} : (setIn ns j v).length = ns.length := by simp [setIn]
theorem dataN_len {x : CD} {f : Nat} : ∀ {k i : Nat} {ns : List Nd}, (dataN x f k i ns).length = ns.length
  | 0, _, _ => rfl
  | k + 1, i, ns => by simp only [dataN]; rw [dataN_len, setIn_len]

theorem set_in {ns : List Nd} {j : Nat} {v : Int} (hj : j < ns.length) : (encN tNd ns).set j (((encN tNd ns)[j]?.getD []).take 1 ++ T.sl [[tI v]] (some 1) (some false) :: ((encN tNd ns)[j]?.getD []).drop 2) = encN tNd (setIn ns j v) := by
  rw [encN_get (f := tNd) Nd.d hj]
  unfold setIn encN
  rw [List.map_set]
  rfl

theorem of_data {Q : AX → St → Prop} (x : CD) (h0' : Byt x.d0) (h1' : Byt x.d1) (first dn n : Nat) (hdn : dn ≤ 2) (hn : 1 ≤ n ∧ n ≤ 100) (hf : first + dn ≤ n) (R : List Nd)
    (h0 : Q (.exit 6) ⟨[(1, .t (.ip (tCD x) 0)), (2, .lp 2 0 0), (3, .lp 3 0 0), (5, .t (tI first)), (6, .t (tI dn)), (9, .t (tI n)), (10, .t (tI dn)), (85, .t (tB false))], hpO R [] tNil []⟩) : ∀ (k i : Nat) (ns : List Nd), k + i = dn → dataN x first k i ns = R → ns.length = n →
    run Tryd.prog Γ law03_C_Of_l7 Q ⟨[(1, .t (.ip (tCD x) 0)), (2, .lp 2 0 0), (3, .lp 3 0 0), (5, .t (tI first)), (6, .t (tI dn)), (9, .t (tI n)), (10, .t (tI i))], hpO ns [] tNil []⟩
  | 0, i, ns, h, hR, hl => by
    refine law03_C_Of_l7_run fun K hK => ?_
    simp only [dataN] at hR
    subst hR
    have h2 : ¬ i < dn := by omega
    have h3 : i = dn := by omega
    simp (disch := omega) [h2, tCD, hpO]
    subst h3
    simpa [tCD, hpO] using h0
  | k + 1, i, ns, h, hR, hl => by
    refine law03_C_Of_l7_run fun K hK => ?_
    have h2 : i < dn := by omega
    simp only [dataN] at hR
    have ih := of_data x h0' h1' first dn n hdn hn hf R h0 k (i + 1) _ (by omega) hR (by rw [setIn_len]; exact hl)
    have hi : i = 0 ∨ i = 1 := by omega
    have hj : first + i < ns.length := by omega
    have hn0 : ¬ (n : Int) = 0 := by omega
    have hget := encN_get (f := tNd) Nd.d hj
    obtain ⟨h01, h02⟩ := h0'
    obtain ⟨h11, h12⟩ := h1'
    have hs := fun v => set_in (v := v) hj
    have hn' : ¬ n = 0 := by omega
    have hfi : first + i < n := by omega
    rcases hi with rfl | rfl
    · have hdd : ddN x 0 = x.d0 := rfl
      have h2' : (0 : Int) < dn := by omega
      rw [hdd, hl] at ih
      simp only [Nat.add_zero] at hs hfi ih
      simp (disch := omega) [h2, h2', tCD, hpO, wrap_i64, encN_len, tNd_wid, hn0, hl, hs, hn', hfi]
      rw [hK]
      simp [tCD, hpO, setIn_len, hl] at ih
      exact ih
    · have hdd : ddN x 1 = x.d1 := rfl
      have h2' : (1 : Int) < dn := by omega
      rw [hdd, hl] at ih
      have hfn : ((first : Int) + 1).toNat = first + 1 := by omega
      have hfi' : (first : Int) + 1 < n := by omega
      simp (disch := omega) [h2, h2', tCD, hpO, wrap_i64, encN_len, tNd_wid, hn0, hl, hs, hn', hfi, hfn, hfi']
      rw [hK]
      simp [tCD, hpO, setIn_len, hl] at ih
      exact ⟨by omega, ih⟩
theorem of_names {Q : AX → St → Prop} (x : CD) (n : Nat) (hn : n ≤ 100) (ns : List Nd) (m : T) (R : List (List UInt8))
    (h0 : Q (.exit 8) ⟨[(1, .t (.ip (tCD x) 0)), (2, .lp 2 0 0), (3, .lp 3 0 0), (9, .t (tI n)), (11, .t (tI n)), (136, .t (tB false))], hpO ns R m []⟩) : ∀ (k i : Nat) (nms : List (List UInt8)), k + i = n → nms ++ (List.range' i k).map nameL = R → nms.length = i →
    run Tryd.prog Γ law03_C_Of_l9 Q ⟨[(1, .t (.ip (tCD x) 0)), (2, .lp 2 0 0), (3, .lp 3 0 0), (9, .t (tI n)), (11, .t (tI i))], hpO ns nms m []⟩
  | 0, i, nms, h, hR, hl => by
    refine law03_C_Of_l9_run fun K hK => ?_
    simp only [List.range'_zero, List.map_nil, List.append_nil] at hR
    subst hR
    have h2 : ¬ i < n := by omega
    have h3 : i = n := by omega
    simp (disch := omega) [h2, tCD, hpO]
    subst h3
    simpa [tCD, hpO] using h0
  | k + 1, i, nms, h, hR, hl => by
    refine law03_C_Of_l9_run fun K hK => ?_
    have h2 : i < n := by omega
    rw [List.range'_succ, List.map_cons] at hR
    have ih := of_names x n hn ns m R h0 k (i + 1) (nms ++ [nameL i]) (by omega) (by rw [← hR]; simp) (by simp; omega)
    have e := name_spec (Γ := Γ) i (by omega)
    have q : enc1 tS nms ++ [[tS (nameL i)]] = enc1 tS (nms ++ [nameL i]) := enc1_snoc
    have ht : (enc1 tS nms).take i = enc1 tS nms := List.take_of_length_le (by simp [enc1]; omega)
    generalize nameL i = nm at *
    have hw : wid 1 [[tS nm]] := by intro e he; simp at he; subst he; rfl
    simp (disch := omega) [h2, tCD, hpO, wrap_i64, hl]
    refine callK_fresh e rfl ?_
    simp only [tS, sV] at q hw
    simp (disch := omega) [tS, sV, wrap_i64, enc1_len, hw, enc1_wid, ht, q, hl]
    rw [hK]
    simp [tCD, hpO, hl] at ih
    exact ⟨by omega, ih⟩

theorem of_outs {Q : AX → St → Prop} (x : CD) (hx : ∀ b ∈ x.outs.l, Byt b) (n : Nat) (hn : 1 ≤ n ∧ n ≤ 100) (ns : List Nd) (nms : List (List UInt8)) (m : T) (R : List Int)
    (h0 : Q (.exit 10) ⟨[(1, .t (.ip (tCD x) 0)), (2, .lp 2 0 0), (3, .lp 3 0 0), (9, .t (tI n)), (12, .t (tI (min x.outs.l.length 3 : Nat))), (154, .t (tB false))], hpO ns nms m R⟩) : ∀ (k i : Nat) (os : List Int), k + i = min x.outs.l.length 3 → os ++ ((x.outs.l.take 3).drop i).map (fun b => b.tmod n) = R → os.length = i →
    run Tryd.prog Γ law03_C_Of_l11 Q ⟨[(1, .t (.ip (tCD x) 0)), (2, .lp 2 0 0), (3, .lp 3 0 0), (9, .t (tI n)), (12, .t (tI i))], hpO ns nms m os⟩
  | 0, i, os, h, hR, hl => by
    refine law03_C_Of_l11_run fun K hK => ?_
    rw [List.drop_of_length_le (by simp; omega)] at hR
    simp only [List.map_nil, List.append_nil] at hR
    subst hR
    have hi : i = min x.outs.l.length 3 := by omega
    by_cases h2 : i < x.outs.l.length
    · have h3 : ¬ (i : Int) < 3 := by omega
      have h3' : ¬ i < 3 := by omega
      simp (disch := omega) [h2, h3, h3', tCD, hpO, enc1_len]
      subst hi
      simpa [tCD, hpO] using h0
    · simp (disch := omega) [h2, tCD, hpO, enc1_len]
      subst hi
      simpa [tCD, hpO] using h0
  | k + 1, i, os, h, hR, hl => by
    refine law03_C_Of_l11_run fun K hK => ?_
    have h2 : i < x.outs.l.length := by omega
    have h3 : i < 3 := by omega
    have h3' : (i : Int) < 3 := by omega
    rw [List.drop_eq_getElem_cons (by simp; omega)] at hR
    simp only [List.map_cons, List.getElem_take] at hR
    have hb := hx _ (List.getElem_mem h2)
    obtain ⟨hb0, hb1⟩ := hb
    have hget := enc1_get (f := tK) 0 h2
    have hg2 : x.outs.l[i]?.getD 0 = x.outs.l[i] := by simp [h2]
    rw [hg2] at hget
    generalize x.outs.l[i] = b at *
    have hn0 : ¬ (n : Int) = 0 := by omega
    have hn0' : ¬ n = 0 := by omega
    have ih := of_outs x hx n hn ns nms m R h0 k (i + 1) (os ++ [b.tmod n]) (by omega) (by rw [← hR]; simp) (by simp; omega)
    have q : enc1 tI os ++ [[tI (b.tmod n)]] = enc1 tI (os ++ [b.tmod n]) := enc1_snoc
    have ht : (enc1 tI os).take i = enc1 tI os := List.take_of_length_le (by simp [enc1]; omega)
    have hw : wid 1 [[tI (b.tmod n)]] := by intro e he; simp at he; subst he; rfl
    simp (disch := omega) [h2, h3, h3', tCD, hpO, wrap_i64, enc1_len, enc1_wid, hget, hn0, hn0', hw, ht, q, hl]
    rw [hK]
    simp [tCD, hpO, hl] at ih
    exact ⟨by omega, ih⟩

def nodes1 (x : CD) : List Nd := List.replicate (x.i.tmod 4 + 1).toNat inpN
def nodes2 (x : CD) : List Nd := nodes1 x ++ List.replicate (x.f.tmod 3).toNat (dffN 0)
def nodes3 (x : CD) : List Nd := if x.mem then nodes2 x ++ [memN 0, memN 1] else nodes2 x
def nodes4 (x : CD) : List Nd := gatesN x.bus (x.gates.l.take 8) (nodes3 x)
def nodes5 (x : CD) : List Nd := dataN x (nodes1 x).length (x.f.tmod 3).toNat 0 (nodes4 x)
def memM (x : CD) (n : Int) : List Mm := if x.mem then [⟨⟨[x.p0.tmod n], some 1, some false⟩, ⟨[x.p1.tmod n, x.p2.tmod n], some 2, some false⟩, x.p3.tmod n⟩] else []
def ofC (x : CD) : Cir :=
  ⟨⟨nodes5 x, none, none⟩, ⟨(List.range' 0 (nodes4 x).length).map nameL, none, none⟩, ⟨memM x (nodes4 x).length, some (if x.mem then 1 else 0), some (!x.mem)⟩, ⟨(x.outs.l.take 3).map (fun b => b.tmod (nodes4 x).length) ++ [((nodes4 x).length : Int) - 1], none, none⟩⟩

structure CDOk (x : CD) : Prop where
  i : Byt x.i
  f : Byt x.f
  d0 : Byt x.d0
  d1 : Byt x.d1
  p0 : Byt x.p0
  p1 : Byt x.p1
  p2 : Byt x.p2
  p3 : Byt x.p3
  gates : ∀ g ∈ x.gates.l, GdOk g
  outs : ∀ b ∈ x.outs.l, Byt b

theorem gatesN_len {bus : Bool} : ∀ {l : List Gd} {ns : List Nd}, (gatesN bus l ns).length = ns.length + l.length
  | [], ns => rfl
  | g :: l, ns => by simp only [gatesN]; rw [gatesN_len]; simp; omega

set_option maxHeartbeats 4000000 in
theorem Of_spec (x : CD) (hx : CDOk x) : PureCalls Tryd.prog Γ 12 [.agg (tCD x)] (.agg (tC (ofC x))) := by
  refine run_pureQ law03_C_Of_chk rfl ?_
  have m4 : 0 ≤ x.i.tmod 4 ∧ x.i.tmod 4 < 4 := tmod_lt (n := 4) hx.i.1 (by omega)
  have m3 : 0 ≤ x.f.tmod 3 ∧ x.f.tmod 3 < 3 := tmod_lt (n := 3) hx.f.1 (by omega)
  have l1 : (nodes1 x).length = (x.i.tmod 4 + 1).toNat := by simp [nodes1]
  have l2 : (nodes2 x).length = (x.i.tmod 4 + 1).toNat + (x.f.tmod 3).toNat := by simp [nodes2, nodes1]
  have l3 : (nodes2 x).length ≤ (nodes3 x).length ∧ (nodes3 x).length ≤ 8 := by unfold nodes3; split <;> simp <;> omega
  have l4 : (nodes4 x).length = (nodes3 x).length + min 8 x.gates.l.length := by unfold nodes4; rw [gatesN_len]; simp
  have l5 : (nodes5 x).length = (nodes4 x).length := dataN_len
  have e1 := fun Q h0 => of_inputs (Γ := Γ) (Q := Q) x hx.i (nodes1 x) h0 (x.i.tmod 4 + 1).toNat 0 [] (by omega) rfl (by simp; omega)
  have e2 := fun Q h0 => of_dffs (Γ := Γ) (Q := Q) x hx.f (nodes1 x).length (nodes2 x) h0 (x.f.tmod 3).toNat 0 (nodes1 x) (by omega) rfl (by omega)
  have e3 := fun Q h0 => of_gates (Γ := Γ) (Q := Q) x hx.gates (nodes1 x).length (x.f.tmod 3) (nodes4 x) h0 (min x.gates.l.length 8) 0 (nodes3 x) (by omega) rfl (by omega) (by omega)
  have e4 := fun Q h0 => of_data (Γ := Γ) (Q := Q) x hx.d0 hx.d1 (nodes1 x).length (x.f.tmod 3).toNat (nodes4 x).length (by omega) (by omega) (by omega) (nodes5 x) h0 (x.f.tmod 3).toNat 0 (nodes4 x) (by omega) rfl rfl
  have e5 := fun Q m h0 => of_names (Γ := Γ) (Q := Q) x (nodes4 x).length (by omega) (nodes5 x) m _ h0 (nodes4 x).length 0 [] (by omega) rfl rfl
  have e6 := fun Q nms m h0 => of_outs (Γ := Γ) (Q := Q) x hx.outs (nodes4 x).length (by omega) (nodes5 x) nms m _ h0 (min x.outs.l.length 3) 0 [] (by omega) rfl rfl
  have hc : ((x.f.tmod 3).toNat : Int) = x.f.tmod 3 := by omega
  rw [hc] at e4
  have hk1 := fun {s : Nat} {e : List (List T)} {n : Nat} (h : e.length ≤ n) => List.take_of_length_le h
  have a33 : ∀ {os : List Int}, enc1 tI os ++ [[tI (((nodes4 x).length : Int) - 1)]] = enc1 tI (os ++ [((nodes4 x).length : Int) - 1]) := enc1_snoc
  have hw1 : wid 1 [[tI (((nodes4 x).length : Int) - 1)]] := by intro e he; simp at he; subst he; rfl
  have hol : ((x.outs.l.take 3).map (fun b => b.tmod ((nodes4 x).length : Int))).length = min 3 x.outs.l.length := by simp
  have hnl : ((List.range' 0 (nodes4 x).length).map nameL).length = (nodes4 x).length := by simp
  simp only [List.nil_append, List.drop_zero] at e5 e6
  generalize hN : nodes4 x = N4 at *
  generalize hO : (x.outs.l.take 3).map (fun b => b.tmod (N4.length : Int)) = O at *
  generalize hNm : (List.range' 0 N4.length).map nameL = Nm at *
  simp (config := { maxSteps := 2000000 }) [law03_C_Of_ic, tCD]
  refine e1 _ ?_
  simp (config := { maxSteps := 2000000 }) (disch := omega) [tCD, hpO, wrap_i64, wrap_u8, encN_len]
  refine e2 _ ?_
  cases hm : x.mem
  · have h3 : nodes3 x = nodes2 x := by simp [nodes3, hm]
    rw [h3] at e3 l3 l4
    simp only [tCD, hpO, hm] at e3 e4 e5 e6
    simp (config := { maxSteps := 2000000 }) (disch := omega) [tCD, hpO, wrap_i64, wrap_u8, encN_len, enc1_len, encN_app, tNd_wid, enc1_wid, hm]
    refine e3 _ ?_
    simp (config := { maxSteps := 2000000 }) (disch := omega) [tCD, hpO, wrap_i64, wrap_u8, encN_len, enc1_len, encN_app, tNd_wid, enc1_wid, hm]
    refine e4 _ ?_
    simp (config := { maxSteps := 2000000 }) (disch := omega) [tCD, hpO, wrap_i64, wrap_u8, encN_len, enc1_len, encN_app, tNd_wid, enc1_wid, hm]
    refine e5 _ _ ?_
    simp (config := { maxSteps := 2000000 }) (disch := omega) [tCD, hpO, wrap_i64, wrap_u8, encN_len, enc1_len, encN_app, tNd_wid, enc1_wid, hm]
    refine e6 _ _ _ ?_
    have ht : (enc1 tI O).take O.length = enc1 tI O := List.take_of_length_le (by simp [enc1])
    simp (config := { maxSteps := 2000000 }) (disch := omega) [tCD, hpO, wrap_i64, wrap_u8, encN_len, enc1_len, encN_app, tNd_wid, enc1_wid, hm, ht, hw1, a33, law03_C_Of_rv, reify, tNil]
    have ht2 : (enc1 tI (O ++ [(N4.length : Int) - 1])).take (O.length + 1) = enc1 tI (O ++ [(N4.length : Int) - 1]) := List.take_of_length_le (by simp [enc1])
    refine ⟨by omega, ?_⟩
    rw [ht2]
    simp [tC, ofC, memM, hm, tNodes, tNames, tMems, tSl, hN, hO, hNm, encN]
  · have h3 : nodes3 x = nodes2 x ++ [memN 0, memN 1] := by simp [nodes3, hm]
    have l3' : (nodes3 x).length = (nodes2 x).length + 2 := by rw [h3]; simp
    have q : encN tNd (nodes2 x) ++ [[tK 15, .sl [] (some 0) (some true), tI 0, tI 0], [tK 15, .sl [] (some 0) (some true), tI 0, tI 1]] = encN tNd (nodes3 x) := by rw [h3]; simp [encN, memN, tNd, tSl, enc1]
    have hw4 : wid 4 [[tK 15, .sl [] (some 0) (some true), tI 0, tI 0], [tK 15, .sl [] (some 0) (some true), tI 0, tI 1]] := by intro e he; simp at he; rcases he with rfl | rfl <;> rfl
    have ht0 : (encN tNd (nodes2 x)).take (nodes2 x).length = encN tNd (nodes2 x) := List.take_of_length_le (by simp [encN])
    have ht : (enc1 tI O).take O.length = enc1 tI O := List.take_of_length_le (by simp [enc1])
    have hn0 : ¬ (N4.length : Int) = 0 := by omega
    have hn0' : ¬ N4 = [] := fun e => by rw [e] at l4; simp at l4; omega
    obtain ⟨b00, b01⟩ := hx.p0
    obtain ⟨b10, b11⟩ := hx.p1
    obtain ⟨b20, b21⟩ := hx.p2
    obtain ⟨b30, b31⟩ := hx.p3
    simp only [tCD, hpO, hm] at e3 e4 e5 e6
    simp (config := { maxSteps := 2000000 }) (disch := omega) [tCD, hpO, wrap_i64, wrap_u8, encN_len, enc1_len, tNd_wid, enc1_wid, hm, ht, ht0, hw1, hw4, q, hn0, hn0', a33, law03_C_Of_rv, reify, tNil]
    refine ⟨by omega, ?_⟩
    rw [← l3']
    refine e3 _ ?_
    simp (config := { maxSteps := 2000000 }) (disch := omega) [tCD, hpO, wrap_i64, wrap_u8, encN_len, enc1_len, tNd_wid, enc1_wid, hm, ht, ht0, hw1, hw4, q, hn0, hn0', a33, law03_C_Of_rv, reify, tNil]
    refine e4 _ ?_
    simp (config := { maxSteps := 2000000 }) (disch := omega) [tCD, hpO, wrap_i64, wrap_u8, encN_len, enc1_len, tNd_wid, enc1_wid, hm, ht, ht0, hw1, hw4, q, hn0, hn0', a33, law03_C_Of_rv, reify, tNil]
    refine e5 _ _ ?_
    simp (config := { maxSteps := 2000000 }) (disch := omega) [tCD, hpO, wrap_i64, wrap_u8, encN_len, enc1_len, tNd_wid, enc1_wid, hm, ht, ht0, hw1, hw4, q, hn0, hn0', a33, law03_C_Of_rv, reify, tNil]
    refine e6 _ _ _ ?_
    simp (config := { maxSteps := 2000000 }) (disch := omega) [tCD, hpO, wrap_i64, wrap_u8, encN_len, enc1_len, tNd_wid, enc1_wid, hm, ht, ht0, hw1, hw4, q, hn0, hn0', a33, law03_C_Of_rv, reify, tNil]
    have ht2 : (enc1 tI (O ++ [(N4.length : Int) - 1])).take (O.length + 1) = enc1 tI (O ++ [(N4.length : Int) - 1]) := List.take_of_length_le (by simp [enc1])
    refine ⟨by omega, ?_⟩
    rw [ht2]
    simp [tC, ofC, memM, hm, tNodes, tNames, tMems, tSl, hN, hO, hNm, encN, tMm, enc1]
end Go.Lg

/- Circuits from plain data are such as the program may be asked about. Conditions: none. -/
set_option linter.unusedSimpArgs false
set_option linter.unusedVariables false
set_option maxRecDepth 100000
namespace Go.Lg
open Go Go.Proofs
variable {Γ : Tables}

def NdOk (x : Nd) : Prop := (0 ≤ x.k ∧ x.k ≤ 255) ∧ x.inn.l.length ≤ 1000000000

theorem gateT_ok {bus : Bool} {g : Gd} {a b d : Int} {t : List Int} (hg : GdOk g) : NdOk (gateT bus g a b d t) := by
  have m13 : 0 ≤ g.k.tmod 13 ∧ g.k.tmod 13 < 13 := tmod_lt (n := 13) hg.1.1 (by omega)
  have m9 : 0 ≤ g.k.tmod 9 ∧ g.k.tmod 9 < 9 := tmod_lt (n := 9) hg.1.1 (by omega)
  have ma : 0 ≤ g.a.tmod 2 ∧ g.a.tmod 2 < 2 := tmod_lt (n := 2) hg.2.1.1 (by omega)
  have hk : 0 ≤ (if bus then g.k.tmod 13 else g.k.tmod 9) ∧ (if bus then g.k.tmod 13 else g.k.tmod 9) < 13 := by cases bus <;> simp <;> omega
  unfold gateT
  simp only
  generalize (if bus = true then g.k.tmod 13 else g.k.tmod 9) = kk at *
  unfold NdOk
  split
  · refine ⟨⟨by simp; omega, by simp; omega⟩, ?_⟩
    simp only; split <;> simp
  split
  · simp
  split
  · simp
  split
  · simp
  split
  · simp only; split <;> simp
  split
  · simp; omega
  · simp

theorem gatesN_ok {bus : Bool} : ∀ {l : List Gd} {ns : List Nd}, (∀ g ∈ l, GdOk g) → (∀ x ∈ ns, NdOk x) → ∀ x ∈ gatesN bus l ns, NdOk x
  | [], ns, _, h => h
  | g :: l, ns, hg, h => by
    simp only [gatesN]
    refine gatesN_ok (fun y hy => hg y (List.mem_cons_of_mem _ hy)) fun y hy => ?_
    rcases List.mem_append.1 hy with hy | hy
    · exact h y hy
    · simp at hy; subst hy; exact gateT_ok (hg g List.mem_cons_self)

theorem setIn_ok {ns : List Nd} {j : Nat} {v : Int} (h : ∀ x ∈ ns, NdOk x) : ∀ x ∈ setIn ns j v, NdOk x := by
  intro x hx
  unfold setIn at hx
  rcases List.mem_or_eq_of_mem_set hx with hx | rfl
  · exact h x hx
  · refine ⟨?_, by simp⟩
    simp only [List.getD_eq_getElem?_getD]
    by_cases hj : j < ns.length
    · simp only [List.getElem?_eq_getElem hj, Option.getD_some]
      exact (h _ (List.getElem_mem hj)).1
    · simp [List.getElem?_eq_none (Nat.le_of_not_lt hj), Nd.d]
theorem dataN_ok {c : CD} {f : Nat} : ∀ {k i : Nat} {ns : List Nd}, (∀ x ∈ ns, NdOk x) → ∀ x ∈ dataN c f k i ns, NdOk x
  | 0, _, _, h => h
  | k + 1, i, ns, h => by simp only [dataN]; exact dataN_ok (setIn_ok h)

theorem nodes5_ok {x : CD} (hx : CDOk x) : ∀ n ∈ nodes5 x, NdOk n := by
  have h1 : ∀ n ∈ nodes1 x, NdOk n := fun n hn => by rw [(List.mem_replicate.1 hn).2]; simp [NdOk, inpN]
  have h2 : ∀ n ∈ nodes2 x, NdOk n := fun n hn => by
    rcases List.mem_append.1 hn with hn | hn
    · exact h1 n hn
    · rw [(List.mem_replicate.1 hn).2]; simp [NdOk, dffN]
  have h3 : ∀ n ∈ nodes3 x, NdOk n := by
    unfold nodes3
    split
    · intro n hn
      rcases List.mem_append.1 hn with hn | hn
      · exact h2 n hn
      · simp at hn; rcases hn with rfl | rfl <;> simp [NdOk, memN]
    · exact h2
  exact dataN_ok (gatesN_ok (fun g hg => hx.gates g (List.mem_of_mem_take hg)) h3)

theorem nodes4_len {x : CD} (hx : CDOk x) : 1 ≤ (nodes4 x).length ∧ (nodes4 x).length ≤ 16 := by
  have m4 : 0 ≤ x.i.tmod 4 ∧ x.i.tmod 4 < 4 := tmod_lt (n := 4) hx.i.1 (by omega)
  have m3 : 0 ≤ x.f.tmod 3 ∧ x.f.tmod 3 < 3 := tmod_lt (n := 3) hx.f.1 (by omega)
  have l2 : (nodes2 x).length = (x.i.tmod 4 + 1).toNat + (x.f.tmod 3).toNat := by simp [nodes2, nodes1]
  have l3 : (nodes2 x).length ≤ (nodes3 x).length ∧ (nodes3 x).length ≤ 8 := by unfold nodes3; split <;> simp <;> omega
  have l4 : (nodes4 x).length = (nodes3 x).length + min 8 x.gates.l.length := by unfold nodes4; rw [gatesN_len]; simp
  omega
theorem nodes5_len {x : CD} (hx : CDOk x) : (nodes5 x).length = (nodes4 x).length := dataN_len

theorem ofC_ok {x : CD} (hx : CDOk x) : COk (ofC x) := by
  have l := nodes4_len hx
  have l5 := nodes5_len hx
  have hn := nodes5_ok hx
  refine ⟨⟨?_, ?_, ?_, ?_, fun n h => (hn n h).1, fun n h => (hn n h).2, ?_⟩, ?_⟩
  · simp only [ofC]; omega
  · simp [ofC]; omega
  · simp only [ofC, memM]; split <;> simp
  · simp [ofC]; omega
  · intro m hm
    simp only [ofC, memM] at hm
    split at hm
    · simp at hm; subst hm; simp
    · cases hm
  · intro s hs b hb
    simp only [ofC] at hs
    obtain ⟨i, hi, rfl⟩ := List.mem_map.1 hs
    have := (List.mem_range'_1.1 hi).2
    have h1 : i / 10 < 10 := by omega
    have h2 : i % 10 < 10 := by omega
    have key : ∀ q : Nat, q < 10 → UInt8.ofNat (48 + q) < 128 := by decide
    simp only [nameL, List.mem_cons, List.not_mem_nil, or_false] at hb
    rcases hb with rfl | rfl | rfl
    · decide
    · exact key _ h1
    · exact key _ h2
end Go.Lg

/- The seat's rows: what their arguments and the listed table give. Conditions: none. -/
set_option linter.unusedSimpArgs false
set_option linter.unusedVariables false
set_option maxRecDepth 100000
namespace Go.Lg
open Go Go.Proofs Go.Proofs.YtgnghiijbegacaaDoor

def G0 (g : Nat) : Option (List T) := if g = 0 then some fanC else none
theorem G0_ok : GOk G0 := rfl

theorem gFan : Tryd.prog.globalNamed "probecard/logic.fanins" = some 0 := by kernel_rfl
theorem gFanTy : (Tryd.prog.globals[0]?).map (·.type) = some 173 := by kernel_rfl
theorem cells3 : Tryd.prog.cellsOf 3 = 1 := by kernel_rfl
theorem cells4 : Tryd.prog.cellsOf 4 = 1 := by kernel_rfl
theorem cells5 : Tryd.prog.cellsOf 5 = 1 := by kernel_rfl
theorem cells22 : Tryd.prog.cellsOf 22 = 2 := by kernel_rfl
theorem cells23 : Tryd.prog.cellsOf 23 = 4 := by kernel_rfl
theorem cells24 : Tryd.prog.cellsOf 24 = 1 := by kernel_rfl
theorem cells25 : Tryd.prog.cellsOf 25 = 1 := by kernel_rfl
theorem cells27 : Tryd.prog.cellsOf 27 = 12 := by kernel_rfl
theorem cells31 : Tryd.prog.cellsOf 31 = 1 := by kernel_rfl
theorem cells98 : Tryd.prog.cellsOf 98 = 3 := by kernel_rfl
theorem cells100 : Tryd.prog.cellsOf 100 = 4 := by kernel_rfl
theorem cells172 : Tryd.prog.cellsOf 172 = 2 := by kernel_rfl
theorem cells173 : Tryd.prog.cellsOf 173 = 32 := by kernel_rfl

theorem fan_cells {W : World} (h : laidMet Tryd.prog [("probecard/logic.fanins", Rows.laid_probecard_logic_fanins)] W) : ∀ j, j < 32 → W.cell? ⟨0, j, none⟩ = (fanL.flatMap fun x => [Value.int .i64 x.1, Value.int .i64 x.2])[j]? := by
  obtain ⟨ps, ⟨g', t', cs, fuel, p, q, hg', ht', hvar, hd, _, _⟩, _⟩ := h
  obtain rfl := Option.some.inj (gFan.symm.trans hg')
  obtain rfl := Option.some.inj (gFanTy.symm.trans ht')
  have hc := pair_cells (l := fanL) Tryd.underlying173 Tryd.underlying172 Tryd.underlying3 cells3 cells172 cells173 hd
  intro j hj
  have := World.var?_cell gFan hvar j
  rw [this, ← hc]
  simp

theorem fan_gl {W : World} (h : laidMet Tryd.prog [("probecard/logic.fanins", Rows.laid_probecard_logic_fanins)] W) : Gl G0 W (Old W) := by
  have hc := fan_cells h
  intro g cs hg
  unfold G0 at hg
  split at hg
  case isFalse => cases hg
  rename_i h0; subst h0
  simp only [Option.some.injEq] at hg
  subst hg
  have hlen : (fanL.flatMap fun x => [Value.int .i64 x.1, Value.int .i64 x.2]).length = 32 := rfl
  have hfc : fanC = (fanL.flatMap fun x => [Value.int .i64 x.1, Value.int .i64 x.2]).map T.v := rfl
  have hfl : fanC.length = 32 := rfl
  refine .ip fanC 0 0 0 (fun j => (fanL.flatMap fun x => [Value.int .i64 x.1, Value.int .i64 x.2])[j]?.getD .nilFunc) ?_ ?_ ?_ ?_
  · intro j hj
    rw [Nat.zero_add, hc j (by omega)]
    rw [List.getElem?_eq_getElem (by omega)]; rfl
  · intro j t ht
    rw [hfc, List.getElem?_map, Option.map_eq_some_iff] at ht
    obtain ⟨v, hv, rfl⟩ := ht
    simp only [hv, Option.getD_some]
    exact .v v
  · intro j t ht
    rw [hfc, List.getElem?_map, Option.map_eq_some_iff] at ht
    obtain ⟨v, hv, rfl⟩ := ht
    have hm := List.mem_of_getElem? hv
    obtain ⟨x, _, hx⟩ := List.mem_flatMap.1 hm
    simp at hx
    rcases hx with rfl | rfl <;> rfl
  · have := hc 0 (by omega)
    rw [List.getElem?_eq_getElem (by omega)] at this
    exact cell_lt this

def U8 (ts : List T) : Prop := ∃ n, ts = [.v (.int .u8 n)] ∧ (Lit.int .u8 n).wf = true
theorem u8_byt {n : Int} (h : (Lit.int .u8 n).wf = true) : Byt n := by
  simp [Lit.wf, IntKind.min, IntKind.max, IntKind.signed, IntKind.bits] at h
  exact ⟨h.1, by omega⟩
theorem rdU8 : Rd Tryd.prog 5 fun ts => ∃ n, ts = [tK n] ∧ Byt n := (rd_int Tryd.underlying5).mono fun ts ⟨n, h, hw⟩ => ⟨n, h, u8_byt hw⟩
theorem rdInt : Rd Tryd.prog 3 fun ts => ∃ n, ts = [tI n] := (rd_int Tryd.underlying3).mono fun ts ⟨n, h, _⟩ => ⟨n, h⟩

theorem list_of {α : Type} {f : α → List T} {Q : α → Prop} : ∀ {es : List (List T)}, (∀ x ∈ es, ∃ a, x = f a ∧ Q a) → ∃ l : List α, es = l.map f ∧ ∀ a ∈ l, Q a
  | [], _ => ⟨[], rfl, by simp⟩
  | e :: es, h => by
    obtain ⟨a, ha, hq⟩ := h e List.mem_cons_self
    obtain ⟨l, hl, hql⟩ := list_of fun x hx => h x (List.mem_cons_of_mem _ hx)
    exact ⟨a :: l, by rw [ha, hl]; rfl, fun b hb => by rcases List.mem_cons.1 hb with rfl | hb; exact hq; exact hql b hb⟩

theorem rdGd : Rd Tryd.prog 100 fun ts => ∃ g, ts = tGd g ∧ GdOk g := by
  refine (rd_struct (l := [(1, fun ts => ∃ n, ts = [tK n] ∧ Byt n), (3, Parts (List.replicate 3 (1, fun ts => ∃ n, ts = [tK n] ∧ Byt n)))]) Tryd.underlying100 cells100 (.cons rfl cells5 rdU8 (.cons rfl cells98 (rd_array Tryd.underlying98 cells5 cells98 rdU8) (.nil _)))).mono fun ts h => ?_
  obtain ⟨_, _, rfl, ⟨k, rfl, hk⟩, _, _, rfl, ⟨_, _, rfl, ⟨a, rfl, ha⟩, _, _, rfl, ⟨b, rfl, hb⟩, _, _, rfl, ⟨d, rfl, hd⟩, rfl⟩, rfl⟩ := h
  exact ⟨⟨k, a, b, d⟩, rfl, hk, ha, hb, hd⟩

theorem rdCD : Rd Tryd.prog 27 fun ts => ∃ x, ts = tCD x ∧ CDOk x := by
  refine (rd_struct (l := [(1, fun ts => ∃ n, ts = [tK n] ∧ Byt n), (1, fun ts => ∃ n, ts = [tK n] ∧ Byt n), (2, Parts (List.replicate 2 (1, fun ts => ∃ n, ts = [tK n] ∧ Byt n))), (1, fun ts => ∃ b, ts = [tB b]), (1, fun ts => ∃ b, ts = [tB b]), (4, Parts (List.replicate 4 (1, fun ts => ∃ n, ts = [tK n] ∧ Byt n))), (1, _), (1, _)]) Tryd.underlying27 cells27
    (.cons rfl cells5 rdU8 (.cons rfl cells5 rdU8 (.cons rfl cells22 (rd_array Tryd.underlying22 cells5 cells22 rdU8) (.cons rfl cells4 (rd_bool Tryd.underlying4) (.cons rfl cells4 (rd_bool Tryd.underlying4) (.cons rfl cells23 (rd_array Tryd.underlying23 cells5 cells23 rdU8)
      (.cons rfl cells24 (rd_slice Tryd.underlying24 cells100 (by decide) rdGd) (.cons rfl cells25 (rd_slice Tryd.underlying25 cells5 (by decide) rdU8) (.nil _)))))))))).mono fun ts h => ?_
  obtain ⟨_, _, rfl, ⟨i, rfl, hi⟩, _, _, rfl, ⟨f, rfl, hf⟩, _, _, rfl, ⟨_, _, rfl, ⟨d0, rfl, hd0⟩, _, _, rfl, ⟨d1, rfl, hd1⟩, rfl⟩, _, _, rfl, ⟨bus, rfl⟩, _, _, rfl, ⟨mem, rfl⟩, _, _, rfl,
    ⟨_, _, rfl, ⟨p0, rfl, h0⟩, _, _, rfl, ⟨p1, rfl, h1⟩, _, _, rfl, ⟨p2, rfl, h2⟩, _, _, rfl, ⟨p3, rfl, h3⟩, rfl⟩, _, _, rfl, ⟨es, cap, nl, rfl, _, hes⟩, _, _, rfl, ⟨os, cap2, nl2, rfl, _, hos⟩, rfl⟩ := h
  obtain ⟨gs, rfl, hgs⟩ := list_of (f := tGd) (Q := GdOk) fun x hx => (hes x hx).1
  obtain ⟨ol, rfl, hol⟩ := list_of (f := fun n => [tK n]) (Q := Byt) fun x hx => (hos x hx).1
  exact ⟨⟨i, f, d0, d1, bus, mem, p0, p1, p2, p3, ⟨gs, cap, nl⟩, ⟨ol, cap2, nl2⟩⟩, rfl, ⟨hi, hf, hd0, hd1, h0, h1, h2, h3, hgs, hol⟩⟩

theorem rdInts : Rd Tryd.prog 31 fun ts => ∃ s : Sl Int, ts = [tSl s] := by
  refine (rd_slice Tryd.underlying31 cells3 (by decide) rdInt).mono fun ts ⟨es, cap, nl, h, _, hes⟩ => ?_
  obtain ⟨l, rfl, _⟩ := list_of (f := fun n : Int => [tI n]) (Q := fun _ => True) fun x hx => by
    obtain ⟨n, hn⟩ := (hes x hx).1
    exact ⟨n, hn, trivial⟩
  exact ⟨⟨l, cap, nl⟩, h⟩
theorem rdChs : Rd Tryd.prog 35 fun ts => ∃ s : Sl (Sl Int), ts = [tChs s] := by
  refine (rd_slice Tryd.underlying35 cells31 (by decide) rdInts).mono fun ts ⟨es, cap, nl, h, _, hes⟩ => ?_
  obtain ⟨l, rfl, _⟩ := list_of (f := fun s : Sl Int => [tSl s]) (Q := fun _ => True) fun x hx => by
    obtain ⟨n, hn⟩ := (hes x hx).1
    exact ⟨n, hn, trivial⟩
  exact ⟨⟨l, cap, nl⟩, h⟩
end Go.Lg

/- The seat's rows: their arguments opened, the witness's world. Conditions: none. -/
set_option linter.unusedSimpArgs false
set_option linter.unusedVariables false
set_option maxRecDepth 100000
namespace Go.Proofs.YtgnghiijbegacaaDoor
open Go Go.Lg Go.ChangeShapes Go.WideShapes Go.ChangeAt Go.RowKit

theorem own : ownKnob Tryd.prog.godebug = none := by kernel_rfl
theorem laidOut : laidOutB Tryd.prog = true := by kernel_rfl

/-- What the rows' list gives. -/
theorem gl_of {W : World} (h : laidMetH Tryd.prog [("probecard/logic.fanins", Rows.laid_probecard_logic_fanins)] W) : Gl G0 W (Old W) := by
  rw [MakeChecks.laidMetH_plain _ _ _ (by kernel_rfl)] at h
  exact fan_gl h

/-- A struct's value, opened. -/
theorem open_cd {H : Type} {enc : TypeId × Value → H} {W : World} {base : Nat} {v : Value} {d : DataW H} {p : List MemPlace} (hval : Value.okWide Tryd.prog W .any base 27 v) (h : DataW.Trod enc Tryd.prog W 0 (fun _ => true) true 27 v d p) : ∃ x, CDOk x ∧ TR W (Old W) (.agg (tCD x)) v := by
  simp only [Value.okWide, Tryd.underlying27] at hval
  obtain ⟨cs, rfl, _, _⟩ := hval
  obtain ⟨fuel, hf⟩ := h
  obtain ⟨ts, ⟨x, rfl, hx⟩, htr, ho⟩ := rdCD H enc W true fuel _ _ hf
  exact ⟨x, hx, tr_agg htr ho⟩

theorem open_chs {H : Type} {enc : TypeId × Value → H} {W : World} {base : Nat} {v : Value} {d : DataW H} {p : List MemPlace} (hval : Value.okWide Tryd.prog W .any base 35 v) (h : DataW.Trod enc Tryd.prog W 0 (fun _ => true) true 35 v d p) : ∃ s : Sl (Sl Int), TR W (Old W) (tChs s) v := by
  obtain ⟨a, len, cap, rfl⟩ := okWide_slice Tryd.underlying35 hval
  obtain ⟨fuel, hf⟩ := h
  obtain ⟨ts, ⟨s, rfl⟩, htr, _⟩ := rdChs H enc W true fuel _ _ hf
  obtain ⟨y, ys, he, hy, _⟩ := htr.cons_inv
  simp [Value.cells] at he
  exact ⟨s, by rw [he.1]; exact hy⟩

/-- A world for the witness: the settled one, the table (block 0) holding what its initialiser lays. -/
noncomputable def laidWorld (os : Os) : World :=
  { World.holding Tryd.prog os ⟨#[], #[], []⟩ with heap := (World.holding Tryd.prog os ⟨#[], #[], []⟩).heap.modify 0 fun
      | .cells _ t frozen => .cells (fanL.flatMap fun x => [Value.int .i64 x.1, Value.int .i64 x.2]).toArray t frozen
      | o => o }
def c0 : Value := .agg #[.int .u8 0, .int .u8 0, .int .u8 0, .int .u8 0, .bool false, .bool false, .int .u8 0, .int .u8 0, .int .u8 0, .int .u8 0, .slice none 0 0, .slice none 0 0]
def d0 {H : Type} : DataW H := .agg [.lit (.int .u8 0), .lit (.int .u8 0), .agg [.lit (.int .u8 0), .lit (.int .u8 0)], .lit (.bool false), .lit (.bool false), .agg [.lit (.int .u8 0), .lit (.int .u8 0), .lit (.int .u8 0), .lit (.int .u8 0)], .nil, .nil]

end Go.Proofs.YtgnghiijbegacaaDoor

/- The functions of the gates over 0, 1, X and Z. Conditions: none. -/
set_option linter.unusedSimpArgs false
set_option linter.unusedVariables false
set_option maxRecDepth 100000
namespace Go.Lg
open Go Go.Proofs

def readV (v : Int) : Int := if v < 2 then v else 2
def cleanV (v : Int) : Int := if 3 < v then 2 else v
def knownV (v : Int) : Bool := decide (v ≤ 1)
def belowV (a b : Int) : Bool := decide (cleanV a = cleanV b ∨ cleanV a = 2)
def notV (v : Int) : Int := if v ≤ 1 then 1 - v else 2
def decL (low high : Int) : Int → List Int → Int
  | out, [] => out
  | out, v :: l => if v = low then low else if v ≠ high then decL low high 2 l else decL low high out l
def xor1 (a b : Int) : Int := if a = b then 0 else 1
def xorL : Int → List Int → Int
  | out, [] => out
  | out, v :: l => if v ≤ 1 then xorL (xor1 out v) l else 2
def muxV (s a b : Int) : Int := if s = 0 then readV a else if s = 1 then readV b else if a = b then readV a else 2
def triV (e d : Int) : Int := if e = 0 then 3 else if e = 1 then readV d else 2
def conflL (l : List Int) : Bool := l.contains 0 && l.contains 1
def unkV (v : Int) : Bool := decide (cleanV v = 2)
def drvV (v : Int) : Bool := decide (v ≠ 3)
def busL (l : List Int) : Int := match l.findIdx? drvV with
  | none => 3
  | some i => if conflL l = true ∨ l.any unkV = true then 2 else l.getD i 0

def evalK (k : Int) (l : List Int) : Int :=
  if k = 1 then 0 else if k = 2 then 1 else if k = 3 then readV (l.getD 0 0) else if k = 4 then notV (l.getD 0 0) else
  if k = 5 then decL 0 1 1 l else if k = 6 then notV (decL 0 1 1 l) else if k = 7 then decL 1 0 0 l else if k = 8 then notV (decL 1 0 0 l) else
  if k = 9 then xorL 0 l else if k = 10 then notV (xorL 0 l) else if k = 11 then muxV (l.getD 0 0) (l.getD 1 0) (l.getD 2 0) else
  if k = 12 then triV (l.getD 0 0) (l.getD 1 0) else if k = 13 then busL l else 2

def widBad (k : Int) (n : Nat) : Bool := decide ((n : Int) < (fan k).1 ∨ (fan k).2 < (n : Int))
def evalL (k : Int) (l : List Int) : Int := if widBad k l.length = true then 2 else evalK k l

theorem evalK_rel (R : Int → Int → Prop) {k : Int} {l m : List Int} (h1 : k = 1 → R (0) (0)) (h2 : k = 2 → R (1) (1)) (h3 : k = 3 → R (readV (l.getD 0 0)) (readV (m.getD 0 0))) (h4 : k = 4 → R (notV (l.getD 0 0)) (notV (m.getD 0 0))) (h5 : k = 5 → R (decL 0 1 1 l) (decL 0 1 1 m)) (h6 : k = 6 → R (notV (decL 0 1 1 l)) (notV (decL 0 1 1 m))) (h7 : k = 7 → R (decL 1 0 0 l) (decL 1 0 0 m)) (h8 : k = 8 → R (notV (decL 1 0 0 l)) (notV (decL 1 0 0 m))) (h9 : k = 9 → R (xorL 0 l) (xorL 0 m)) (h10 : k = 10 → R (notV (xorL 0 l)) (notV (xorL 0 m))) (h11 : k = 11 → R (muxV (l.getD 0 0) (l.getD 1 0) (l.getD 2 0)) (muxV (m.getD 0 0) (m.getD 1 0) (m.getD 2 0))) (h12 : k = 12 → R (triV (l.getD 0 0) (l.getD 1 0)) (triV (m.getD 0 0) (m.getD 1 0))) (h13 : k = 13 → R (busL l) (busL m)) (h0 : k < 1 ∨ 13 < k → R 2 2) : R (evalK k l) (evalK k m) := by
  by_cases e1 : k = 1
  · subst e1; exact h1 rfl
  by_cases e2 : k = 2
  · subst e2; exact h2 rfl
  by_cases e3 : k = 3
  · subst e3; exact h3 rfl
  by_cases e4 : k = 4
  · subst e4; exact h4 rfl
  by_cases e5 : k = 5
  · subst e5; exact h5 rfl
  by_cases e6 : k = 6
  · subst e6; exact h6 rfl
  by_cases e7 : k = 7
  · subst e7; exact h7 rfl
  by_cases e8 : k = 8
  · subst e8; exact h8 rfl
  by_cases e9 : k = 9
  · subst e9; exact h9 rfl
  by_cases e10 : k = 10
  · subst e10; exact h10 rfl
  by_cases e11 : k = 11
  · subst e11; exact h11 rfl
  by_cases e12 : k = 12
  · subst e12; exact h12 rfl
  by_cases e13 : k = 13
  · subst e13; exact h13 rfl
  unfold evalK
  rw [if_neg e1, if_neg e2, if_neg e3, if_neg e4, if_neg e5, if_neg e6, if_neg e7, if_neg e8, if_neg e9, if_neg e10, if_neg e11, if_neg e12, if_neg e13]
  rw [if_neg e1, if_neg e2, if_neg e3, if_neg e4, if_neg e5, if_neg e6, if_neg e7, if_neg e8, if_neg e9, if_neg e10, if_neg e11, if_neg e12, if_neg e13]
  exact h0 (by omega)

/-- A value of a net. -/
def V4 (v : Int) : Prop := 0 ≤ v ∧ v ≤ 3

theorem readV_4 {v : Int} (h : V4 v) : V4 (readV v) := by unfold readV V4 at *; split <;> omega
theorem notV_4 {v : Int} (h : V4 v) : V4 (notV v) := by unfold notV V4 at *; split <;> omega
theorem decL_val {low high : Int} : ∀ {l : List Int} {out : Int}, out = 2 ∨ out = high → decL low high out l = if low ∈ l then low else if out = high ∧ ∀ v ∈ l, v = high then high else 2
  | [], out, h => by
    simp only [decL, List.not_mem_nil, if_false]
    by_cases ho : out = high
    · simp [ho]
    · simp [ho]; omega
  | v :: l, out, h => by
    simp only [decL]
    by_cases h1 : v = low
    · subst h1; simp
    have h1' : ¬ low = v := fun e => h1 e.symm
    by_cases h2 : v = high
    · subst h2
      rw [if_neg h1, if_neg (by simp), decL_val h]
      simp [h1']
    · rw [if_neg h1, if_pos h2, decL_val (.inl rfl)]
      by_cases hl : low ∈ l
      · simp [hl]
      · have : ¬ (out = high ∧ ∀ u ∈ v :: l, u = high) := fun ⟨_, h⟩ => h2 (h v List.mem_cons_self)
        have hlv : ¬ low ∈ v :: l := by simp [h1', hl]
        rw [if_neg hl, if_neg hlv, if_neg this]
        split
        · rename_i h3; exact h3.1.symm
        · rfl

theorem xorL_4 : ∀ {l : List Int} {out : Int}, V4 out → (∀ v ∈ l, V4 v) → V4 (xorL out l)
  | [], out, h, _ => h
  | v :: l, out, h, hl => by
    simp only [xorL]
    split
    · exact xorL_4 (by unfold xor1; split <;> simp [V4]) fun u hu => hl u (List.mem_cons_of_mem _ hu)
    · simp [V4]
theorem getD_4 {l : List Int} (h : ∀ v ∈ l, V4 v) (i : Nat) : V4 (l.getD i 0) := by
  rw [List.getD_eq_getElem?_getD]
  by_cases hi : i < l.length
  · rw [List.getElem?_eq_getElem hi]; exact h _ (List.getElem_mem hi)
  · rw [List.getElem?_eq_none (Nat.le_of_not_lt hi)]; simp [V4]
theorem evalL_4 {k : Int} {l : List Int} (h : ∀ v ∈ l, V4 v) : V4 (evalL k l) := by
  have g := getD_4 h
  have d1 : V4 (decL 0 1 1 l) := by rw [decL_val (.inr rfl)]; split; simp [V4]; split <;> simp [V4]
  have d2 : V4 (decL 1 0 0 l) := by rw [decL_val (.inr rfl)]; split; simp [V4]; split <;> simp [V4]
  have x := xorL_4 (out := 0) (by simp [V4]) h
  unfold evalL
  by_cases hw : widBad k l.length = true
  · rw [if_pos hw]; simp [V4]
  rw [if_neg hw]
  refine evalK_rel (fun a _ => V4 a) (l := l) (m := l) (fun _ => by simp [V4]) (fun _ => by simp [V4]) (fun _ => readV_4 (g 0)) (fun _ => notV_4 (g 0)) (fun _ => d1) (fun _ => notV_4 d1) (fun _ => d2) (fun _ => notV_4 d2) (fun _ => x) (fun _ => notV_4 x) (fun _ => ?_) (fun _ => ?_) (fun _ => ?_) (fun _ => by simp [V4])
  · unfold muxV; split
    · exact readV_4 (g 1)
    split
    · exact readV_4 (g 2)
    split
    · exact readV_4 (g 1)
    · simp [V4]
  · unfold triV; split
    · simp [V4]
    split
    · exact readV_4 (g 1)
    · simp [V4]
  · unfold busL; split
    · simp [V4]
    split
    · simp [V4]
    · exact g _

/-- Below, for values of nets. -/
def Blw (a b : Int) : Prop := a = b ∨ a = 2
def BlwL (l m : List Int) : Prop := l.length = m.length ∧ ∀ i, Blw (l.getD i 0) (m.getD i 0)

theorem Blw.refl (a : Int) : Blw a a := .inl rfl
theorem readV_mono {a b : Int} (h : Blw a b) : Blw (readV a) (readV b) := by
  rcases h with rfl | rfl
  · exact .inl rfl
  · exact .inr (by simp [readV])
theorem notV_mono {a b : Int} (h : Blw a b) : Blw (notV a) (notV b) := by
  rcases h with rfl | rfl
  · exact .inl rfl
  · exact .inr (by simp [notV])
theorem BlwL.cons {a b : Int} {l m : List Int} (h : BlwL (a :: l) (b :: m)) : Blw a b ∧ BlwL l m :=
  ⟨by simpa using h.2 0, by simpa using h.1, fun i => by simpa using h.2 (i + 1)⟩

theorem decL_mono {low high : Int} : ∀ {l m : List Int} {o p : Int}, BlwL l m → Blw o p → o = 2 ∨ o = high → p = 2 ∨ p = high → low ≠ 2 → high ≠ 2 → Blw (decL low high o l) (decL low high p m)
  | [], [], o, p, _, h, _, _, _, _ => h
  | [], _ :: _, _, _, h, _, _, _, _, _ => by have := h.1; simp at this
  | _ :: _, [], _, _, h, _, _, _, _, _ => by have := h.1; simp at this
  | a :: l, b :: m, o, p, h, hop, h1, h2, hl, hh => by
    obtain ⟨hab, hlm⟩ := h.cons
    simp only [decL]
    rcases hab with rfl | rfl
    · split
      · exact .inl rfl
      split
      · exact decL_mono hlm (.inl rfl) (.inl rfl) (.inl rfl) hl hh
      · exact decL_mono hlm hop h1 h2 hl hh
    · have e1 : ¬ (2 : Int) = low := fun e => hl e.symm
      have e2 : ¬ (2 : Int) = high := fun e => hh e.symm
      rw [if_neg e1, if_pos e2]
      split
      · rename_i hb
        rw [decL_val (.inl rfl)]
        split
        · exact .inl rfl
        · rename_i hm
          rw [if_neg (by rintro ⟨he, _⟩; exact e2 he)]
          exact .inr rfl
      split
      · exact decL_mono hlm (.inl rfl) (.inl rfl) (.inl rfl) hl hh
      · exact decL_mono hlm (.inr rfl) (.inl rfl) h2 hl hh

theorem xorL_mono : ∀ {l m : List Int} {o : Int}, BlwL l m → Blw (xorL o l) (xorL o m)
  | [], [], o, _ => .inl rfl
  | [], _ :: _, _, h => by have := h.1; simp at this
  | _ :: _, [], _, h => by have := h.1; simp at this
  | a :: l, b :: m, o, h => by
    obtain ⟨hab, hlm⟩ := h.cons
    simp only [xorL]
    rcases hab with rfl | rfl
    · split
      · exact xorL_mono hlm
      · exact .inl rfl
    · exact .inr (by simp)

/-- Lists without X that are below others are equal to these. -/
theorem BlwL.eq : ∀ {l m : List Int}, BlwL l m → (2 : Int) ∉ l → l = m
  | [], [], _, _ => rfl
  | [], _ :: _, h, _ => by have := h.1; simp at this
  | _ :: _, [], h, _ => by have := h.1; simp at this
  | a :: l, b :: m, h, h2 => by
    obtain ⟨hab, hlm⟩ := h.cons
    rcases hab with rfl | rfl
    · rw [BlwL.eq hlm fun hm => h2 (List.mem_cons_of_mem _ hm)]
    · exact absurd List.mem_cons_self h2

theorem busL_mono {l m : List Int} (h : BlwL l m) : Blw (busL l) (busL m) := by
  by_cases h2 : (2 : Int) ∈ l
  · right
    unfold busL
    split
    · rename_i hn
      rw [List.findIdx?_eq_none_iff] at hn
      have := hn 2 h2
      simp [drvV] at this
    · have : l.any unkV = true := List.any_eq_true.2 ⟨2, h2, by simp [unkV, cleanV]⟩
      rw [if_pos (.inr this)]
  · rw [h.eq h2]; exact .inl rfl

theorem evalL_mono {k : Int} {l m : List Int} (h : BlwL l m) : Blw (evalL k l) (evalL k m) := by
  have d1 : Blw (decL 0 1 1 l) (decL 0 1 1 m) := decL_mono h (.inl rfl) (.inr rfl) (.inr rfl) (by omega) (by omega)
  have d2 : Blw (decL 1 0 0 l) (decL 1 0 0 m) := decL_mono h (.inl rfl) (.inr rfl) (.inr rfl) (by omega) (by omega)
  have x := xorL_mono (o := 0) h
  have g := h.2
  unfold evalL
  rw [h.1]
  by_cases hw : widBad k m.length = true
  · rw [if_pos hw, if_pos hw]; exact .inl rfl
  rw [if_neg hw, if_neg hw]
  refine evalK_rel Blw (fun _ => .inl rfl) (fun _ => .inl rfl) (fun _ => readV_mono (g 0)) (fun _ => notV_mono (g 0)) (fun _ => d1) (fun _ => notV_mono d1) (fun _ => d2) (fun _ => notV_mono d2) (fun _ => x) (fun _ => notV_mono x) (fun _ => ?_) (fun _ => ?_) (fun _ => busL_mono h) (fun _ => .inl rfl)
  · have g0 := g 0; have g1 := g 1; have g2 := g 2
    generalize l.getD 0 0 = a at *; generalize l.getD 1 0 = b at *; generalize l.getD 2 0 = c at *
    generalize m.getD 0 0 = a' at *; generalize m.getD 1 0 = b' at *; generalize m.getD 2 0 = c' at *
    unfold muxV
    rcases g0 with rfl | rfl
    · split
      · exact readV_mono g1
      split
      · exact readV_mono g2
      split
      · rename_i hbc; subst hbc
        rcases g1 with rfl | rfl
        · rcases g2 with rfl | rfl
          · simp [Blw.refl]
          · exact .inr (by simp [readV])
        · exact .inr (by simp [readV])
      · exact .inr rfl
    · rw [if_neg (by omega), if_neg (by omega)]
      split
      · rename_i hbc; subst hbc
        rcases g1 with rfl | rfl
        · rcases g2 with rfl | rfl
          · left; simp
          · exact .inr (by simp [readV])
        · exact .inr (by simp [readV])
      · exact .inr rfl
  · have g0 := g 0; have g1 := g 1
    generalize l.getD 0 0 = a at *; generalize l.getD 1 0 = b at *
    generalize m.getD 0 0 = a' at *; generalize m.getD 1 0 = b' at *
    unfold triV
    rcases g0 with rfl | rfl
    · split
      · exact .inl rfl
      split
      · exact readV_mono g1
      · exact .inl rfl
    · exact .inr (by simp)

/-- Known inputs give a known output, but for Tri and Bus. -/
theorem evalL_known {k : Int} {l : List Int} (hk : 1 ≤ k ∧ k ≤ 11) (hn : (fan k).1 ≤ (l.length : Int) ∧ (l.length : Int) ≤ (fan k).2) (h : ∀ v ∈ l, 0 ≤ v ∧ v ≤ 1) : 0 ≤ evalL k l ∧ evalL k l ≤ 1 := by
  have g : ∀ i, 0 ≤ l.getD i 0 ∧ l.getD i 0 ≤ 1 := fun i => by
    rw [List.getD_eq_getElem?_getD]
    by_cases hi : i < l.length
    · rw [List.getElem?_eq_getElem hi]; exact h _ (List.getElem_mem hi)
    · rw [List.getElem?_eq_none (Nat.le_of_not_lt hi)]; simp
  have r : ∀ {v : Int}, 0 ≤ v ∧ v ≤ 1 → 0 ≤ readV v ∧ readV v ≤ 1 := fun h => by unfold readV; split <;> omega
  have n : ∀ {v : Int}, 0 ≤ v ∧ v ≤ 1 → 0 ≤ notV v ∧ notV v ≤ 1 := fun h => by unfold notV; split <;> omega
  have d : ∀ {lo hi : Int}, (lo = 0 ∧ hi = 1 ∨ lo = 1 ∧ hi = 0) → 0 ≤ decL lo hi hi l ∧ decL lo hi hi l ≤ 1 := fun {lo hi} hc => by
    rw [decL_val (.inr rfl)]
    split
    · omega
    · rename_i hl
      have h3 : hi = hi ∧ ∀ v ∈ l, v = hi := ⟨rfl, fun v hv => by
        have := h v hv
        have hne : ¬ v = lo := fun e => hl (e ▸ hv)
        omega⟩
      rw [if_pos h3]
      omega
  have x : ∀ {l : List Int} {o : Int}, (0 ≤ o ∧ o ≤ 1) → (∀ v ∈ l, 0 ≤ v ∧ v ≤ 1) → 0 ≤ xorL o l ∧ xorL o l ≤ 1 := by
    intro l
    induction l with
    | nil => intro o ho _; exact ho
    | cons v l ih =>
      intro o ho hl
      simp only [xorL]
      rw [if_pos (hl v List.mem_cons_self).2]
      exact ih (by unfold xor1; split <;> omega) fun u hu => hl u (List.mem_cons_of_mem _ hu)
  unfold evalL
  rw [if_neg (by unfold widBad; simp only [decide_eq_true_eq]; omega)]
  have k1 := hk.1
  have k2 := hk.2
  refine evalK_rel (fun a _ => 0 ≤ a ∧ a ≤ 1) (l := l) (m := l) (fun _ => by omega) (fun _ => by omega) (fun _ => r (g 0)) (fun _ => n (g 0)) (fun _ => d (.inl ⟨rfl, rfl⟩)) (fun _ => n (d (.inl ⟨rfl, rfl⟩))) (fun _ => d (.inr ⟨rfl, rfl⟩)) (fun _ => n (d (.inr ⟨rfl, rfl⟩))) (fun _ => x (by omega) h) (fun _ => n (x (by omega) h)) (fun _ => ?_) (fun _ => by omega) (fun _ => by omega) (fun _ => by omega)
  · unfold muxV
    have := g 0
    split
    · exact r (g 1)
    split
    · exact r (g 2)
    · omega
end Go.Lg

/- A circuit whose gates read earlier nodes has levels. Conditions: none. -/
set_option linter.unusedSimpArgs false
set_option linter.unusedVariables false
set_option maxRecDepth 100000
namespace Go.Lg
open Go Go.Proofs

def cntR (i : Nat) (r : Row) : Nat := r.countP fun p => decide (p.1 = (i : Int))
theorem cntR_app {i : Nat} {r q : Row} : cntR i (r ++ q) = cntR i r + cntR i q := by simp [cntR]

theorem addRow_cnt {rows : List Row} {n m i : Nat} {p : Int × Int} (hn : n < rows.length) : cntR i ((addRow rows n p).getD m []) = cntR i (rows.getD m []) + if m = n ∧ p.1 = (i : Int) then 1 else 0 := by
  unfold addRow
  simp only [List.getD_eq_getElem?_getD, List.getElem?_set]
  by_cases h : n = m
  · subst h
    simp only [hn, if_true, Option.getD_some, cntR_app, true_and]
    congr 1
    by_cases h2 : p.1 = (i : Int) <;> simp [cntR, h2]
  · have h' : ¬ m = n := fun e => h e.symm
    simp [h, h']

theorem fanPins_cnt (c : Cir) (j i m : Nat) : ∀ (l : List Int) (k : Nat) (rows : List Row), rows.length = c.nodes.l.length → (∀ p ∈ l, 0 ≤ p ∧ p < c.nodes.l.length) → (fanPins c j l k rows).length = c.nodes.l.length ∧ cntR i ((fanPins c j l k rows).getD m []) = cntR i (rows.getD m []) + if j = i then l.count (m : Int) else 0
  | [], k, rows, hl, _ => ⟨hl, by simp [fanPins]⟩
  | n :: l, k, rows, hl, hp => by
    have hn := hp n List.mem_cons_self
    have ho : outP c n = false := by simp [outP]; omega
    simp only [fanPins, ho, Bool.false_eq_true, if_false]
    obtain ⟨h1, h2⟩ := fanPins_cnt c j i m l (k + 1) (addRow rows n.toNat (j, k)) (by rw [addRow_len]; exact hl) (fun p h => hp p (List.mem_cons_of_mem _ h))
    refine ⟨h1, ?_⟩
    rw [h2, addRow_cnt (by omega)]
    by_cases hji : j = i
    · subst hji
      simp only [and_true, if_true, List.count_cons]
      by_cases hm : (m : Int) = n
      · have h5 : m = n.toNat := by omega
        have h6 : (n == (m : Int)) = true := by rw [hm]; simp
        rw [if_pos h5, h6]
        simp only [if_true]; omega
      · have h5 : ¬ m = n.toNat := by omega
        have h6 : (n == (m : Int)) = false := by simp; omega
        rw [if_neg h5, h6]
        simp only [Bool.false_eq_true, if_false]; omega
    · have : ¬ ((j : Int) = i) := by omega
      simp [hji, this]

theorem fanNodes_cnt (c : Cir) (i m : Nat) : ∀ (l : List Nd) (s : Nat) (rows : List Row), rows.length = c.nodes.l.length → (∀ x ∈ l, ∀ p ∈ x.inn.l, 0 ≤ p ∧ p < c.nodes.l.length) →
    cntR i ((fanNodes c l s rows).getD m []) = cntR i (rows.getD m []) + if s ≤ i then ((l.map fun x => x.inn.l.count (m : Int)).getD (i - s) 0) else 0
  | [], s, rows, hl, _ => by simp [fanNodes]
  | x :: l, s, rows, hl, hp => by
    obtain ⟨h1, h2⟩ := fanPins_cnt c s i m x.inn.l 0 rows hl (hp x List.mem_cons_self)
    simp only [fanNodes]
    rw [fanNodes_cnt c i m l (s + 1) _ h1 (fun y hy => hp y (List.mem_cons_of_mem _ hy)), h2]
    by_cases hsi : s = i
    · subst hsi
      have : ¬ s + 1 ≤ s := by omega
      simp [this]
    · by_cases hlt : s ≤ i
      · have e : i - s = (i - (s + 1)) + 1 := by omega
        have h3 : s + 1 ≤ i := by omega
        simp [hsi, hlt, h3, e]
      · have h3 : ¬ s + 1 ≤ i := by omega
        simp [hsi, hlt, h3]

def innAt (c : Cir) (i : Nat) : List Int := (c.nodes.l.getD i Nd.d).inn.l
theorem rowOf_cnt (c : Cir) (hp : ∀ x ∈ c.nodes.l, ∀ p ∈ x.inn.l, 0 ≤ p ∧ p < c.nodes.l.length) (i m : Nat) (hi : i < c.nodes.l.length) : cntR i (rowOf c m) = (innAt c i).count (m : Int) := by
  unfold rowOf fanRows
  rw [fanNodes_cnt c i m c.nodes.l 0 _ (by simp) hp]
  have h0 : cntR i ((List.replicate c.nodes.l.length ([] : Row)).getD m []) = 0 := by
    simp only [List.getD_eq_getElem?_getD, List.getElem?_replicate]
    split <;> rfl
  rw [h0]
  simp [innAt, hi]

theorem left_at (c : Cir) {i : Nat} (hi : i < c.nodes.l.length) : (c.nodes.l.map leftOf).getD i 0 = if combB (kindAt c i) then ((innAt c i).length : Int) else 0 := by
  simp [kindAt, innAt, leftOf, hi]

theorem foldL_inv {N M : Nat} {c : Cir} {n : Nat} : ∀ {r : Row} {s : LS}, s.left.length = N → (∀ p ∈ r, ∃ i : Nat, i < N ∧ p.1 = i) → (∀ i : Nat, i < N → s.left.getD i 0 ≤ 0 → (i : Int) ∈ s.rdy) →
    (∃ e, (r.foldl (stepL c n) s).rdy = s.rdy ++ e) ∧ (r.foldl (stepL c n) s).left.length = N ∧ (∀ i : Nat, i < N → (r.foldl (stepL c n) s).left.getD i 0 = s.left.getD i 0 - if combB (kindAt c i) then (cntR i r : Int) else 0) ∧ (∀ i : Nat, i < N → (r.foldl (stepL c n) s).left.getD i 0 ≤ 0 → (i : Int) ∈ (r.foldl (stepL c n) s).rdy)
  | [], s, hl, _, hb => ⟨⟨[], by simp⟩, hl, fun i hi => by simp [cntR], hb⟩
  | (p1, p2) :: r, s, hl, hr, hb => by
    obtain ⟨j, hj, he⟩ := hr (p1, p2) List.mem_cons_self
    simp only at he; subst he
    have key : (∃ e, (stepL c n s (j, p2)).rdy = s.rdy ++ e) ∧ (stepL c n s (j, p2)).left.length = N ∧ (∀ i : Nat, i < N → (stepL c n s (j, p2)).left.getD i 0 = s.left.getD i 0 - if combB (kindAt c i) then (if j = i then 1 else 0 : Int) else 0) ∧ (∀ i : Nat, i < N → (stepL c n s (j, p2)).left.getD i 0 ≤ 0 → (i : Int) ∈ (stepL c n s (j, p2)).rdy) := by
      unfold stepL
      simp only [Int.toNat_natCast]
      by_cases hc : combB (kindAt c j) = true
      · simp only [hc, if_true]
        refine ⟨?_, by simp [hl], fun i hi => ?_, fun i hi h0 => ?_⟩
        · split
          · exact ⟨_, rfl⟩
          · exact ⟨[], by simp⟩
        · rw [getD_set (by omega)]
          by_cases hij : i = j
          · subst hij; simp [hc]
          · have : ¬ j = i := fun e => hij e.symm
            simp [hij, this]
        · rw [getD_set (by omega)] at h0
          by_cases hij : i = j
          · subst hij
            simp only [if_true] at h0
            by_cases h1 : s.left.getD i 0 - 1 = 0
            · rw [if_pos h1]; simp
            · rw [if_neg h1]
              exact hb i hi (by omega)
          · simp only [hij, if_false] at h0
            have := hb i hi h0
            split
            · exact List.mem_append_left _ this
            · exact this
      · simp only [hc]
        refine ⟨⟨[], by simp⟩, hl, fun i hi => ?_, hb⟩
        by_cases hij : j = i
        · subst hij; simp [hc]
        · simp [hij]
    obtain ⟨⟨e1, h1⟩, h2, h3, h4⟩ := key
    obtain ⟨⟨e2, g1⟩, g2, g3, g4⟩ := foldL_inv (M := M) (n := n) (r := r) h2 (fun q hq => hr q (List.mem_cons_of_mem _ hq)) h4
    simp only [List.foldl_cons]
    refine ⟨⟨e1 ++ e2, by rw [g1, h1, List.append_assoc]⟩, g2, fun i hi => ?_, g4⟩
    rw [g3 i hi, h3 i hi]
    by_cases hc : combB (kindAt c i) = true
    · simp only [hc, if_true]
      have : cntR i ((↑j, p2) :: r) = cntR i r + if j = i then 1 else 0 := by
        by_cases hij : j = i
        · subst hij; simp [cntR]
        · have : ¬ ((j : Int) = i) := by omega
          simp [cntR, hij, this]
      rw [this]
      split <;> omega
    · simp [hc]

structure JI (c : Cir) (d : Nat) (s : LS) : Prop where
  li : ∃ M, LI c.nodes.l.length M s
  le : d ≤ s.rdy.length
  a : ∀ i : Nat, i < c.nodes.l.length → s.left.getD i 0 = (c.nodes.l.map leftOf).getD i 0 - if combB (kindAt c i) then (((s.rdy.take d).map fun x => (innAt c i).count x).sum : Int) else 0
  b : ∀ i : Nat, i < c.nodes.l.length → s.left.getD i 0 ≤ 0 → (i : Int) ∈ s.rdy

theorem JI.next {c : Cir} (hp : ∀ x ∈ c.nodes.l, ∀ p ∈ x.inn.l, 0 ≤ p ∧ p < c.nodes.l.length) {d : Nat} {s : LS} (h : JI c d s) (hd : d < s.rdy.length) : JI c (d + 1) ((rowOf c (s.rdy.getD d 0).toNat).foldl (stepL c (s.rdy.getD d 0).toNat) s) := by
  obtain ⟨M, hli⟩ := h.li
  have hg : s.rdy.getD d 0 = s.rdy[d] := by simp [hd]
  rw [hg]
  obtain ⟨n, hn, he, _⟩ := hli.rd _ (List.getElem_mem hd)
  rw [he]
  simp only [Int.toNat_natCast]
  have hr : ∀ p ∈ rowOf c n, ∃ i : Nat, i < c.nodes.l.length ∧ p.1 = i := by
    intro p hpp
    have hl := fanRows_len c
    have e : rowOf c n = (fanRows c)[n]'(by omega) := by simp [rowOf, List.getD, List.getElem?_eq_getElem (show n < (fanRows c).length by omega)]
    rw [e] at hpp
    exact fanRows_in c _ (List.getElem_mem _) p hpp
  obtain ⟨⟨e, h1⟩, h2, h3, h4⟩ := foldL_inv (M := M) (c := c) (n := n) (r := rowOf c n) hli.ll hr h.b
  refine ⟨⟨_, hli.fold hr⟩, by rw [h1]; simp; omega, fun i hi => ?_, h4⟩
  rw [h3 i hi, h.a i hi, h1]
  by_cases hc : combB (kindAt c i) = true
  · simp only [hc, if_true]
    have ht : (s.rdy ++ e).take (d + 1) = s.rdy.take d ++ [(n : Int)] := by
      rw [List.take_append_of_le_length (by omega), List.take_add_one, List.getElem?_eq_getElem hd, he]
      rfl
    rw [ht, rowOf_cnt c hp i n hi]
    simp
    omega
  · simp [hc]

theorem main_end {c : Cir} (hp : ∀ x ∈ c.nodes.l, ∀ p ∈ x.inn.l, 0 ≤ p ∧ p < c.nodes.l.length) : ∀ (f d : Nat) (s : LS), JI c d s → c.nodes.l.length < f + d → JI c (mainL c f d s).1 (mainL c f d s).2 ∧ (mainL c f d s).2.rdy.length ≤ (mainL c f d s).1
  | 0, d, s, h, hf => by
    obtain ⟨M, hli⟩ := h.li
    have := hli.len
    exact ⟨h, by simp only [mainL]; omega⟩
  | f + 1, d, s, h, hf => by
    simp only [mainL]
    split
    · rename_i hd
      exact main_end hp f (d + 1) _ (h.next hp hd) (by omega)
    · exact ⟨h, by simp only; omega⟩

theorem sum_count : ∀ (L R : List Int), (∀ p ∈ L, p ∈ R) → L.length ≤ (R.map fun x => L.count x).sum
  | [], R, _ => by simp
  | p :: L, R, h => by
    have ih := sum_count L R fun q hq => h q (List.mem_cons_of_mem _ hq)
    have hpR := h p List.mem_cons_self
    have key : ∀ R : List Int, (R.map fun x => (p :: L).count x).sum = (R.map fun x => L.count x).sum + R.count p := by
      intro R
      induction R with
      | nil => rfl
      | cons a R ihR =>
        simp only [List.map_cons, List.sum_cons]
        rw [ihR, List.count_cons, List.count_cons]
        by_cases hpa : p = a
        · subst hpa; simp only [BEq.rfl, if_true]; omega
        · have h1 : (p == a) = false := by simpa using hpa
          have h2 : (a == p) = false := by simpa using fun e => hpa e.symm
          rw [h1, h2]; simp only [Bool.false_eq_true, if_false]; omega
    rw [key]
    have := List.count_pos_iff.2 hpR
    simp only [List.length_cons]; omega

theorem rdyFrom_all : ∀ (l : List Nd) (s i : Nat), s ≤ i → i < s + l.length → (l.map leftOf).getD (i - s) 0 ≤ 0 → (i : Int) ∈ rdyFrom l s
  | [], s, i, h1, h2, _ => by simp at h2; omega
  | x :: l, s, i, h1, h2, h3 => by
    simp only [List.length_cons] at h2
    by_cases hsi : i = s
    · subst hsi
      simp only [Nat.sub_self, List.map_cons, List.getD_cons_zero] at h3
      have h4 : 0 ≤ leftOf x := by unfold leftOf; split <;> omega
      have h5 : leftOf x = 0 := by omega
      simp [rdyFrom, h5]
    · have e : i - s = (i - (s + 1)) + 1 := by omega
      rw [e, List.map_cons, List.getD_cons_succ] at h3
      have := rdyFrom_all l (s + 1) i (by omega) (by omega) h3
      simp only [rdyFrom]
      split
      · exact List.mem_cons_of_mem _ this
      · exact this

theorem levels_done (c : Cir) (h16 : ∀ x ∈ c.nodes.l, x.inn.l.length ≤ 16) (hp : ∀ x ∈ c.nodes.l, ∀ p ∈ x.inn.l, 0 ≤ p ∧ p < c.nodes.l.length) (ht : ∀ i : Nat, i < c.nodes.l.length → combB (kindAt c i) = true → ∀ p ∈ innAt c i, p < i) : ¬ (endL c).1 < c.nodes.l.length := by
  have h0 : JI c 0 (initL c) := by
    refine ⟨⟨0, ?_⟩, by simp, fun i hi => ?_, fun i hi h => ?_⟩
    · obtain ⟨r1, r2⟩ := rdyFrom_in c.nodes.l 0
      refine ⟨by simp [initL], by simp [initL], ?_, r2, fun i => ?_, fun i => ?_⟩
      · intro j hj
        obtain ⟨a, _, h2, h3, h4⟩ := r1 j hj
        exact ⟨a, by omega, h3, by simp only [initL]; simp only [Nat.sub_zero] at h4; omega⟩
      · simp only [initL, List.getD_eq_getElem?_getD, List.getElem?_replicate]
        split <;> simp
      · simp only [initL]
        by_cases hi : i < c.nodes.l.length
        · have := h16 _ (List.getElem_mem hi)
          simp [hi, leftOf]
          split <;> omega
        · simp [hi]
    · simp [initL]
    · simp only [initL] at h
      exact rdyFrom_all c.nodes.l 0 i (by omega) (by omega) (by simpa using h)
  obtain ⟨hJ, hle⟩ := main_end hp (c.nodes.l.length + 1) 0 (initL c) h0 (by omega)
  show ¬ (mainL c (c.nodes.l.length + 1) 0 (initL c)).1 < c.nodes.l.length
  generalize (mainL c (c.nodes.l.length + 1) 0 (initL c)).1 = d at *
  generalize (mainL c (c.nodes.l.length + 1) 0 (initL c)).2 = s at *
  have all : ∀ i : Nat, i < c.nodes.l.length → (i : Int) ∈ s.rdy := by
    intro i
    induction i using Nat.strongRecOn with
    | ind i ih =>
      intro hi
      refine hJ.b i hi ?_
      rw [hJ.a i hi, left_at c hi]
      by_cases hc : combB (kindAt c i) = true
      · simp only [hc, if_true]
        rw [List.take_of_length_le hle]
        have hm : innAt c i ∈ c.nodes.l.map fun x => x.inn.l := by
          simp only [innAt, List.getD_eq_getElem?_getD, List.getElem?_eq_getElem hi, Option.getD_some]
          exact List.mem_map_of_mem (List.getElem_mem hi)
        obtain ⟨y, hy, hye⟩ := List.mem_map.1 hm
        have := sum_count (innAt c i) s.rdy fun p hpp => by
          have h1 := ht i hi hc p hpp
          have h2 := (hp y hy p (by rw [hye]; exact hpp)).1
          obtain ⟨j, rfl⟩ : ∃ j : Nat, p = j := ⟨p.toNat, by omega⟩
          exact ih j (by omega) (by omega)
        omega
      · simp [hc]
  have hnd : ((List.range c.nodes.l.length).map fun i : Nat => (i : Int)).Nodup := by
    rw [List.nodup_iff_pairwise_ne, List.pairwise_map]
    exact (List.nodup_iff_pairwise_ne.1 List.nodup_range).imp fun h e => h (by omega)
  have hsub : ((List.range c.nodes.l.length).map fun i : Nat => (i : Int)) ⊆ s.rdy := by
    intro x hx
    obtain ⟨i, hi, rfl⟩ := List.mem_map.1 hx
    exact all i (List.mem_range.1 hi)
  have := List.Nodup.length_le_of_subset hnd hsub
  simp at this
  omega
end Go.Lg

/- Levels grow along the pins of gates. Conditions: none. -/
set_option linter.unusedSimpArgs false
set_option linter.unusedVariables false
set_option maxRecDepth 100000
namespace Go.Lg
open Go Go.Proofs

theorem sum_count_cons (p : Int) (L : List Int) : ∀ R : List Int, (R.map fun x => (p :: L).count x).sum = (R.map fun x => L.count x).sum + R.count p
  | [] => rfl
  | a :: R => by
    simp only [List.map_cons, List.sum_cons]
    rw [sum_count_cons p L R, List.count_cons, List.count_cons]
    by_cases hpa : p = a
    · subst hpa; simp only [BEq.rfl, if_true]; omega
    · have h1 : (p == a) = false := by simpa using hpa
      have h2 : (a == p) = false := by simpa using fun e => hpa e.symm
      rw [h1, h2]; simp only [Bool.false_eq_true, if_false]; omega
theorem sum_count_le : ∀ (L R : List Int), R.Nodup → (R.map fun x => L.count x).sum ≤ L.length
  | [], R, _ => by
    have : ∀ R : List Int, (R.map fun x => ([] : List Int).count x).sum = 0 := by
      intro R
      induction R with
      | nil => rfl
      | cons a R ih => rw [List.map_cons, List.sum_cons, ih, List.count_nil]
    rw [this]; omega
  | p :: L, R, h => by
    have ih := sum_count_le L R h
    have h1 := List.nodup_iff_count.1 h p
    rw [sum_count_cons]
    simp only [List.length_cons]; omega

theorem foldO {N n : Nat} {c : Cir} : ∀ {r : Row} {s : LS}, s.out.length = N → s.left.length = N → (∀ p ∈ r, ∃ i : Nat, i < N ∧ p.1 = i) → (∀ i : Nat, i < N → combB (kindAt c i) = true → (cntR i r : Int) ≤ s.left.getD i 0) → s.left.getD n 0 ≤ 0 →
    (∀ i : Nat, i < N → s.left.getD i 0 ≤ 0 → (r.foldl (stepL c n) s).out.getD i 0 = s.out.getD i 0) ∧ (∀ i : Nat, i < N → s.out.getD i 0 ≤ (r.foldl (stepL c n) s).out.getD i 0) ∧ (∀ i : Nat, i < N → combB (kindAt c i) = true → 0 < cntR i r → s.out.getD n 0 + 1 ≤ (r.foldl (stepL c n) s).out.getD i 0)
  | [], s, ho, hl, _, _, _ => ⟨fun _ _ _ => rfl, fun _ _ => Int.le_refl _, fun i _ _ h => by simp [cntR] at h⟩
  | (p1, p2) :: r, s, ho, hl, hr, hc, hn => by
    obtain ⟨j, hj, he⟩ := hr (p1, p2) List.mem_cons_self
    simp only at he; subst he
    have cnt : ∀ i : Nat, cntR i ((↑j, p2) :: r) = cntR i r + if j = i then 1 else 0 := fun i => by
      by_cases hij : j = i
      · subst hij; simp [cntR]
      · have : ¬ ((j : Int) = i) := by omega
        simp [cntR, hij, this]
    simp only [List.foldl_cons]
    by_cases hcj : combB (kindAt c j) = true
    case neg =>
      have hs : stepL c n s (↑j, p2) = s := by unfold stepL; simp [hcj]
      rw [hs]
      obtain ⟨a1, a2, a3⟩ := foldO (n := n) (c := c) (r := r) ho hl (fun p hp => hr p (List.mem_cons_of_mem _ hp)) (fun i hi hci => by have := hc i hi hci; rw [cnt] at this; omega) hn
      refine ⟨a1, a2, fun i hi hci h => a3 i hi hci ?_⟩
      rw [cnt] at h
      have : ¬ j = i := fun e => hcj (e ▸ hci)
      simpa [this] using h
    have hj1 := hc j hj hcj
    rw [cnt, if_pos rfl] at hj1
    have hnj : ¬ n = j := fun e => by subst e; omega
    have so : ∀ i : Nat, (stepL c n s (↑j, p2)).out.getD i 0 = if i = j then max (s.out.getD j 0) (s.out.getD n 0 + 1) else s.out.getD i 0 := fun i => by
      unfold stepL
      simp only [Int.toNat_natCast, hcj, if_true]
      rw [getD_set (by omega)]
    have sl : ∀ i : Nat, (stepL c n s (↑j, p2)).left.getD i 0 = if i = j then s.left.getD j 0 - 1 else s.left.getD i 0 := fun i => by
      unfold stepL
      simp only [Int.toNat_natCast, hcj, if_true]
      rw [getD_set (by omega)]
    have lo : (stepL c n s (↑j, p2)).out.length = N := by unfold stepL; simp [hcj, ho]
    have ll : (stepL c n s (↑j, p2)).left.length = N := by unfold stepL; simp [hcj, hl]
    obtain ⟨a1, a2, a3⟩ := foldO (n := n) (c := c) (r := r) lo ll (fun p hp => hr p (List.mem_cons_of_mem _ hp)) (fun i hi hci => by
      have := hc i hi hci
      rw [cnt] at this
      rw [sl]
      by_cases hij : i = j
      · subst hij; simp only [if_true] at this ⊢; omega
      · have h' : ¬ j = i := fun e => hij e.symm
        simp only [hij, h', if_false] at this ⊢; omega) (by rw [sl, if_neg hnj]; exact hn)
    refine ⟨fun i hi h0 => ?_, fun i hi => ?_, fun i hi hci h => ?_⟩
    · have hij : ¬ i = j := fun e => by subst e; omega
      rw [a1 i hi (by rw [sl, if_neg hij]; exact h0), so, if_neg hij]
    · have := a2 i hi
      rw [so] at this
      split at this
      · rename_i e; subst e; omega
      · exact this
    · by_cases hij : i = j
      · subst hij
        have := a2 i hi
        rw [so, if_pos rfl] at this
        omega
      · have h' : ¬ j = i := fun e => hij e.symm
        rw [cnt, if_neg h'] at h
        have := a3 i hi hci (by omega)
        rw [so, if_neg hnj] at this
        exact this

def KI (c : Cir) (d : Nat) (s : LS) : Prop := ∀ i : Nat, i < c.nodes.l.length → combB (kindAt c i) = true → ∀ q : Nat, (q : Int) ∈ innAt c i → (q : Int) ∈ s.rdy.take d → s.out.getD q 0 + 1 ≤ s.out.getD i 0

theorem KI.next {c : Cir} (hp : ∀ x ∈ c.nodes.l, ∀ p ∈ x.inn.l, 0 ≤ p ∧ p < c.nodes.l.length) {d : Nat} {s : LS} (h : JI c d s) (hk : KI c d s) (hd : d < s.rdy.length) : KI c (d + 1) ((rowOf c (s.rdy.getD d 0).toNat).foldl (stepL c (s.rdy.getD d 0).toNat) s) := by
  obtain ⟨M, hli⟩ := h.li
  have hg : s.rdy.getD d 0 = s.rdy[d] := by simp [hd]
  rw [hg]
  obtain ⟨n, hn, he, hn0⟩ := hli.rd _ (List.getElem_mem hd)
  rw [he]
  simp only [Int.toNat_natCast]
  have hr : ∀ p ∈ rowOf c n, ∃ i : Nat, i < c.nodes.l.length ∧ p.1 = i := by
    intro p hpp
    have hl := fanRows_len c
    have e : rowOf c n = (fanRows c)[n]'(by omega) := by simp [rowOf, List.getD, List.getElem?_eq_getElem (show n < (fanRows c).length by omega)]
    rw [e] at hpp
    exact fanRows_in c _ (List.getElem_mem _) p hpp
  have htk : s.rdy.take (d + 1) = s.rdy.take d ++ [(n : Int)] := by
    rw [List.take_add_one, List.getElem?_eq_getElem hd, he]; rfl
  have hnd : (s.rdy.take (d + 1)).Nodup := hli.nd.sublist (List.take_sublist _ _)
  have hcnt : ∀ i : Nat, i < c.nodes.l.length → combB (kindAt c i) = true → (cntR i (rowOf c n) : Int) ≤ s.left.getD i 0 := by
    intro i hi hci
    have := sum_count_le (innAt c i) _ hnd
    rw [htk] at this
    simp only [List.map_append, List.sum_append, List.map_cons, List.map_nil, List.sum_cons, List.sum_nil] at this
    rw [h.a i hi, left_at c hi, rowOf_cnt c hp i n hi]
    simp only [hci, if_true]
    omega
  obtain ⟨⟨e, h1⟩, _, _, _⟩ := foldL_inv (M := M) (c := c) (n := n) (r := rowOf c n) hli.ll hr h.b
  obtain ⟨a1, a2, a3⟩ := foldO (n := n) (c := c) hli.lo hli.ll hr hcnt hn0
  intro i hi hci q hq hqt
  rw [h1, List.take_append_of_le_length (by omega), htk] at hqt
  rcases List.mem_append.1 hqt with hqt | hqt
  · obtain ⟨q', hq1, hq2, hq3⟩ := hli.rd _ (List.mem_of_mem_take hqt)
    have : q = q' := by omega
    subst this
    rw [a1 q hq1 hq3]
    have h4 := hk i hi hci q hq hqt
    have h5 := a2 i hi
    omega
  · have : q = n := by simp at hqt; omega
    subst this
    rw [a1 q hn hn0]
    refine a3 i hi hci ?_
    rw [rowOf_cnt c hp i q hi]
    exact List.count_pos_iff.2 hq

theorem main_ki {c : Cir} (hp : ∀ x ∈ c.nodes.l, ∀ p ∈ x.inn.l, 0 ≤ p ∧ p < c.nodes.l.length) : ∀ (f d : Nat) (s : LS), JI c d s → KI c d s → KI c (mainL c f d s).1 (mainL c f d s).2
  | 0, d, s, _, hk => hk
  | f + 1, d, s, h, hk => by
    simp only [mainL]
    split
    · rename_i hd
      exact main_ki hp f (d + 1) _ (h.next hp hd) (hk.next hp h hd)
    · exact hk

theorem init_ji (c : Cir) (h16 : ∀ x ∈ c.nodes.l, x.inn.l.length ≤ 16) : JI c 0 (initL c) := by
  refine ⟨⟨0, initL_ok c h16⟩, by simp, fun i hi => ?_, fun i hi h => ?_⟩
  · simp [initL]
  · simp only [initL] at h
    exact rdyFrom_all c.nodes.l 0 i (by omega) (by omega) (by simpa using h)

theorem shape_in {c : Cir} (h : shapeErr c = 0) : ∀ x ∈ c.nodes.l, ∀ p ∈ x.inn.l, 0 ≤ p ∧ p < c.nodes.l.length := by
  intro x hx
  have h4 := (shape_facts h).2.2.1 x hx
  unfold nodeErr at h4
  split at h4
  · cases h4
  split at h4
  · cases h4
  split at h4
  · cases h4
  rename_i h6
  exact any_out (by simpa using h6)

def levAt (c : Cir) (i : Nat) : Int := (endL c).2.out.getD i 0

theorem levErr_zero {c : Cir} (h : levErr c = 0) : shapeErr c = 0 ∧ ¬ (endL c).1 < c.nodes.l.length := by
  unfold levErr at h
  split at h
  · rename_i h1; exact absurd h h1
  split at h
  · cases h
  · rename_i h1 h2; exact ⟨by simpa using h1, h2⟩

/-- The levels of a valid circuit. -/
theorem lev_lt {c : Cir} (h : levErr c = 0) : (endL c).2.out.length = c.nodes.l.length ∧ (∀ i, 0 ≤ levAt c i) ∧ ∀ i : Nat, i < c.nodes.l.length → combB (kindAt c i) = true → ∀ p ∈ innAt c i, (0 ≤ p ∧ p < c.nodes.l.length) ∧ levAt c p.toNat < levAt c i := by
  obtain ⟨hs, hd⟩ := levErr_zero h
  have hp := shape_in hs
  have h16 := (shape_facts hs).2.1
  have h0 := init_ji c h16
  obtain ⟨hJ, hle⟩ := main_end hp (c.nodes.l.length + 1) 0 (initL c) h0 (by omega)
  have hK := main_ki hp (c.nodes.l.length + 1) 0 (initL c) h0 (fun i _ _ q _ hq => by simp at hq)
  obtain ⟨M, hli⟩ := hJ.li
  refine ⟨hli.lo, fun i => (hli.bo i).1, fun i hi hc p hpi => ?_⟩
  have hin : 0 ≤ p ∧ p < c.nodes.l.length := by
    simp only [innAt, List.getD_eq_getElem?_getD, List.getElem?_eq_getElem hi, Option.getD_some] at hpi
    exact hp _ (List.getElem_mem hi) p hpi
  refine ⟨hin, ?_⟩
  have hpe : p = (p.toNat : Int) := by omega
  have hall : p ∈ (endL c).2.rdy.take (endL c).1 := by
    have hle' : (endL c).2.rdy.length ≤ (endL c).1 := hle
    rw [List.take_of_length_le hle']
    by_cases hm : p ∈ (endL c).2.rdy
    · exact hm
    exfalso
    have := nodup_len (N := c.nodes.l.length) (List.nodup_cons.2 ⟨hm, hli.nd⟩) fun j hj => by
      rcases List.mem_cons.1 hj with rfl | hj
      · exact ⟨j.toNat, by omega, by omega⟩
      · obtain ⟨i, h1, h2, _⟩ := hli.rd j hj; exact ⟨i, h1, h2⟩
    have h3 := hJ.le
    simp only [List.length_cons] at this
    have : (endL c).1 ≤ (endL c).2.rdy.length := h3
    have : (mainL c (c.nodes.l.length + 1) 0 (initL c)).2 = (endL c).2 := rfl
    simp only [this] at *
    omega
  have := hK i hi hc p.toNat (by rw [← hpe]; exact hpi) (by rw [← hpe]; exact hall)
  show (endL c).2.out.getD p.toNat 0 < (endL c).2.out.getD i 0
  have e : (mainL c (c.nodes.l.length + 1) 0 (initL c)).2 = (endL c).2 := rfl
  rw [e] at this
  omega

/-- By levels. -/
theorem lev_ind {c : Cir} (h : levErr c = 0) {Q : Nat → Prop} (hq : ∀ i : Nat, i < c.nodes.l.length → (combB (kindAt c i) = true → ∀ p ∈ innAt c i, (0 ≤ p ∧ p < c.nodes.l.length) ∧ Q p.toNat) → Q i) : ∀ i : Nat, i < c.nodes.l.length → Q i := by
  obtain ⟨_, h0, h1⟩ := lev_lt h
  have : ∀ (k : Nat) (i : Nat), i < c.nodes.l.length → (levAt c i).toNat = k → Q i := by
    intro k
    induction k using Nat.strongRecOn with
    | ind k ih =>
      intro i hi hk
      refine hq i hi fun hc p hp => ?_
      obtain ⟨h2, h3⟩ := h1 i hi hc p hp
      have := h0 p.toNat
      exact ⟨h2, ih (levAt c p.toNat).toNat (by omega) p.toNat (by omega) rfl⟩
  exact fun i hi => this _ i hi rfl
end Go.Lg

/- Orders by levels, and the values of all nets. Conditions: none. -/
set_option linter.unusedSimpArgs false
set_option linter.unusedVariables false
set_option maxRecDepth 100000
namespace Go.Lg
open Go Go.Proofs

/-- An element sinks to its place. -/
def sink (lt : Int → Int → Bool) : Nat → List Int → List Int
  | 0, l => l
  | j + 1, l => if lt (l.getD (j + 1) 0) (l.getD j 0) then sink lt j (swapL l (j + 1) j) else l
def insS (lt : Int → Int → Bool) : Nat → Nat → List Int → List Int
  | 0, _, l => l
  | f + 1, i, l => insS lt f (i + 1) (sink lt i l)

theorem sink_perm {lt : Int → Int → Bool} : ∀ {j : Nat} {l : List Int}, j < l.length → (sink lt j l).Perm l
  | 0, l, _ => List.Perm.refl l
  | j + 1, l, h => by
    simp only [sink]
    split
    · exact (sink_perm (by rw [swapL_len]; omega)).trans (swapL_perm h (by omega))
    · exact List.Perm.refl l
theorem sink_len {lt : Int → Int → Bool} {j : Nat} {l : List Int} (h : j < l.length) : (sink lt j l).length = l.length := (sink_perm h).length_eq

def SortedTo (key : Int → Int) (l : List Int) (n : Nat) : Prop := ∀ a b, a < b → b < n → key (l.getD a 0) ≤ key (l.getD b 0)

theorem sink_sorted (key : Int → Int) (i : Nat) : ∀ (j : Nat) (l : List Int), j ≤ i → i < l.length → (∀ a b, a < b → b ≤ i → a ≠ j → b ≠ j → key (l.getD a 0) ≤ key (l.getD b 0)) → (∀ b, j < b → b ≤ i → key (l.getD j 0) ≤ key (l.getD b 0)) →
    SortedTo key (sink (fun a b => decide (key a < key b)) j l) (i + 1)
  | 0, l, hj, hi, h1, h2 => by
    intro a b hab hb
    simp only [sink]
    by_cases ha : a = 0
    · subst ha; exact h2 b hab (by omega)
    · exact h1 a b hab (by omega) ha (by omega)
  | j + 1, l, hj, hi, h1, h2 => by
    simp only [sink]
    split
    · rename_i hlt
      have hlt' : key (l.getD (j + 1) 0) < key (l.getD j 0) := by simpa using hlt
      have g : ∀ q, q < l.length → (swapL l (j + 1) j).getD q 0 = if q = j then l.getD (j + 1) 0 else if q = j + 1 then l.getD j 0 else l.getD q 0 := fun q hq => swapL_get (by omega) (by omega) hq
      refine sink_sorted key i j _ (by omega) (by rw [swapL_len]; exact hi) (fun a b hab hb ha hb' => ?_) (fun b hb hbi => ?_)
      · rw [g a (by omega), g b (by omega), if_neg ha, if_neg hb']
        by_cases ha1 : a = j + 1
        · rw [if_pos ha1, if_neg (by omega)]
          exact h1 j b (by omega) hb (by omega) (by omega)
        · rw [if_neg ha1]
          by_cases hb1 : b = j + 1
          · rw [if_pos hb1]
            exact h1 a j (by omega) (by omega) ha1 (by omega)
          · rw [if_neg hb1]
            exact h1 a b hab hb ha1 hb1
      · rw [g j (by omega), g b (by omega), if_pos rfl, if_neg (by omega)]
        by_cases hb1 : b = j + 1
        · rw [if_pos hb1]; omega
        · rw [if_neg hb1]
          exact h2 b (by omega) hbi
    · rename_i hlt
      have hlt' : key (l.getD j 0) ≤ key (l.getD (j + 1) 0) := by simpa using hlt
      intro a b hab hb
      by_cases ha1 : a = j + 1
      · subst ha1; exact h2 b hab (by omega)
      · by_cases hb1 : b = j + 1
        · subst hb1
          by_cases haj : a = j
          · subst haj; exact hlt'
          · have := h1 a j (by omega) (by omega) ha1 (by omega)
            omega
        · exact h1 a b hab (by omega) ha1 hb1

theorem insS_ok (key : Int → Int) : ∀ (f i : Nat) (l : List Int), i + f = l.length → SortedTo key l i → (insS (fun a b => decide (key a < key b)) f i l).Perm l ∧ SortedTo key (insS (fun a b => decide (key a < key b)) f i l) l.length
  | 0, i, l, h, hs => ⟨List.Perm.refl l, by have : i = l.length := by omega
                                            subst this; exact hs⟩
  | f + 1, i, l, h, hs => by
    simp only [insS]
    have hp := sink_perm (lt := fun a b => decide (key a < key b)) (show i < l.length by omega)
    have hss := sink_sorted key i i l (Nat.le_refl _) (by omega) (fun a b hab hb ha hb' => hs a b hab (by omega)) (fun b h1 h2 => by omega)
    obtain ⟨a1, a2⟩ := insS_ok key f (i + 1) _ (by rw [hp.length_eq]; omega) hss
    rw [hp.length_eq] at a2
    exact ⟨a1.trans hp, a2⟩

def rng (n : Nat) : List Int := (List.range n).map fun i : Nat => (i : Int)
theorem rng_len {n : Nat} : (rng n).length = n := by simp [rng]
theorem mem_rng {n : Nat} {x : Int} : x ∈ rng n ↔ 0 ≤ x ∧ x < n := by
  simp only [rng, List.mem_map, List.mem_range]
  constructor
  · rintro ⟨i, hi, rfl⟩; omega
  · intro h; exact ⟨x.toNat, by omega, by omega⟩
theorem rng_nodup {n : Nat} : (rng n).Nodup := by
  rw [rng, List.nodup_iff_pairwise_ne, List.pairwise_map]
  exact (List.nodup_iff_pairwise_ne.1 List.nodup_range).imp fun h e => h (by omega)

/-- All nodes by level and index. -/
def levLt (c : Cir) (a b : Int) : Bool := decide (levAt c a.toNat < levAt c b.toNat)
def orderC (c : Cir) : List Int := insS (levLt c) (c.nodes.l.length - 1) 1 (rng c.nodes.l.length)

theorem orderC_ok (c : Cir) : (orderC c).Perm (rng c.nodes.l.length) ∧ SortedTo (fun a => levAt c a.toNat) (orderC c) c.nodes.l.length := by
  by_cases h : c.nodes.l.length = 0
  · unfold orderC
    rw [h]
    exact ⟨List.Perm.refl _, fun a b hab hb => by omega⟩
  · have := insS_ok (fun a => levAt c a.toNat) (c.nodes.l.length - 1) 1 (rng c.nodes.l.length) (by rw [rng_len]; omega) (fun a b hab hb => by omega)
    rw [rng_len] at this
    exact this

def inVals (c : Cir) (nets : List Int) (i : Nat) : List Int := (innAt c i).map fun k => nets.getD k.toNat 0
def stepR (c : Cir) (nets : List Int) (n : Int) : List Int := if combB (kindAt c n.toNat) then nets.set n.toNat (evalL (kindAt c n.toNat) (inVals c nets n.toNat)) else nets
def runL (c : Cir) (order init : List Int) : List Int := order.foldl (stepR c) init
theorem stepR_len {c : Cir} {nets : List Int} {n : Int} : (stepR c nets n).length = nets.length := by unfold stepR; split <;> simp
theorem runL_len {c : Cir} : ∀ {o nets : List Int}, (runL c o nets).length = nets.length
  | [], nets => rfl
  | n :: o, nets => by
    show (runL c o (stepR c nets n)).length = _
    rw [runL_len, stepR_len]

/-- The values agree with the functions of the gates, and with what is given elsewhere. -/
def FixN (c : Cir) (init f : List Int) : Prop := f.length = c.nodes.l.length ∧ ∀ i : Nat, i < c.nodes.l.length → f.getD i 0 = if combB (kindAt c i) then evalL (kindAt c i) (inVals c f i) else init.getD i 0

theorem run_gen {c : Cir} : ∀ {o nets : List Int}, nets.length = c.nodes.l.length → o.Nodup → (∀ n ∈ o, 0 ≤ n ∧ n < c.nodes.l.length) → o.Pairwise (fun x y => combB (kindAt c x.toNat) = true → y ∉ innAt c x.toNat) → (∀ x ∈ o, combB (kindAt c x.toNat) = true → x ∉ innAt c x.toNat ∧ ∀ p ∈ innAt c x.toNat, 0 ≤ p) →
    (∀ i : Nat, (i : Int) ∉ o → (runL c o nets).getD i 0 = nets.getD i 0) ∧ (∀ i : Nat, (i : Int) ∈ o → (runL c o nets).getD i 0 = if combB (kindAt c i) then evalL (kindAt c i) (inVals c (runL c o nets) i) else nets.getD i 0)
  | [], nets, _, _, _, _, _ => ⟨fun i _ => rfl, fun i h => by cases h⟩
  | n :: o, nets, hl, hnd, hin, hpw, hself => by
    obtain ⟨hn1, hn2⟩ := List.nodup_cons.1 hnd
    obtain ⟨hp1, hp2⟩ := List.pairwise_cons.1 hpw
    have hnr := hin n List.mem_cons_self
    have hne : n = (n.toNat : Int) := by omega
    have key : ∀ i : Nat, i ≠ n.toNat → (stepR c nets n).getD i 0 = nets.getD i 0 := fun i hi => by
      unfold stepR
      split
      · rw [getD_set (by omega), if_neg hi]
      · rfl
    obtain ⟨a1, a2⟩ := run_gen (o := o) (nets := stepR c nets n) (by rw [stepR_len]; exact hl) hn2 (fun m hm => hin m (List.mem_cons_of_mem _ hm)) hp2 (fun x hx => hself x (List.mem_cons_of_mem _ hx))
    have hrun : runL c (n :: o) nets = runL c o (stepR c nets n) := rfl
    rw [hrun]
    refine ⟨fun i hi => ?_, fun i hi => ?_⟩
    · have h1 : ¬ i = n.toNat := fun e => hi (by rw [e, ← hne]; exact List.mem_cons_self)
      rw [a1 i fun hm => hi (List.mem_cons_of_mem _ hm), key i h1]
    · by_cases hio : (i : Int) ∈ o
      · have h1 : ¬ i = n.toNat := fun e => hn1 (by rw [hne, ← e]; exact hio)
        rw [a2 i hio, key i h1]
      · have h1 : i = n.toNat := by
          rcases List.mem_cons.1 hi with h | h
          · omega
          · exact absurd h hio
        subst h1
        rw [a1 _ hio]
        by_cases hc : combB (kindAt c n.toNat) = true
        · have h2 : (stepR c nets n).getD n.toNat 0 = evalL (kindAt c n.toNat) (inVals c nets n.toNat) := by
            unfold stepR
            rw [if_pos hc, getD_set (by omega), if_pos rfl]
          rw [h2, if_pos hc]
          congr 1
          unfold inVals
          refine List.map_congr_left fun p hp => ?_
          obtain ⟨hs1, hs2⟩ := hself n List.mem_cons_self hc
          have hp0 := hs2 p hp
          have hpe : p = (p.toNat : Int) := by omega
          have hpo : ((p.toNat : Nat) : Int) ∉ o := fun hm => hp1 _ hm hc (by rw [← hpe]; exact hp)
          have hpn : ¬ p.toNat = n.toNat := fun e => by
            have h9 : p = n := by omega
            rw [h9] at hp
            exact hs1 hp
          rw [a1 _ hpo, key _ hpn]
        · rw [if_neg hc]
          unfold stepR
          rw [if_neg hc]

theorem run_fix {c : Cir} (h : levErr c = 0) {o init : List Int} (hp : o.Perm (rng c.nodes.l.length)) (hs : SortedTo (fun a => levAt c a.toNat) o c.nodes.l.length) (hi : init.length = c.nodes.l.length) : FixN c init (runL c o init) := by
  obtain ⟨_, h0, h1⟩ := lev_lt h
  have hlen : o.length = c.nodes.l.length := by rw [hp.length_eq, rng_len]
  have hmem : ∀ n, n ∈ o ↔ 0 ≤ n ∧ n < c.nodes.l.length := fun n => by rw [hp.mem_iff, mem_rng]
  have hpw : o.Pairwise (fun x y => combB (kindAt c x.toNat) = true → y ∉ innAt c x.toNat) := by
    rw [List.pairwise_iff_getElem]
    intro i j hi hj hij hc hm
    have hx := (hmem o[i]).1 (List.getElem_mem hi)
    obtain ⟨_, h3⟩ := h1 o[i].toNat (by omega) hc _ hm
    have h4 := hs i j hij (by omega)
    simp only [getD_eq hi, getD_eq hj] at h4
    omega
  obtain ⟨_, a2⟩ := run_gen (c := c) (o := o) (nets := init) hi (hp.nodup_iff.2 rng_nodup) (fun n hn => (hmem n).1 hn) hpw (fun x hx hc => by
    have hx' := (hmem x).1 hx
    refine ⟨fun hm => ?_, fun p hpp => (h1 x.toNat (by omega) hc p hpp).1.1⟩
    have := (h1 x.toNat (by omega) hc x hm).2
    omega)
  exact ⟨by rw [runL_len]; exact hi, fun i hi => a2 i ((hmem i).2 (by omega))⟩

theorem fix_unique {c : Cir} (h : levErr c = 0) {init f g : List Int} (hf : FixN c init f) (hg : FixN c init g) : f = g := by
  have key := lev_ind h (Q := fun i => f.getD i 0 = g.getD i 0) fun i hi hc => by
    rw [hf.2 i hi, hg.2 i hi]
    split
    · rename_i hcb
      congr 1
      unfold inVals
      exact List.map_congr_left fun p hp => (hc hcb p hp).2
    · rfl
  refine List.ext_getElem (by rw [hf.1, hg.1]) fun i h1 h2 => ?_
  have := key i (by rw [hf.1] at h1; exact h1)
  rwa [getD_eq h1, getD_eq h2] at this

/-- What the inputs and the states are given. -/
def loadS : List Int → List Int → List Int → List Int
  | n :: ns, v :: vs, nets => loadS ns vs (nets.set n.toNat v)
  | _, _, nets => nets
theorem loadS_len : ∀ {ns vs nets : List Int}, (loadS ns vs nets).length = nets.length
  | [], vs, nets => by cases vs <;> rfl
  | _ :: _, [], nets => rfl
  | n :: ns, v :: vs, nets => by simp only [loadS]; rw [loadS_len]; simp
theorem loadS_off : ∀ {ns vs nets : List Int} {i : Nat}, (∀ n ∈ ns, 0 ≤ n) → (i : Int) ∉ ns → (loadS ns vs nets).getD i 0 = nets.getD i 0
  | [], vs, nets, i, _, _ => by cases vs <;> rfl
  | _ :: _, [], nets, i, _, _ => rfl
  | n :: ns, v :: vs, nets, i, h0, h => by
    simp only [loadS]
    rw [loadS_off (fun m hm => h0 m (List.mem_cons_of_mem _ hm)) fun hm => h (List.mem_cons_of_mem _ hm)]
    have h1 : ¬ n.toNat = i := fun e => h (by have := h0 n List.mem_cons_self; rw [← e, Int.toNat_of_nonneg this]; exact List.mem_cons_self)
    simp [List.getD_eq_getElem?_getD, List.getElem?_set, h1]
theorem loadS_at : ∀ {ns vs nets : List Int} {j : Nat}, ns.Nodup → (∀ n ∈ ns, 0 ≤ n ∧ n < nets.length) → ns.length = vs.length → (h : j < ns.length) → (loadS ns vs nets).getD (ns[j]).toNat 0 = vs.getD j 0
  | n :: ns, v :: vs, nets, j, hnd, hr, hl, h => by
    obtain ⟨h1, h2⟩ := List.nodup_cons.1 hnd
    have hn := hr n List.mem_cons_self
    simp only [loadS]
    cases j with
    | zero =>
      simp only [List.getElem_cons_zero, List.getD_cons_zero]
      rw [loadS_off (fun m hm => (hr m (List.mem_cons_of_mem _ hm)).1) (by rw [Int.toNat_of_nonneg hn.1]; exact h1), getD_set (by omega), if_pos rfl]
    | succ j =>
      simp only [List.getElem_cons_succ, List.getD_cons_succ]
      exact loadS_at h2 (fun m hm => by have := hr m (List.mem_cons_of_mem _ hm); simpa using this) (by simpa using hl) (by simpa using h)
  | [], vs, nets, j, _, _, _, h => by simp at h
  | _ :: _, [], nets, j, _, _, hl, h => by simp at hl

def inputs (c : Cir) : List Int := ofL [0] c.nodes.l 0
def loadL (c : Cir) (pin pst : List Int) : List Int := loadS (states c) pst (loadS (inputs c) pin (List.replicate c.nodes.l.length 0))
def netsL (c : Cir) (pin pst : List Int) : List Int := runL c (orderC c) (loadL c pin pst)
theorem loadL_len {c : Cir} {pin pst : List Int} : (loadL c pin pst).length = c.nodes.l.length := by unfold loadL; rw [loadS_len, loadS_len]; simp
theorem nets_fix {c : Cir} (h : levErr c = 0) (pin pst : List Int) : FixN c (loadL c pin pst) (netsL c pin pst) := run_fix h (orderC_ok c).1 (orderC_ok c).2 loadL_len

/-- How many nodes of a kind stand before a node. -/
def rankK (k : Int) (c : Cir) (i : Nat) : Nat := (ofL [k] (c.nodes.l.take i) 0).length
theorem ofL_split {k : Int} {c : Cir} {i : Nat} (hi : i < c.nodes.l.length) (hk : kindAt c i = k) : ofL [k] c.nodes.l 0 = ofL [k] (c.nodes.l.take i) 0 ++ (i : Int) :: ofL [k] (c.nodes.l.drop (i + 1)) (i + 1) := by
  have e : c.nodes.l = c.nodes.l.take i ++ c.nodes.l[i] :: c.nodes.l.drop (i + 1) := by rw [List.getElem_cons_drop, List.take_append_drop]
  have hk' : c.nodes.l[i].k = k := by simpa [kindAt, hi] using hk
  have hm : (c.nodes.l.take i).length = i := by rw [List.length_take]; omega
  conv => lhs; rw [e, ofL_app, hm]
  simp [ofL, hk']
theorem rank_at {k : Int} {c : Cir} {i : Nat} (hi : i < c.nodes.l.length) (hk : kindAt c i = k) : rankK k c i < (ofL [k] c.nodes.l 0).length ∧ (ofL [k] c.nodes.l 0).getD (rankK k c i) 0 = i := by
  have e := ofL_split hi hk
  constructor
  · rw [e]; simp [rankK]
  · rw [e]; simp [rankK, List.getD_eq_getElem?_getD]
theorem ofL_in {k : Int} {c : Cir} : ∀ n ∈ ofL [k] c.nodes.l 0, 0 ≤ n ∧ n < c.nodes.l.length ∧ kindAt c n.toNat = k := by
  intro n hn
  obtain ⟨a, b, h⟩ := ofL_kind [k] c.nodes.l 0 n hn
  refine ⟨by omega, by omega, ?_⟩
  simpa [kindAt] using h
theorem mem_ofL {k : Int} {c : Cir} {i : Nat} (hi : i < c.nodes.l.length) : (i : Int) ∈ ofL [k] c.nodes.l 0 ↔ kindAt c i = k := by
  constructor
  · intro h
    have := (ofL_in _ h).2.2
    simpa using this
  · intro h
    rw [ofL_split hi h]
    simp

theorem load_at {c : Cir} {pin pst : List Int} (h1 : pin.length = (inputs c).length) (h2 : pst.length = (states c).length) {i : Nat} (hi : i < c.nodes.l.length) :
    (loadL c pin pst).getD i 0 = if kindAt c i = 0 then pin.getD (rankK 0 c i) 0 else if kindAt c i = 14 then pst.getD (rankK 14 c i) 0 else 0 := by
  have n0 := (ofL_nodup [0] c.nodes.l 0).2
  have n14 := (ofL_nodup [14] c.nodes.l 0).2
  have r14 : ∀ n ∈ states c, 0 ≤ n := fun n hn => (ofL_in n hn).1
  have r0 : ∀ n ∈ inputs c, 0 ≤ n := fun n hn => (ofL_in n hn).1
  unfold loadL
  by_cases hk : kindAt c i = 14
  · obtain ⟨a, b⟩ := rank_at hi hk
    have e : (ofL [14] c.nodes.l 0)[rankK 14 c i] = (i : Int) := by rw [← b, getD_eq a]
    have := loadS_at (ns := states c) (vs := pst) (nets := loadS (inputs c) pin (List.replicate c.nodes.l.length 0)) (j := rankK 14 c i) n14 (fun n hn => by rw [loadS_len]; have := ofL_in n hn; simp; omega) h2.symm a
    have e' : (states c)[rankK 14 c i] = (i : Int) := e
    rw [e'] at this
    simp only [Int.toNat_natCast] at this
    rw [this, if_neg (by omega), if_pos hk]
  · have : (i : Int) ∉ states c := fun hm => hk ((mem_ofL hi).1 hm)
    rw [loadS_off r14 this]
    by_cases hk0 : kindAt c i = 0
    · obtain ⟨a, b⟩ := rank_at hi hk0
      have e : (inputs c)[rankK 0 c i]'a = (i : Int) := by show (ofL [0] c.nodes.l 0)[rankK 0 c i] = _; rw [← b, getD_eq a]
      have := loadS_at (ns := inputs c) (vs := pin) (nets := List.replicate c.nodes.l.length 0) (j := rankK 0 c i) n0 (fun n hn => by have := ofL_in n hn; simp; omega) h1.symm a
      rw [e] at this
      simp only [Int.toNat_natCast] at this
      rw [this, if_pos hk0]
    · have : (i : Int) ∉ inputs c := fun hm => hk0 ((mem_ofL hi).1 hm)
      rw [loadS_off r0 this, if_neg hk0, if_neg hk]
      simp [List.getD_eq_getElem?_getD, List.getElem?_replicate]
      split <;> rfl
end Go.Lg

/- The abstract code of some functions, as the program gen.py prints it. Conditions: none. -/
set_option linter.unusedVariables false
namespace Go.Lg
open Go
section
variable {P : Program} {Γ : Tables} {Q : AX → St → Prop} {s : St}
/- probecard/logic.Clean (function 92) -/
def logic_Clean_r0 : List RO := [
    ⟨some 2, .mv (.const (.int .u8 0)), none, none⟩]
def logic_Clean_r1 : List RO := [
    ⟨some 3, .mv (.tmp 0), none, none⟩,
    ⟨some 4, .bin .gtr (.tmp 3) (.const (.int .u8 3)), none, none⟩]
def logic_Clean_r2 : List RO := [
    ⟨some 2, .mv (.const (.int .u8 2)), none, none⟩]
def logic_Clean_r3 : List RO := [
    ⟨some 5, .mv (.tmp 0), none, none⟩,
    ⟨some 2, .mv (.tmp 5), none, none⟩]
def logic_Clean_ic : IC := (.seq (.reg logic_Clean_r0 [.keep [0] []]) (.seq (.seq (.reg logic_Clean_r1 [.keep [0, 4] []]) (.cond (.tmp 4) (.seq (.reg logic_Clean_r2 [.keep [2] []]) .ret) .skip)) (.seq (.reg logic_Clean_r3 [.keep [2] []]) .ret)))
@[simp ↓] theorem logic_Clean_ic_run : run P Γ logic_Clean_ic Q s = run P Γ (.seq (.reg logic_Clean_r0 [.keep [0] []]) (.seq (.seq (.reg logic_Clean_r1 [.keep [0, 4] []]) (.cond (.tmp 4) (.seq (.reg logic_Clean_r2 [.keep [2] []]) .ret) .skip)) (.seq (.reg logic_Clean_r3 [.keep [2] []]) .ret))) Q s := Eq.trans rfl rfl
attribute [simp] logic_Clean_r0 logic_Clean_r1 logic_Clean_r2 logic_Clean_r3
def logic_Clean_rv : List RV := [.tmp 2]

/- probecard/logic.Read (function 31) -/
def logic_Read_r0 : List RO := [
    ⟨some 2, .mv (.const (.int .u8 0)), none, none⟩]
def logic_Read_r1 : List RO := [
    ⟨some 3, .mv (.tmp 0), none, none⟩,
    ⟨some 4, .mmx false [(.tmp 3), (.const (.int .u8 2))], none, none⟩,
    ⟨some 2, .mv (.tmp 4), none, none⟩]
def logic_Read_ic : IC := (.seq (.reg logic_Read_r0 [.keep [0] []]) (.seq (.reg logic_Read_r1 [.keep [2] []]) .ret))
@[simp ↓] theorem logic_Read_ic_run : run P Γ logic_Read_ic Q s = run P Γ (.seq (.reg logic_Read_r0 [.keep [0] []]) (.seq (.reg logic_Read_r1 [.keep [2] []]) .ret)) Q s := Eq.trans rfl rfl
attribute [simp] logic_Read_r0 logic_Read_r1
def logic_Read_rv : List RV := [.tmp 2]

/- probecard/logic.Known (function 30) -/
def logic_Known_r0 : List RO := [
    ⟨some 2, .mv (.const (.bool false)), none, none⟩]
def logic_Known_r1 : List RO := [
    ⟨some 3, .mv (.tmp 0), none, none⟩,
    ⟨some 4, .bin .leq (.tmp 3) (.const (.int .u8 1)), none, none⟩,
    ⟨some 2, .mv (.tmp 4), none, none⟩]
def logic_Known_ic : IC := (.seq (.reg logic_Known_r0 [.keep [0] []]) (.seq (.reg logic_Known_r1 [.keep [2] []]) .ret))
@[simp ↓] theorem logic_Known_ic_run : run P Γ logic_Known_ic Q s = run P Γ (.seq (.reg logic_Known_r0 [.keep [0] []]) (.seq (.reg logic_Known_r1 [.keep [2] []]) .ret)) Q s := Eq.trans rfl rfl
attribute [simp] logic_Known_r0 logic_Known_r1
def logic_Known_rv : List RV := [.tmp 2]

/- probecard/logic.Below (function 65) -/
def logic_Below_r0 : List RO := [
    ⟨some 4, .mv (.const (.bool false)), none, none⟩]
def logic_Below_r1 : List RO := [
    ⟨some 5, .mv (.tmp 0), none, none⟩,
    ⟨some 6, .call 92 [(.tmp 5)], none, none⟩,
    ⟨some 7, .mv (.tmp 1), none, none⟩,
    ⟨some 8, .call 92 [(.tmp 7)], none, none⟩,
    ⟨some 0, .mv (.tmp 6), none, none⟩,
    ⟨some 1, .mv (.tmp 8), none, none⟩]
def logic_Below_r2 : List RO := [
    ⟨some 9, .mv (.tmp 0), none, none⟩,
    ⟨some 10, .mv (.tmp 1), none, none⟩,
    ⟨some 11, .bin .eql (.tmp 9) (.tmp 10), none, none⟩,
    ⟨some 12, .mv (.tmp 11), none, none⟩,
    ⟨some 13, .mv (.tmp 0), some (12, false), none⟩,
    ⟨some 14, .bin .eql (.tmp 13) (.const (.int .u8 2)), some (12, false), none⟩,
    ⟨some 15, .pick (.tmp 12) (.const (.bool true)) (.tmp 14), none, none⟩,
    ⟨some 4, .mv (.tmp 15), none, none⟩]
def logic_Below_ic : IC := (.seq (.reg logic_Below_r0 [.keep [0, 1] []]) (.seq (.reg logic_Below_r1 [.keep [0, 1] []]) (.seq (.reg logic_Below_r2 [.keep [4] []]) .ret)))
@[simp ↓] theorem logic_Below_ic_run : run P Γ logic_Below_ic Q s = run P Γ (.seq (.reg logic_Below_r0 [.keep [0, 1] []]) (.seq (.reg logic_Below_r1 [.keep [0, 1] []]) (.seq (.reg logic_Below_r2 [.keep [4] []]) .ret))) Q s := Eq.trans rfl rfl
attribute [simp] logic_Below_r0 logic_Below_r1 logic_Below_r2
def logic_Below_rv : List RV := [.tmp 4]

/- probecard/logic.Not (function 83) -/
def logic_Not_r0 : List RO := [
    ⟨some 2, .mv (.const (.int .u8 0)), none, none⟩]
def logic_Not_r1 : List RO := [
    ⟨some 3, .mv (.tmp 0), none, none⟩,
    ⟨some 4, .call 30 [(.tmp 3)], none, none⟩]
def logic_Not_r2 : List RO := [
    ⟨some 5, .mv (.tmp 0), none, none⟩,
    ⟨some 6, .bin .sub (.const (.int .u8 1)) (.tmp 5), none, none⟩,
    ⟨some 2, .mv (.tmp 6), none, none⟩]
def logic_Not_r3 : List RO := [
    ⟨some 2, .mv (.const (.int .u8 2)), none, none⟩]
def logic_Not_ic : IC := (.seq (.reg logic_Not_r0 [.keep [0] []]) (.seq (.seq (.reg logic_Not_r1 [.keep [0, 4] []]) (.cond (.tmp 4) (.seq (.reg logic_Not_r2 [.keep [2] []]) .ret) .skip)) (.seq (.reg logic_Not_r3 [.keep [2] []]) .ret)))
@[simp ↓] theorem logic_Not_ic_run : run P Γ logic_Not_ic Q s = run P Γ (.seq (.reg logic_Not_r0 [.keep [0] []]) (.seq (.seq (.reg logic_Not_r1 [.keep [0, 4] []]) (.cond (.tmp 4) (.seq (.reg logic_Not_r2 [.keep [2] []]) .ret) .skip)) (.seq (.reg logic_Not_r3 [.keep [2] []]) .ret))) Q s := Eq.trans rfl rfl
attribute [simp] logic_Not_r0 logic_Not_r1 logic_Not_r2 logic_Not_r3
def logic_Not_rv : List RV := [.tmp 2]

/- probecard/logic.decided (function 109) -/
def logic_decided_r0 : List RO := [
    ⟨some 6, .mv (.const (.int .u8 0)), none, none⟩]
def logic_decided_r1 : List RO := [
    ⟨some 10, .mv (.tmp 2), none, none⟩,
    ⟨some 7, .mv (.tmp 10), none, none⟩]
def logic_decided_r2 : List RO := [
    ⟨some 11, .mv (.tmp 0), none, none⟩,
    ⟨some 12, .len 0 (.tmp 11), none, none⟩,
    ⟨some 13, .mv (.const (.int .i64 0)), none, none⟩]
def logic_decided_r3 : List RO := [
    ⟨some 14, .bin .lss (.tmp 13) (.tmp 12), none, none⟩]
def logic_decided_r4 : List RO := [
    ⟨some 15, .iadr 1 (.tmp 11) (.tmp 13), none, none⟩,
    ⟨some 16, .load 1 false (.tmp 15), none, none⟩,
    ⟨some 9, .mv (.tmp 16), none, none⟩]
def logic_decided_r5 : List RO := [
    ⟨some 18, .mv (.tmp 9), none, none⟩,
    ⟨some 19, .mv (.tmp 1), none, none⟩,
    ⟨some 20, .bin .eql (.tmp 18) (.tmp 19), none, none⟩,
    ⟨some 17, .mv (.tmp 20), none, none⟩]
def logic_decided_r6 : List RO := [
    ⟨some 21, .mv (.tmp 1), none, none⟩,
    ⟨some 6, .mv (.tmp 21), none, none⟩]
def logic_decided_r7 : List RO := [
    ⟨some 23, .mv (.tmp 9), none, none⟩,
    ⟨some 24, .mv (.tmp 2), none, none⟩,
    ⟨some 25, .bin .neq (.tmp 23) (.tmp 24), none, none⟩,
    ⟨some 22, .mv (.tmp 25), none, none⟩]
def logic_decided_r8 : List RO := [
    ⟨some 7, .mv (.const (.int .u8 2)), none, none⟩]
def logic_decided_r9 : List RO := [
    ⟨some 26, .bin .add (.tmp 13) (.const (.int .i64 1)), none, none⟩,
    ⟨some 13, .mv (.tmp 26), none, none⟩]
def logic_decided_g0 : IC := .gh (.seq (.reg logic_decided_r3 [.keep [1, 2, 7, 11, 12, 13, 14] []]) (.seq (.cond (.tmp 14) .skip (.exit 0)) (.seq (.block 1 (.seq (.reg logic_decided_r4 [.keep [1, 2, 7, 9, 11, 12, 13] []]) (.block 2 (.seq (.reg logic_decided_r5 [.keep [1, 2, 7, 9, 11, 12, 13, 17] []]) (.cond (.tmp 17) (.seq (.reg logic_decided_r6 [.keep [6] []]) .ret) (.seq (.reg logic_decided_r7 [.keep [1, 2, 7, 11, 12, 13, 22] []]) (.cond (.tmp 22) (.reg logic_decided_r8 [.keep [1, 2, 7, 11, 12, 13] []]) .skip))))))) (.reg logic_decided_r9 [.keep [1, 2, 7, 11, 12, 13] []])))) [.keep [1, 2, 7, 11, 12, 13] []]
def logic_decided_l1 : IC := .loop logic_decided_g0
def logic_decided_r10 : List RO := [
    ⟨some 27, .mv (.tmp 7), none, none⟩,
    ⟨some 6, .mv (.tmp 27), none, none⟩]
def logic_decided_ic : IC := (.seq (.reg logic_decided_r0 [.keep [0, 1, 2] []]) (.seq (.reg logic_decided_r1 [.keep [0, 1, 2, 7] []]) (.seq (.seq (.reg logic_decided_r2 [.keep [1, 2, 7, 11, 12, 13] []]) (.block 0 logic_decided_l1)) (.seq (.reg logic_decided_r10 [.keep [6] []]) .ret))))
@[simp ↓] theorem logic_decided_g0_run : run P Γ logic_decided_g0 Q s = run P Γ (.gh (.seq (.reg logic_decided_r3 [.keep [1, 2, 7, 11, 12, 13, 14] []]) (.seq (.cond (.tmp 14) .skip (.exit 0)) (.seq (.block 1 (.seq (.reg logic_decided_r4 [.keep [1, 2, 7, 9, 11, 12, 13] []]) (.block 2 (.seq (.reg logic_decided_r5 [.keep [1, 2, 7, 9, 11, 12, 13, 17] []]) (.cond (.tmp 17) (.seq (.reg logic_decided_r6 [.keep [6] []]) .ret) (.seq (.reg logic_decided_r7 [.keep [1, 2, 7, 11, 12, 13, 22] []]) (.cond (.tmp 22) (.reg logic_decided_r8 [.keep [1, 2, 7, 11, 12, 13] []]) .skip))))))) (.reg logic_decided_r9 [.keep [1, 2, 7, 11, 12, 13] []])))) [.keep [1, 2, 7, 11, 12, 13] []]) Q s := Eq.trans rfl rfl
@[simp ↓] theorem logic_decided_ic_run : run P Γ logic_decided_ic Q s = run P Γ (.seq (.reg logic_decided_r0 [.keep [0, 1, 2] []]) (.seq (.reg logic_decided_r1 [.keep [0, 1, 2, 7] []]) (.seq (.seq (.reg logic_decided_r2 [.keep [1, 2, 7, 11, 12, 13] []]) (.block 0 logic_decided_l1)) (.seq (.reg logic_decided_r10 [.keep [6] []]) .ret)))) Q s := Eq.trans rfl rfl
theorem logic_decided_l1_run (h : ∀ K : St → Prop, K = run P Γ logic_decided_l1 Q → run P Γ logic_decided_g0 (thenX K Q) s) : run P Γ logic_decided_l1 Q s := run_loop h
attribute [simp] logic_decided_r0 logic_decided_r1 logic_decided_r2 logic_decided_r3 logic_decided_r4 logic_decided_r5 logic_decided_r6 logic_decided_r7 logic_decided_r8 logic_decided_r9 logic_decided_r10
def logic_decided_rv : List RV := [.tmp 6]

/- probecard/logic.And (function 84) -/
def logic_And_r0 : List RO := [
    ⟨some 2, .mv (.const (.int .u8 0)), none, none⟩]
def logic_And_r1 : List RO := [
    ⟨some 3, .mv (.tmp 0), none, none⟩,
    ⟨some 4, .call 109 [(.tmp 3), (.const (.int .u8 0)), (.const (.int .u8 1))], none, none⟩,
    ⟨some 2, .mv (.tmp 4), none, none⟩]
def logic_And_ic : IC := (.seq (.reg logic_And_r0 [.keep [0] []]) (.seq (.reg logic_And_r1 [.keep [2] []]) .ret))
@[simp ↓] theorem logic_And_ic_run : run P Γ logic_And_ic Q s = run P Γ (.seq (.reg logic_And_r0 [.keep [0] []]) (.seq (.reg logic_And_r1 [.keep [2] []]) .ret)) Q s := Eq.trans rfl rfl
attribute [simp] logic_And_r0 logic_And_r1
def logic_And_rv : List RV := [.tmp 2]

/- probecard/logic.Or (function 85) -/
def logic_Or_r0 : List RO := [
    ⟨some 2, .mv (.const (.int .u8 0)), none, none⟩]
def logic_Or_r1 : List RO := [
    ⟨some 3, .mv (.tmp 0), none, none⟩,
    ⟨some 4, .call 109 [(.tmp 3), (.const (.int .u8 1)), (.const (.int .u8 0))], none, none⟩,
    ⟨some 2, .mv (.tmp 4), none, none⟩]
def logic_Or_ic : IC := (.seq (.reg logic_Or_r0 [.keep [0] []]) (.seq (.reg logic_Or_r1 [.keep [2] []]) .ret))
@[simp ↓] theorem logic_Or_ic_run : run P Γ logic_Or_ic Q s = run P Γ (.seq (.reg logic_Or_r0 [.keep [0] []]) (.seq (.reg logic_Or_r1 [.keep [2] []]) .ret)) Q s := Eq.trans rfl rfl
attribute [simp] logic_Or_r0 logic_Or_r1
def logic_Or_rv : List RV := [.tmp 2]

/- probecard/logic.Xor (function 86) -/
def logic_Xor_r0 : List RO := [
    ⟨some 2, .mv (.const (.int .u8 0)), none, none⟩]
def logic_Xor_r1 : List RO := [
    ⟨some 3, .mv (.const (.int .u8 0)), none, none⟩]
def logic_Xor_r2 : List RO := [
    ⟨some 6, .mv (.tmp 0), none, none⟩,
    ⟨some 7, .len 0 (.tmp 6), none, none⟩,
    ⟨some 8, .mv (.const (.int .i64 0)), none, none⟩]
def logic_Xor_r3 : List RO := [
    ⟨some 9, .bin .lss (.tmp 8) (.tmp 7), none, none⟩]
def logic_Xor_r4 : List RO := [
    ⟨some 10, .iadr 1 (.tmp 6) (.tmp 8), none, none⟩,
    ⟨some 11, .load 1 false (.tmp 10), none, none⟩,
    ⟨some 5, .mv (.tmp 11), none, none⟩]
def logic_Xor_r5 : List RO := [
    ⟨some 12, .mv (.tmp 5), none, none⟩,
    ⟨some 13, .call 30 [(.tmp 12)], none, none⟩,
    ⟨some 14, .un .not (.tmp 13), none, none⟩]
def logic_Xor_r6 : List RO := [
    ⟨some 2, .mv (.const (.int .u8 2)), none, none⟩]
def logic_Xor_r7 : List RO := [
    ⟨some 15, .mv (.tmp 3), none, none⟩,
    ⟨some 16, .mv (.tmp 5), none, none⟩,
    ⟨some 17, .bin .xor (.tmp 15) (.tmp 16), none, none⟩,
    ⟨some 3, .mv (.tmp 17), none, none⟩]
def logic_Xor_r8 : List RO := [
    ⟨some 18, .bin .add (.tmp 8) (.const (.int .i64 1)), none, none⟩,
    ⟨some 8, .mv (.tmp 18), none, none⟩]
def logic_Xor_g0 : IC := .gh (.seq (.reg logic_Xor_r3 [.keep [3, 6, 7, 8, 9] []]) (.seq (.cond (.tmp 9) .skip (.exit 0)) (.seq (.block 1 (.seq (.reg logic_Xor_r4 [.keep [3, 5, 6, 7, 8] []]) (.seq (.seq (.reg logic_Xor_r5 [.keep [3, 5, 6, 7, 8, 14] []]) (.cond (.tmp 14) (.seq (.reg logic_Xor_r6 [.keep [2] []]) .ret) .skip)) (.reg logic_Xor_r7 [.keep [3, 6, 7, 8] []])))) (.reg logic_Xor_r8 [.keep [3, 6, 7, 8] []])))) [.keep [3, 6, 7, 8] []]
def logic_Xor_l1 : IC := .loop logic_Xor_g0
def logic_Xor_r9 : List RO := [
    ⟨some 19, .mv (.tmp 3), none, none⟩,
    ⟨some 2, .mv (.tmp 19), none, none⟩]
def logic_Xor_ic : IC := (.seq (.reg logic_Xor_r0 [.keep [0] []]) (.seq (.reg logic_Xor_r1 [.keep [0, 3] []]) (.seq (.seq (.reg logic_Xor_r2 [.keep [3, 6, 7, 8] []]) (.block 0 logic_Xor_l1)) (.seq (.reg logic_Xor_r9 [.keep [2] []]) .ret))))
@[simp ↓] theorem logic_Xor_g0_run : run P Γ logic_Xor_g0 Q s = run P Γ (.gh (.seq (.reg logic_Xor_r3 [.keep [3, 6, 7, 8, 9] []]) (.seq (.cond (.tmp 9) .skip (.exit 0)) (.seq (.block 1 (.seq (.reg logic_Xor_r4 [.keep [3, 5, 6, 7, 8] []]) (.seq (.seq (.reg logic_Xor_r5 [.keep [3, 5, 6, 7, 8, 14] []]) (.cond (.tmp 14) (.seq (.reg logic_Xor_r6 [.keep [2] []]) .ret) .skip)) (.reg logic_Xor_r7 [.keep [3, 6, 7, 8] []])))) (.reg logic_Xor_r8 [.keep [3, 6, 7, 8] []])))) [.keep [3, 6, 7, 8] []]) Q s := Eq.trans rfl rfl
@[simp ↓] theorem logic_Xor_ic_run : run P Γ logic_Xor_ic Q s = run P Γ (.seq (.reg logic_Xor_r0 [.keep [0] []]) (.seq (.reg logic_Xor_r1 [.keep [0, 3] []]) (.seq (.seq (.reg logic_Xor_r2 [.keep [3, 6, 7, 8] []]) (.block 0 logic_Xor_l1)) (.seq (.reg logic_Xor_r9 [.keep [2] []]) .ret)))) Q s := Eq.trans rfl rfl
theorem logic_Xor_l1_run (h : ∀ K : St → Prop, K = run P Γ logic_Xor_l1 Q → run P Γ logic_Xor_g0 (thenX K Q) s) : run P Γ logic_Xor_l1 Q s := run_loop h
attribute [simp] logic_Xor_r0 logic_Xor_r1 logic_Xor_r2 logic_Xor_r3 logic_Xor_r4 logic_Xor_r5 logic_Xor_r6 logic_Xor_r7 logic_Xor_r8 logic_Xor_r9
def logic_Xor_rv : List RV := [.tmp 2]

/- probecard/logic.Mux (function 87) -/
def logic_Mux_r0 : List RO := [
    ⟨some 6, .mv (.const (.int .u8 0)), none, none⟩]
def logic_Mux_r1 : List RO := [
    ⟨some 8, .mv (.tmp 0), none, none⟩,
    ⟨some 9, .bin .eql (.tmp 8) (.const (.int .u8 0)), none, none⟩,
    ⟨some 7, .mv (.tmp 9), none, none⟩]
def logic_Mux_r2 : List RO := [
    ⟨some 10, .mv (.tmp 1), none, none⟩,
    ⟨some 11, .call 31 [(.tmp 10)], none, none⟩,
    ⟨some 6, .mv (.tmp 11), none, none⟩]
def logic_Mux_r3 : List RO := [
    ⟨some 13, .mv (.tmp 0), none, none⟩,
    ⟨some 14, .bin .eql (.tmp 13) (.const (.int .u8 1)), none, none⟩,
    ⟨some 12, .mv (.tmp 14), none, none⟩]
def logic_Mux_r4 : List RO := [
    ⟨some 15, .mv (.tmp 2), none, none⟩,
    ⟨some 16, .call 31 [(.tmp 15)], none, none⟩,
    ⟨some 6, .mv (.tmp 16), none, none⟩]
def logic_Mux_r5 : List RO := [
    ⟨some 18, .mv (.tmp 1), none, none⟩,
    ⟨some 19, .mv (.tmp 2), none, none⟩,
    ⟨some 20, .bin .eql (.tmp 18) (.tmp 19), none, none⟩,
    ⟨some 17, .mv (.tmp 20), none, none⟩]
def logic_Mux_r6 : List RO := [
    ⟨some 21, .mv (.tmp 1), none, none⟩,
    ⟨some 22, .call 31 [(.tmp 21)], none, none⟩,
    ⟨some 6, .mv (.tmp 22), none, none⟩]
def logic_Mux_r7 : List RO := [
    ⟨some 6, .mv (.const (.int .u8 2)), none, none⟩]
def logic_Mux_ic : IC := (.seq (.reg logic_Mux_r0 [.keep [0, 1, 2] []]) (.seq (.block 0 (.seq (.reg logic_Mux_r1 [.keep [0, 1, 2, 7] []]) (.cond (.tmp 7) (.seq (.reg logic_Mux_r2 [.keep [6] []]) .ret) (.seq (.reg logic_Mux_r3 [.keep [1, 2, 12] []]) (.cond (.tmp 12) (.seq (.reg logic_Mux_r4 [.keep [6] []]) .ret) (.seq (.reg logic_Mux_r5 [.keep [1, 17] []]) (.cond (.tmp 17) (.seq (.reg logic_Mux_r6 [.keep [6] []]) .ret) .skip))))))) (.seq (.reg logic_Mux_r7 [.keep [6] []]) .ret)))
@[simp ↓] theorem logic_Mux_ic_run : run P Γ logic_Mux_ic Q s = run P Γ (.seq (.reg logic_Mux_r0 [.keep [0, 1, 2] []]) (.seq (.block 0 (.seq (.reg logic_Mux_r1 [.keep [0, 1, 2, 7] []]) (.cond (.tmp 7) (.seq (.reg logic_Mux_r2 [.keep [6] []]) .ret) (.seq (.reg logic_Mux_r3 [.keep [1, 2, 12] []]) (.cond (.tmp 12) (.seq (.reg logic_Mux_r4 [.keep [6] []]) .ret) (.seq (.reg logic_Mux_r5 [.keep [1, 17] []]) (.cond (.tmp 17) (.seq (.reg logic_Mux_r6 [.keep [6] []]) .ret) .skip))))))) (.seq (.reg logic_Mux_r7 [.keep [6] []]) .ret))) Q s := Eq.trans rfl rfl
attribute [simp] logic_Mux_r0 logic_Mux_r1 logic_Mux_r2 logic_Mux_r3 logic_Mux_r4 logic_Mux_r5 logic_Mux_r6 logic_Mux_r7
def logic_Mux_rv : List RV := [.tmp 6]

/- probecard/logic.Tri (function 88) -/
def logic_Tri_r0 : List RO := [
    ⟨some 4, .mv (.const (.int .u8 0)), none, none⟩]
def logic_Tri_r1 : List RO := [
    ⟨some 5, .mv (.tmp 0), none, none⟩]
def logic_Tri_r2 : List RO := [
    ⟨some 7, .bin .eql (.tmp 5) (.const (.int .u8 0)), none, none⟩,
    ⟨some 6, .mv (.tmp 7), none, none⟩]
def logic_Tri_r3 : List RO := [
    ⟨some 4, .mv (.const (.int .u8 3)), none, none⟩]
def logic_Tri_r4 : List RO := [
    ⟨some 9, .bin .eql (.tmp 5) (.const (.int .u8 1)), none, none⟩,
    ⟨some 8, .mv (.tmp 9), none, none⟩]
def logic_Tri_r5 : List RO := [
    ⟨some 10, .mv (.tmp 1), none, none⟩,
    ⟨some 11, .call 31 [(.tmp 10)], none, none⟩,
    ⟨some 4, .mv (.tmp 11), none, none⟩]
def logic_Tri_r6 : List RO := [
    ⟨some 4, .mv (.const (.int .u8 2)), none, none⟩]
def logic_Tri_ic : IC := (.seq (.reg logic_Tri_r0 [.keep [0, 1] []]) (.seq (.seq (.reg logic_Tri_r1 [.keep [1, 5] []]) (.block 0 (.seq (.reg logic_Tri_r2 [.keep [1, 5, 6] []]) (.cond (.tmp 6) (.seq (.reg logic_Tri_r3 [.keep [4] []]) .ret) (.seq (.reg logic_Tri_r4 [.keep [1, 8] []]) (.cond (.tmp 8) (.seq (.reg logic_Tri_r5 [.keep [4] []]) .ret) .skip)))))) (.seq (.reg logic_Tri_r6 [.keep [4] []]) .ret)))
@[simp ↓] theorem logic_Tri_ic_run : run P Γ logic_Tri_ic Q s = run P Γ (.seq (.reg logic_Tri_r0 [.keep [0, 1] []]) (.seq (.seq (.reg logic_Tri_r1 [.keep [1, 5] []]) (.block 0 (.seq (.reg logic_Tri_r2 [.keep [1, 5, 6] []]) (.cond (.tmp 6) (.seq (.reg logic_Tri_r3 [.keep [4] []]) .ret) (.seq (.reg logic_Tri_r4 [.keep [1, 8] []]) (.cond (.tmp 8) (.seq (.reg logic_Tri_r5 [.keep [4] []]) .ret) .skip)))))) (.seq (.reg logic_Tri_r6 [.keep [4] []]) .ret))) Q s := Eq.trans rfl rfl
attribute [simp] logic_Tri_r0 logic_Tri_r1 logic_Tri_r2 logic_Tri_r3 logic_Tri_r4 logic_Tri_r5 logic_Tri_r6
def logic_Tri_rv : List RV := [.tmp 4]

/- probecard/logic.Bus (function 89) -/
def logic_Bus_r0 : List RO := [
    ⟨some 2, .mv (.const (.int .u8 0)), none, none⟩]
def logic_Bus_r1 : List RO := [
    ⟨some 3, .mv (.func 110), none, none⟩]
def logic_Bus_r2 : List RO := [
    ⟨some 4, .mv (.func 111), none, none⟩]
def logic_Bus_r3 : List RO := [
    ⟨some 6, .mv (.tmp 0), none, none⟩,
    ⟨some 7, .mv (.tmp 4), none, none⟩,
    ⟨some 8, .call 102 [(.tmp 6), (.tmp 7)], none, none⟩,
    ⟨some 5, .mv (.tmp 8), none, none⟩]
def logic_Bus_r4 : List RO := [
    ⟨some 10, .mv (.tmp 5), none, none⟩,
    ⟨some 11, .bin .lss (.tmp 10) (.const (.int .i64 0)), none, none⟩,
    ⟨some 9, .mv (.tmp 11), none, none⟩]
def logic_Bus_r5 : List RO := [
    ⟨some 2, .mv (.const (.int .u8 3)), none, none⟩]
def logic_Bus_r6 : List RO := [
    ⟨some 13, .mv (.tmp 0), none, none⟩,
    ⟨some 14, .call 93 [(.tmp 13)], none, none⟩,
    ⟨some 15, .mv (.tmp 14), none, none⟩,
    ⟨some 16, .mv (.tmp 0), some (15, false), none⟩,
    ⟨some 17, .mv (.tmp 3), some (15, false), none⟩,
    ⟨some 18, .call 73 [(.tmp 16), (.tmp 17)], some (15, false), none⟩,
    ⟨some 19, .pick (.tmp 15) (.const (.bool true)) (.tmp 18), none, none⟩,
    ⟨some 12, .mv (.tmp 19), none, none⟩]
def logic_Bus_r7 : List RO := [
    ⟨some 2, .mv (.const (.int .u8 2)), none, none⟩]
def logic_Bus_r8 : List RO := [
    ⟨some 20, .mv (.tmp 0), none, none⟩,
    ⟨some 21, .mv (.tmp 5), none, none⟩,
    ⟨some 22, .iadr 1 (.tmp 20) (.tmp 21), none, none⟩,
    ⟨some 23, .load 1 false (.tmp 22), none, none⟩,
    ⟨some 2, .mv (.tmp 23), none, none⟩]
def logic_Bus_ic : IC := (.seq (.reg logic_Bus_r0 [.keep [0] []]) (.seq (.reg logic_Bus_r1 [.keep [0, 3] []]) (.seq (.reg logic_Bus_r2 [.keep [0, 3, 4] []]) (.seq (.reg logic_Bus_r3 [.keep [0, 3, 5] []]) (.seq (.block 0 (.seq (.reg logic_Bus_r4 [.keep [0, 3, 5, 9] []]) (.cond (.tmp 9) (.seq (.reg logic_Bus_r5 [.keep [2] []]) .ret) (.seq (.reg logic_Bus_r6 [.keep [0, 5, 12] []]) (.cond (.tmp 12) (.seq (.reg logic_Bus_r7 [.keep [2] []]) .ret) .skip))))) (.seq (.reg logic_Bus_r8 [.keep [2] []]) .ret))))))
@[simp ↓] theorem logic_Bus_ic_run : run P Γ logic_Bus_ic Q s = run P Γ (.seq (.reg logic_Bus_r0 [.keep [0] []]) (.seq (.reg logic_Bus_r1 [.keep [0, 3] []]) (.seq (.reg logic_Bus_r2 [.keep [0, 3, 4] []]) (.seq (.reg logic_Bus_r3 [.keep [0, 3, 5] []]) (.seq (.block 0 (.seq (.reg logic_Bus_r4 [.keep [0, 3, 5, 9] []]) (.cond (.tmp 9) (.seq (.reg logic_Bus_r5 [.keep [2] []]) .ret) (.seq (.reg logic_Bus_r6 [.keep [0, 5, 12] []]) (.cond (.tmp 12) (.seq (.reg logic_Bus_r7 [.keep [2] []]) .ret) .skip))))) (.seq (.reg logic_Bus_r8 [.keep [2] []]) .ret)))))) Q s := Eq.trans rfl rfl
attribute [simp] logic_Bus_r0 logic_Bus_r1 logic_Bus_r2 logic_Bus_r3 logic_Bus_r4 logic_Bus_r5 logic_Bus_r6 logic_Bus_r7 logic_Bus_r8
def logic_Bus_rv : List RV := [.tmp 2]

/- probecard/logic.Bus$1 (function 110) -/
def logic_Bus_1_r0 : List RO := [
    ⟨some 2, .mv (.const (.bool false)), none, none⟩]
def logic_Bus_1_r1 : List RO := [
    ⟨some 3, .mv (.tmp 0), none, none⟩,
    ⟨some 4, .call 92 [(.tmp 3)], none, none⟩,
    ⟨some 5, .bin .eql (.tmp 4) (.const (.int .u8 2)), none, none⟩,
    ⟨some 2, .mv (.tmp 5), none, none⟩]
def logic_Bus_1_ic : IC := (.seq (.reg logic_Bus_1_r0 [.keep [0] []]) (.seq (.reg logic_Bus_1_r1 [.keep [2] []]) .ret))
@[simp ↓] theorem logic_Bus_1_ic_run : run P Γ logic_Bus_1_ic Q s = run P Γ (.seq (.reg logic_Bus_1_r0 [.keep [0] []]) (.seq (.reg logic_Bus_1_r1 [.keep [2] []]) .ret)) Q s := Eq.trans rfl rfl
attribute [simp] logic_Bus_1_r0 logic_Bus_1_r1
def logic_Bus_1_rv : List RV := [.tmp 2]

/- probecard/logic.Bus$2 (function 111) -/
def logic_Bus_2_r0 : List RO := [
    ⟨some 2, .mv (.const (.bool false)), none, none⟩]
def logic_Bus_2_r1 : List RO := [
    ⟨some 3, .mv (.tmp 0), none, none⟩,
    ⟨some 4, .bin .neq (.tmp 3) (.const (.int .u8 3)), none, none⟩,
    ⟨some 2, .mv (.tmp 4), none, none⟩]
def logic_Bus_2_ic : IC := (.seq (.reg logic_Bus_2_r0 [.keep [0] []]) (.seq (.reg logic_Bus_2_r1 [.keep [2] []]) .ret))
@[simp ↓] theorem logic_Bus_2_ic_run : run P Γ logic_Bus_2_ic Q s = run P Γ (.seq (.reg logic_Bus_2_r0 [.keep [0] []]) (.seq (.reg logic_Bus_2_r1 [.keep [2] []]) .ret)) Q s := Eq.trans rfl rfl
attribute [simp] logic_Bus_2_r0 logic_Bus_2_r1
def logic_Bus_2_rv : List RV := [.tmp 2]

/- probecard/logic.Conflict (function 93) -/
def logic_Conflict_r0 : List RO := [
    ⟨some 2, .mv (.const (.bool false)), none, none⟩]
def logic_Conflict_r1 : List RO := [
    ⟨some 3, .mv (.tmp 0), none, none⟩,
    ⟨some 4, .call 113 [(.tmp 3), (.const (.int .u8 0))], none, none⟩,
    ⟨some 5, .mv (.tmp 4), none, none⟩,
    ⟨some 6, .mv (.tmp 0), some (5, true), none⟩,
    ⟨some 7, .call 113 [(.tmp 6), (.const (.int .u8 1))], some (5, true), none⟩,
    ⟨some 8, .pick (.tmp 5) (.tmp 7) (.const (.bool false)), none, none⟩,
    ⟨some 2, .mv (.tmp 8), none, none⟩]
def logic_Conflict_ic : IC := (.seq (.reg logic_Conflict_r0 [.keep [0] []]) (.seq (.reg logic_Conflict_r1 [.keep [2] []]) .ret))
@[simp ↓] theorem logic_Conflict_ic_run : run P Γ logic_Conflict_ic Q s = run P Γ (.seq (.reg logic_Conflict_r0 [.keep [0] []]) (.seq (.reg logic_Conflict_r1 [.keep [2] []]) .ret)) Q s := Eq.trans rfl rfl
attribute [simp] logic_Conflict_r0 logic_Conflict_r1
def logic_Conflict_rv : List RV := [.tmp 2]

/- slices.Contains[[]probecard/api.Value,probecard/api.Value] (function 113) -/
def slices_Contains_api_Value_r0 : List RO := [
    ⟨some 4, .mv (.const (.bool false)), none, none⟩]
def slices_Contains_api_Value_r1 : List RO := [
    ⟨some 5, .mv (.tmp 0), none, none⟩,
    ⟨some 6, .mv (.tmp 1), none, none⟩,
    ⟨some 7, .call 128 [(.tmp 5), (.tmp 6)], none, none⟩,
    ⟨some 8, .bin .geq (.tmp 7) (.const (.int .i64 0)), none, none⟩,
    ⟨some 4, .mv (.tmp 8), none, none⟩]
def slices_Contains_api_Value_ic : IC := (.seq (.reg slices_Contains_api_Value_r0 [.keep [0, 1] []]) (.seq (.reg slices_Contains_api_Value_r1 [.keep [4] []]) .ret))
@[simp ↓] theorem slices_Contains_api_Value_ic_run : run P Γ slices_Contains_api_Value_ic Q s = run P Γ (.seq (.reg slices_Contains_api_Value_r0 [.keep [0, 1] []]) (.seq (.reg slices_Contains_api_Value_r1 [.keep [4] []]) .ret)) Q s := Eq.trans rfl rfl
attribute [simp] slices_Contains_api_Value_r0 slices_Contains_api_Value_r1
def slices_Contains_api_Value_rv : List RV := [.tmp 4]

/- slices.Index[[]probecard/api.Value,probecard/api.Value] (function 128) -/
def slices_Index_api_Value_r0 : List RO := [
    ⟨some 4, .mv (.const (.int .i64 0)), none, none⟩]
def slices_Index_api_Value_r1 : List RO := [
    ⟨some 6, .mv (.tmp 0), none, none⟩,
    ⟨some 7, .len 0 (.tmp 6), none, none⟩,
    ⟨some 8, .mv (.const (.int .i64 0)), none, none⟩]
def slices_Index_api_Value_r2 : List RO := [
    ⟨some 9, .bin .lss (.tmp 8) (.tmp 7), none, none⟩]
def slices_Index_api_Value_r3 : List RO := [
    ⟨some 10, .mv (.tmp 8), none, none⟩,
    ⟨some 5, .mv (.tmp 10), none, none⟩]
def slices_Index_api_Value_r4 : List RO := [
    ⟨some 11, .mv (.tmp 1), none, none⟩,
    ⟨some 12, .mv (.tmp 0), none, none⟩,
    ⟨some 13, .mv (.tmp 5), none, none⟩,
    ⟨some 14, .iadr 1 (.tmp 12) (.tmp 13), none, none⟩,
    ⟨some 15, .load 1 false (.tmp 14), none, none⟩,
    ⟨some 16, .bin .eql (.tmp 11) (.tmp 15), none, none⟩]
def slices_Index_api_Value_r5 : List RO := [
    ⟨some 17, .mv (.tmp 5), none, none⟩,
    ⟨some 4, .mv (.tmp 17), none, none⟩]
def slices_Index_api_Value_r6 : List RO := [
    ⟨some 18, .bin .add (.tmp 8) (.const (.int .i64 1)), none, none⟩,
    ⟨some 8, .mv (.tmp 18), none, none⟩]
def slices_Index_api_Value_g0 : IC := .gh (.seq (.reg slices_Index_api_Value_r2 [.keep [0, 1, 7, 8, 9] []]) (.seq (.cond (.tmp 9) .skip (.exit 0)) (.seq (.block 1 (.seq (.reg slices_Index_api_Value_r3 [.keep [0, 1, 5, 7, 8] []]) (.seq (.reg slices_Index_api_Value_r4 [.keep [0, 1, 5, 7, 8, 16] []]) (.cond (.tmp 16) (.seq (.reg slices_Index_api_Value_r5 [.keep [4] []]) .ret) .skip)))) (.reg slices_Index_api_Value_r6 [.keep [0, 1, 7, 8] []])))) [.keep [0, 1, 7, 8] []]
def slices_Index_api_Value_l1 : IC := .loop slices_Index_api_Value_g0
def slices_Index_api_Value_r7 : List RO := [
    ⟨some 4, .mv (.const (.int .i64 (-1))), none, none⟩]
def slices_Index_api_Value_ic : IC := (.seq (.reg slices_Index_api_Value_r0 [.keep [0, 1] []]) (.seq (.seq (.reg slices_Index_api_Value_r1 [.keep [0, 1, 7, 8] []]) (.block 0 slices_Index_api_Value_l1)) (.seq (.reg slices_Index_api_Value_r7 [.keep [4] []]) .ret)))
@[simp ↓] theorem slices_Index_api_Value_g0_run : run P Γ slices_Index_api_Value_g0 Q s = run P Γ (.gh (.seq (.reg slices_Index_api_Value_r2 [.keep [0, 1, 7, 8, 9] []]) (.seq (.cond (.tmp 9) .skip (.exit 0)) (.seq (.block 1 (.seq (.reg slices_Index_api_Value_r3 [.keep [0, 1, 5, 7, 8] []]) (.seq (.reg slices_Index_api_Value_r4 [.keep [0, 1, 5, 7, 8, 16] []]) (.cond (.tmp 16) (.seq (.reg slices_Index_api_Value_r5 [.keep [4] []]) .ret) .skip)))) (.reg slices_Index_api_Value_r6 [.keep [0, 1, 7, 8] []])))) [.keep [0, 1, 7, 8] []]) Q s := Eq.trans rfl rfl
@[simp ↓] theorem slices_Index_api_Value_ic_run : run P Γ slices_Index_api_Value_ic Q s = run P Γ (.seq (.reg slices_Index_api_Value_r0 [.keep [0, 1] []]) (.seq (.seq (.reg slices_Index_api_Value_r1 [.keep [0, 1, 7, 8] []]) (.block 0 slices_Index_api_Value_l1)) (.seq (.reg slices_Index_api_Value_r7 [.keep [4] []]) .ret))) Q s := Eq.trans rfl rfl
theorem slices_Index_api_Value_l1_run (h : ∀ K : St → Prop, K = run P Γ slices_Index_api_Value_l1 Q → run P Γ slices_Index_api_Value_g0 (thenX K Q) s) : run P Γ slices_Index_api_Value_l1 Q s := run_loop h
attribute [simp] slices_Index_api_Value_r0 slices_Index_api_Value_r1 slices_Index_api_Value_r2 slices_Index_api_Value_r3 slices_Index_api_Value_r4 slices_Index_api_Value_r5 slices_Index_api_Value_r6 slices_Index_api_Value_r7
def slices_Index_api_Value_rv : List RV := [.tmp 4]

/- slices.ContainsFunc[[]probecard/api.Value,probecard/api.Value] (function 73) -/
def slices_ContainsFunc_api_Value_r0 : List RO := [
    ⟨some 4, .mv (.const (.bool false)), none, none⟩]
def slices_ContainsFunc_api_Value_r1 : List RO := [
    ⟨some 5, .mv (.tmp 0), none, none⟩,
    ⟨some 6, .mv (.tmp 1), none, none⟩,
    ⟨some 7, .call 102 [(.tmp 5), (.tmp 6)], none, none⟩,
    ⟨some 8, .bin .geq (.tmp 7) (.const (.int .i64 0)), none, none⟩,
    ⟨some 4, .mv (.tmp 8), none, none⟩]
def slices_ContainsFunc_api_Value_ic : IC := (.seq (.reg slices_ContainsFunc_api_Value_r0 [.keep [0, 1] []]) (.seq (.reg slices_ContainsFunc_api_Value_r1 [.keep [4] []]) .ret))
@[simp ↓] theorem slices_ContainsFunc_api_Value_ic_run : run P Γ slices_ContainsFunc_api_Value_ic Q s = run P Γ (.seq (.reg slices_ContainsFunc_api_Value_r0 [.keep [0, 1] []]) (.seq (.reg slices_ContainsFunc_api_Value_r1 [.keep [4] []]) .ret)) Q s := Eq.trans rfl rfl
attribute [simp] slices_ContainsFunc_api_Value_r0 slices_ContainsFunc_api_Value_r1
def slices_ContainsFunc_api_Value_rv : List RV := [.tmp 4]

/- slices.IndexFunc[[]probecard/api.Value,probecard/api.Value] (function 102) -/
def slices_IndexFunc_api_Value_r0 : List RO := [
    ⟨some 4, .mv (.const (.int .i64 0)), none, none⟩]
def slices_IndexFunc_api_Value_r1 : List RO := [
    ⟨some 6, .mv (.tmp 0), none, none⟩,
    ⟨some 7, .len 0 (.tmp 6), none, none⟩,
    ⟨some 8, .mv (.const (.int .i64 0)), none, none⟩]
def slices_IndexFunc_api_Value_r2 : List RO := [
    ⟨some 9, .bin .lss (.tmp 8) (.tmp 7), none, none⟩]
def slices_IndexFunc_api_Value_r3 : List RO := [
    ⟨some 10, .mv (.tmp 8), none, none⟩,
    ⟨some 5, .mv (.tmp 10), none, none⟩]
def slices_IndexFunc_api_Value_r4 : List RO := [
    ⟨some 11, .mv (.tmp 1), none, none⟩,
    ⟨some 12, .mv (.tmp 0), none, none⟩,
    ⟨some 13, .mv (.tmp 5), none, none⟩,
    ⟨some 14, .iadr 1 (.tmp 12) (.tmp 13), none, none⟩,
    ⟨some 15, .load 1 false (.tmp 14), none, none⟩,
    ⟨some 16, .callv (.tmp 11) [(.tmp 15)], none, none⟩]
def slices_IndexFunc_api_Value_r5 : List RO := [
    ⟨some 17, .mv (.tmp 5), none, none⟩,
    ⟨some 4, .mv (.tmp 17), none, none⟩]
def slices_IndexFunc_api_Value_r6 : List RO := [
    ⟨some 18, .bin .add (.tmp 8) (.const (.int .i64 1)), none, none⟩,
    ⟨some 8, .mv (.tmp 18), none, none⟩]
def slices_IndexFunc_api_Value_g0 : IC := .gh (.seq (.reg slices_IndexFunc_api_Value_r2 [.keep [0, 1, 7, 8, 9] []]) (.seq (.cond (.tmp 9) .skip (.exit 0)) (.seq (.block 1 (.seq (.reg slices_IndexFunc_api_Value_r3 [.keep [0, 1, 5, 7, 8] []]) (.seq (.reg slices_IndexFunc_api_Value_r4 [.keep [0, 1, 5, 7, 8, 16] []]) (.cond (.tmp 16) (.seq (.reg slices_IndexFunc_api_Value_r5 [.keep [4] []]) .ret) .skip)))) (.reg slices_IndexFunc_api_Value_r6 [.keep [0, 1, 7, 8] []])))) [.keep [0, 1, 7, 8] []]
def slices_IndexFunc_api_Value_l1 : IC := .loop slices_IndexFunc_api_Value_g0
def slices_IndexFunc_api_Value_r7 : List RO := [
    ⟨some 4, .mv (.const (.int .i64 (-1))), none, none⟩]
def slices_IndexFunc_api_Value_ic : IC := (.seq (.reg slices_IndexFunc_api_Value_r0 [.keep [0, 1] []]) (.seq (.seq (.reg slices_IndexFunc_api_Value_r1 [.keep [0, 1, 7, 8] []]) (.block 0 slices_IndexFunc_api_Value_l1)) (.seq (.reg slices_IndexFunc_api_Value_r7 [.keep [4] []]) .ret)))
@[simp ↓] theorem slices_IndexFunc_api_Value_g0_run : run P Γ slices_IndexFunc_api_Value_g0 Q s = run P Γ (.gh (.seq (.reg slices_IndexFunc_api_Value_r2 [.keep [0, 1, 7, 8, 9] []]) (.seq (.cond (.tmp 9) .skip (.exit 0)) (.seq (.block 1 (.seq (.reg slices_IndexFunc_api_Value_r3 [.keep [0, 1, 5, 7, 8] []]) (.seq (.reg slices_IndexFunc_api_Value_r4 [.keep [0, 1, 5, 7, 8, 16] []]) (.cond (.tmp 16) (.seq (.reg slices_IndexFunc_api_Value_r5 [.keep [4] []]) .ret) .skip)))) (.reg slices_IndexFunc_api_Value_r6 [.keep [0, 1, 7, 8] []])))) [.keep [0, 1, 7, 8] []]) Q s := Eq.trans rfl rfl
@[simp ↓] theorem slices_IndexFunc_api_Value_ic_run : run P Γ slices_IndexFunc_api_Value_ic Q s = run P Γ (.seq (.reg slices_IndexFunc_api_Value_r0 [.keep [0, 1] []]) (.seq (.seq (.reg slices_IndexFunc_api_Value_r1 [.keep [0, 1, 7, 8] []]) (.block 0 slices_IndexFunc_api_Value_l1)) (.seq (.reg slices_IndexFunc_api_Value_r7 [.keep [4] []]) .ret))) Q s := Eq.trans rfl rfl
theorem slices_IndexFunc_api_Value_l1_run (h : ∀ K : St → Prop, K = run P Γ slices_IndexFunc_api_Value_l1 Q → run P Γ slices_IndexFunc_api_Value_g0 (thenX K Q) s) : run P Γ slices_IndexFunc_api_Value_l1 Q s := run_loop h
attribute [simp] slices_IndexFunc_api_Value_r0 slices_IndexFunc_api_Value_r1 slices_IndexFunc_api_Value_r2 slices_IndexFunc_api_Value_r3 slices_IndexFunc_api_Value_r4 slices_IndexFunc_api_Value_r5 slices_IndexFunc_api_Value_r6 slices_IndexFunc_api_Value_r7
def slices_IndexFunc_api_Value_rv : List RV := [.tmp 4]

/- probecard/logic.Eval (function 55) -/
def logic_Eval_r0 : List RO := [
    ⟨some 4, .mv (.const (.int .u8 0)), none, none⟩]
def logic_Eval_r1 : List RO := [
    ⟨some 8, .mv (.tmp 0), none, none⟩,
    ⟨some 9, .call 82 [(.tmp 8)], none, none⟩,
    ⟨some 7, .mv (.tmp 9), none, none⟩,
    ⟨some 10, .ext (.tmp 7) 0, none, none⟩,
    ⟨some 11, .ext (.tmp 7) 1, none, none⟩,
    ⟨some 5, .mv (.tmp 10), none, none⟩,
    ⟨some 6, .mv (.tmp 11), none, none⟩]
def logic_Eval_r2 : List RO := [
    ⟨some 12, .mv (.tmp 1), none, none⟩,
    ⟨some 13, .len 0 (.tmp 12), none, none⟩,
    ⟨some 14, .mv (.tmp 5), none, none⟩,
    ⟨some 15, .bin .lss (.tmp 13) (.tmp 14), none, none⟩,
    ⟨some 16, .mv (.tmp 15), none, none⟩,
    ⟨some 17, .mv (.tmp 1), some (16, false), none⟩,
    ⟨some 18, .len 0 (.tmp 17), some (16, false), none⟩,
    ⟨some 19, .mv (.tmp 6), some (16, false), none⟩,
    ⟨some 20, .bin .gtr (.tmp 18) (.tmp 19), some (16, false), none⟩,
    ⟨some 21, .pick (.tmp 16) (.const (.bool true)) (.tmp 20), none, none⟩]
def logic_Eval_r3 : List RO := [
    ⟨some 4, .mv (.const (.int .u8 2)), none, none⟩]
def logic_Eval_r4 : List RO := [
    ⟨some 22, .mv (.tmp 0), none, none⟩]
def logic_Eval_r5 : List RO := [
    ⟨some 24, .bin .eql (.tmp 22) (.const (.int .u8 1)), none, none⟩,
    ⟨some 23, .mv (.tmp 24), none, none⟩]
def logic_Eval_r6 : List RO := [
    ⟨some 4, .mv (.const (.int .u8 0)), none, none⟩]
def logic_Eval_r7 : List RO := [
    ⟨some 26, .bin .eql (.tmp 22) (.const (.int .u8 2)), none, none⟩,
    ⟨some 25, .mv (.tmp 26), none, none⟩]
def logic_Eval_r8 : List RO := [
    ⟨some 4, .mv (.const (.int .u8 1)), none, none⟩]
def logic_Eval_r9 : List RO := [
    ⟨some 28, .bin .eql (.tmp 22) (.const (.int .u8 3)), none, none⟩,
    ⟨some 27, .mv (.tmp 28), none, none⟩]
def logic_Eval_r10 : List RO := [
    ⟨some 29, .mv (.tmp 1), none, none⟩,
    ⟨some 30, .iadr 1 (.tmp 29) (.const (.int .i64 0)), none, none⟩,
    ⟨some 31, .load 1 false (.tmp 30), none, none⟩,
    ⟨some 32, .call 31 [(.tmp 31)], none, none⟩,
    ⟨some 4, .mv (.tmp 32), none, none⟩]
def logic_Eval_r11 : List RO := [
    ⟨some 34, .bin .eql (.tmp 22) (.const (.int .u8 4)), none, none⟩,
    ⟨some 33, .mv (.tmp 34), none, none⟩]
def logic_Eval_r12 : List RO := [
    ⟨some 35, .mv (.tmp 1), none, none⟩,
    ⟨some 36, .iadr 1 (.tmp 35) (.const (.int .i64 0)), none, none⟩,
    ⟨some 37, .load 1 false (.tmp 36), none, none⟩,
    ⟨some 38, .call 83 [(.tmp 37)], none, none⟩,
    ⟨some 4, .mv (.tmp 38), none, none⟩]
def logic_Eval_r13 : List RO := [
    ⟨some 40, .bin .eql (.tmp 22) (.const (.int .u8 5)), none, none⟩,
    ⟨some 39, .mv (.tmp 40), none, none⟩]
def logic_Eval_r14 : List RO := [
    ⟨some 41, .mv (.tmp 1), none, none⟩,
    ⟨some 42, .call 84 [(.tmp 41)], none, none⟩,
    ⟨some 4, .mv (.tmp 42), none, none⟩]
def logic_Eval_r15 : List RO := [
    ⟨some 44, .bin .eql (.tmp 22) (.const (.int .u8 6)), none, none⟩,
    ⟨some 43, .mv (.tmp 44), none, none⟩]
def logic_Eval_r16 : List RO := [
    ⟨some 45, .mv (.tmp 1), none, none⟩,
    ⟨some 46, .call 84 [(.tmp 45)], none, none⟩,
    ⟨some 47, .call 83 [(.tmp 46)], none, none⟩,
    ⟨some 4, .mv (.tmp 47), none, none⟩]
def logic_Eval_r17 : List RO := [
    ⟨some 49, .bin .eql (.tmp 22) (.const (.int .u8 7)), none, none⟩,
    ⟨some 48, .mv (.tmp 49), none, none⟩]
def logic_Eval_r18 : List RO := [
    ⟨some 50, .mv (.tmp 1), none, none⟩,
    ⟨some 51, .call 85 [(.tmp 50)], none, none⟩,
    ⟨some 4, .mv (.tmp 51), none, none⟩]
def logic_Eval_r19 : List RO := [
    ⟨some 53, .bin .eql (.tmp 22) (.const (.int .u8 8)), none, none⟩,
    ⟨some 52, .mv (.tmp 53), none, none⟩]
def logic_Eval_r20 : List RO := [
    ⟨some 54, .mv (.tmp 1), none, none⟩,
    ⟨some 55, .call 85 [(.tmp 54)], none, none⟩,
    ⟨some 56, .call 83 [(.tmp 55)], none, none⟩,
    ⟨some 4, .mv (.tmp 56), none, none⟩]
def logic_Eval_r21 : List RO := [
    ⟨some 58, .bin .eql (.tmp 22) (.const (.int .u8 9)), none, none⟩,
    ⟨some 57, .mv (.tmp 58), none, none⟩]
def logic_Eval_r22 : List RO := [
    ⟨some 59, .mv (.tmp 1), none, none⟩,
    ⟨some 60, .call 86 [(.tmp 59)], none, none⟩,
    ⟨some 4, .mv (.tmp 60), none, none⟩]
def logic_Eval_r23 : List RO := [
    ⟨some 62, .bin .eql (.tmp 22) (.const (.int .u8 10)), none, none⟩,
    ⟨some 61, .mv (.tmp 62), none, none⟩]
def logic_Eval_r24 : List RO := [
    ⟨some 63, .mv (.tmp 1), none, none⟩,
    ⟨some 64, .call 86 [(.tmp 63)], none, none⟩,
    ⟨some 65, .call 83 [(.tmp 64)], none, none⟩,
    ⟨some 4, .mv (.tmp 65), none, none⟩]
def logic_Eval_r25 : List RO := [
    ⟨some 67, .bin .eql (.tmp 22) (.const (.int .u8 11)), none, none⟩,
    ⟨some 66, .mv (.tmp 67), none, none⟩]
def logic_Eval_r26 : List RO := [
    ⟨some 68, .mv (.tmp 1), none, none⟩,
    ⟨some 69, .iadr 1 (.tmp 68) (.const (.int .i64 0)), none, none⟩,
    ⟨some 70, .load 1 false (.tmp 69), none, none⟩,
    ⟨some 71, .mv (.tmp 1), none, none⟩,
    ⟨some 72, .iadr 1 (.tmp 71) (.const (.int .i64 1)), none, none⟩,
    ⟨some 73, .load 1 false (.tmp 72), none, none⟩,
    ⟨some 74, .mv (.tmp 1), none, none⟩,
    ⟨some 75, .iadr 1 (.tmp 74) (.const (.int .i64 2)), none, none⟩,
    ⟨some 76, .load 1 false (.tmp 75), none, none⟩,
    ⟨some 77, .call 87 [(.tmp 70), (.tmp 73), (.tmp 76)], none, none⟩,
    ⟨some 4, .mv (.tmp 77), none, none⟩]
def logic_Eval_r27 : List RO := [
    ⟨some 79, .bin .eql (.tmp 22) (.const (.int .u8 12)), none, none⟩,
    ⟨some 78, .mv (.tmp 79), none, none⟩]
def logic_Eval_r28 : List RO := [
    ⟨some 80, .mv (.tmp 1), none, none⟩,
    ⟨some 81, .iadr 1 (.tmp 80) (.const (.int .i64 0)), none, none⟩,
    ⟨some 82, .load 1 false (.tmp 81), none, none⟩,
    ⟨some 83, .mv (.tmp 1), none, none⟩,
    ⟨some 84, .iadr 1 (.tmp 83) (.const (.int .i64 1)), none, none⟩,
    ⟨some 85, .load 1 false (.tmp 84), none, none⟩,
    ⟨some 86, .call 88 [(.tmp 82), (.tmp 85)], none, none⟩,
    ⟨some 4, .mv (.tmp 86), none, none⟩]
def logic_Eval_r29 : List RO := [
    ⟨some 88, .bin .eql (.tmp 22) (.const (.int .u8 13)), none, none⟩,
    ⟨some 87, .mv (.tmp 88), none, none⟩]
def logic_Eval_r30 : List RO := [
    ⟨some 89, .mv (.tmp 1), none, none⟩,
    ⟨some 90, .call 89 [(.tmp 89)], none, none⟩,
    ⟨some 4, .mv (.tmp 90), none, none⟩]
def logic_Eval_c0 : IC := (.seq (.reg logic_Eval_r23 [.keep [1, 22, 61] []]) (.cond (.tmp 61) (.seq (.reg logic_Eval_r24 [.keep [4] []]) .ret) (.seq (.reg logic_Eval_r25 [.keep [1, 22, 66] []]) (.cond (.tmp 66) (.seq (.reg logic_Eval_r26 [.keep [4] []]) .ret) (.seq (.reg logic_Eval_r27 [.keep [1, 22, 78] []]) (.cond (.tmp 78) (.seq (.reg logic_Eval_r28 [.keep [4] []]) .ret) (.seq (.reg logic_Eval_r29 [.keep [1, 87] []]) (.cond (.tmp 87) (.seq (.reg logic_Eval_r30 [.keep [4] []]) .ret) .skip))))))))
def logic_Eval_c1 : IC := (.seq (.reg logic_Eval_r15 [.keep [1, 22, 43] []]) (.cond (.tmp 43) (.seq (.reg logic_Eval_r16 [.keep [4] []]) .ret) (.seq (.reg logic_Eval_r17 [.keep [1, 22, 48] []]) (.cond (.tmp 48) (.seq (.reg logic_Eval_r18 [.keep [4] []]) .ret) (.seq (.reg logic_Eval_r19 [.keep [1, 22, 52] []]) (.cond (.tmp 52) (.seq (.reg logic_Eval_r20 [.keep [4] []]) .ret) (.seq (.reg logic_Eval_r21 [.keep [1, 22, 57] []]) (.cond (.tmp 57) (.seq (.reg logic_Eval_r22 [.keep [4] []]) .ret) logic_Eval_c0))))))))
def logic_Eval_c2 : IC := (.seq (.reg logic_Eval_r7 [.keep [1, 22, 25] []]) (.cond (.tmp 25) (.seq (.reg logic_Eval_r8 [.keep [4] []]) .ret) (.seq (.reg logic_Eval_r9 [.keep [1, 22, 27] []]) (.cond (.tmp 27) (.seq (.reg logic_Eval_r10 [.keep [4] []]) .ret) (.seq (.reg logic_Eval_r11 [.keep [1, 22, 33] []]) (.cond (.tmp 33) (.seq (.reg logic_Eval_r12 [.keep [4] []]) .ret) (.seq (.reg logic_Eval_r13 [.keep [1, 22, 39] []]) (.cond (.tmp 39) (.seq (.reg logic_Eval_r14 [.keep [4] []]) .ret) logic_Eval_c1))))))))
def logic_Eval_r31 : List RO := [
    ⟨some 4, .mv (.const (.int .u8 2)), none, none⟩]
def logic_Eval_ic : IC := (.seq (.reg logic_Eval_r0 [.keep [0, 1] []]) (.seq (.seq (.reg logic_Eval_r1 [.keep [0, 1, 5, 6] []]) (.seq (.reg logic_Eval_r2 [.keep [0, 1, 21] []]) (.cond (.tmp 21) (.seq (.reg logic_Eval_r3 [.keep [4] []]) .ret) .skip))) (.seq (.seq (.reg logic_Eval_r4 [.keep [1, 22] []]) (.block 0 (.seq (.reg logic_Eval_r5 [.keep [1, 22, 23] []]) (.cond (.tmp 23) (.seq (.reg logic_Eval_r6 [.keep [4] []]) .ret) logic_Eval_c2)))) (.seq (.reg logic_Eval_r31 [.keep [4] []]) .ret))))
@[simp ↓] theorem logic_Eval_c0_run : run P Γ logic_Eval_c0 Q s = run P Γ (.seq (.reg logic_Eval_r23 [.keep [1, 22, 61] []]) (.cond (.tmp 61) (.seq (.reg logic_Eval_r24 [.keep [4] []]) .ret) (.seq (.reg logic_Eval_r25 [.keep [1, 22, 66] []]) (.cond (.tmp 66) (.seq (.reg logic_Eval_r26 [.keep [4] []]) .ret) (.seq (.reg logic_Eval_r27 [.keep [1, 22, 78] []]) (.cond (.tmp 78) (.seq (.reg logic_Eval_r28 [.keep [4] []]) .ret) (.seq (.reg logic_Eval_r29 [.keep [1, 87] []]) (.cond (.tmp 87) (.seq (.reg logic_Eval_r30 [.keep [4] []]) .ret) .skip)))))))) Q s := Eq.trans rfl rfl
@[simp ↓] theorem logic_Eval_c1_run : run P Γ logic_Eval_c1 Q s = run P Γ (.seq (.reg logic_Eval_r15 [.keep [1, 22, 43] []]) (.cond (.tmp 43) (.seq (.reg logic_Eval_r16 [.keep [4] []]) .ret) (.seq (.reg logic_Eval_r17 [.keep [1, 22, 48] []]) (.cond (.tmp 48) (.seq (.reg logic_Eval_r18 [.keep [4] []]) .ret) (.seq (.reg logic_Eval_r19 [.keep [1, 22, 52] []]) (.cond (.tmp 52) (.seq (.reg logic_Eval_r20 [.keep [4] []]) .ret) (.seq (.reg logic_Eval_r21 [.keep [1, 22, 57] []]) (.cond (.tmp 57) (.seq (.reg logic_Eval_r22 [.keep [4] []]) .ret) logic_Eval_c0)))))))) Q s := Eq.trans rfl rfl
@[simp ↓] theorem logic_Eval_c2_run : run P Γ logic_Eval_c2 Q s = run P Γ (.seq (.reg logic_Eval_r7 [.keep [1, 22, 25] []]) (.cond (.tmp 25) (.seq (.reg logic_Eval_r8 [.keep [4] []]) .ret) (.seq (.reg logic_Eval_r9 [.keep [1, 22, 27] []]) (.cond (.tmp 27) (.seq (.reg logic_Eval_r10 [.keep [4] []]) .ret) (.seq (.reg logic_Eval_r11 [.keep [1, 22, 33] []]) (.cond (.tmp 33) (.seq (.reg logic_Eval_r12 [.keep [4] []]) .ret) (.seq (.reg logic_Eval_r13 [.keep [1, 22, 39] []]) (.cond (.tmp 39) (.seq (.reg logic_Eval_r14 [.keep [4] []]) .ret) logic_Eval_c1)))))))) Q s := Eq.trans rfl rfl
@[simp ↓] theorem logic_Eval_ic_run : run P Γ logic_Eval_ic Q s = run P Γ (.seq (.reg logic_Eval_r0 [.keep [0, 1] []]) (.seq (.seq (.reg logic_Eval_r1 [.keep [0, 1, 5, 6] []]) (.seq (.reg logic_Eval_r2 [.keep [0, 1, 21] []]) (.cond (.tmp 21) (.seq (.reg logic_Eval_r3 [.keep [4] []]) .ret) .skip))) (.seq (.seq (.reg logic_Eval_r4 [.keep [1, 22] []]) (.block 0 (.seq (.reg logic_Eval_r5 [.keep [1, 22, 23] []]) (.cond (.tmp 23) (.seq (.reg logic_Eval_r6 [.keep [4] []]) .ret) logic_Eval_c2)))) (.seq (.reg logic_Eval_r31 [.keep [4] []]) .ret)))) Q s := Eq.trans rfl rfl
attribute [simp] logic_Eval_r0 logic_Eval_r1 logic_Eval_r2 logic_Eval_r3 logic_Eval_r4 logic_Eval_r5 logic_Eval_r6 logic_Eval_r7 logic_Eval_r8 logic_Eval_r9 logic_Eval_r10 logic_Eval_r11 logic_Eval_r12 logic_Eval_r13 logic_Eval_r14 logic_Eval_r15 logic_Eval_r16 logic_Eval_r17 logic_Eval_r18 logic_Eval_r19 logic_Eval_r20 logic_Eval_r21 logic_Eval_r22 logic_Eval_r23 logic_Eval_r24 logic_Eval_r25 logic_Eval_r26 logic_Eval_r27 logic_Eval_r28 logic_Eval_r29 logic_Eval_r30 logic_Eval_r31
def logic_Eval_rv : List RV := [.tmp 4]
end
end Go.Lg

/- The abstract code is that of the program (by the kernel). Conditions: none. -/
namespace Go.Lg
open Go Go.Proofs
theorem logic_Clean_chk : chkF Tryd.prog 92 logic_Clean_ic 6 1 logic_Clean_rv = true := by kernel_rfl
theorem logic_Read_chk : chkF Tryd.prog 31 logic_Read_ic 5 1 logic_Read_rv = true := by kernel_rfl
theorem logic_Known_chk : chkF Tryd.prog 30 logic_Known_ic 5 1 logic_Known_rv = true := by kernel_rfl
theorem logic_Below_chk : chkF Tryd.prog 65 logic_Below_ic 16 2 logic_Below_rv = true := by kernel_rfl
theorem logic_Not_chk : chkF Tryd.prog 83 logic_Not_ic 7 1 logic_Not_rv = true := by kernel_rfl
theorem logic_decided_chk : chkF Tryd.prog 109 logic_decided_ic 28 3 logic_decided_rv = true := by kernel_rfl
theorem logic_And_chk : chkF Tryd.prog 84 logic_And_ic 5 1 logic_And_rv = true := by kernel_rfl
theorem logic_Or_chk : chkF Tryd.prog 85 logic_Or_ic 5 1 logic_Or_rv = true := by kernel_rfl
theorem logic_Xor_chk : chkF Tryd.prog 86 logic_Xor_ic 20 1 logic_Xor_rv = true := by kernel_rfl
theorem logic_Mux_chk : chkF Tryd.prog 87 logic_Mux_ic 23 3 logic_Mux_rv = true := by kernel_rfl
theorem logic_Tri_chk : chkF Tryd.prog 88 logic_Tri_ic 12 2 logic_Tri_rv = true := by kernel_rfl
theorem logic_Bus_chk : chkF Tryd.prog 89 logic_Bus_ic 24 1 logic_Bus_rv = true := by kernel_rfl
theorem logic_Bus_1_chk : chkF Tryd.prog 110 logic_Bus_1_ic 6 1 logic_Bus_1_rv = true := by kernel_rfl
theorem logic_Bus_2_chk : chkF Tryd.prog 111 logic_Bus_2_ic 5 1 logic_Bus_2_rv = true := by kernel_rfl
theorem logic_Conflict_chk : chkF Tryd.prog 93 logic_Conflict_ic 9 1 logic_Conflict_rv = true := by kernel_rfl
theorem slices_Contains_api_Value_chk : chkF Tryd.prog 113 slices_Contains_api_Value_ic 9 2 slices_Contains_api_Value_rv = true := by kernel_rfl
theorem slices_Index_api_Value_chk : chkF Tryd.prog 128 slices_Index_api_Value_ic 19 2 slices_Index_api_Value_rv = true := by kernel_rfl
theorem slices_ContainsFunc_api_Value_chk : chkF Tryd.prog 73 slices_ContainsFunc_api_Value_ic 9 2 slices_ContainsFunc_api_Value_rv = true := by kernel_rfl
theorem slices_IndexFunc_api_Value_chk : chkF Tryd.prog 102 slices_IndexFunc_api_Value_ic 19 2 slices_IndexFunc_api_Value_rv = true := by kernel_rfl
theorem logic_Eval_chk : chkF Tryd.prog 55 logic_Eval_ic 91 2 logic_Eval_rv = true := by kernel_rfl
end Go.Lg

/- Package logic: small functions. Conditions: none. -/
set_option linter.unusedSimpArgs false
set_option linter.unusedVariables false
set_option maxRecDepth 100000
namespace Go.Lg
open Go Go.Proofs
variable {Γ : Tables}

theorem clean_spec (v : Int) : FreshCalls Tryd.prog Γ 92 [tK v] (tK (cleanV v)) := by
  refine run_freshQ logic_Clean_chk rfl ?_
  by_cases h : 3 < v <;> simp [logic_Clean_ic, logic_Clean_rv, flatT, cleanV, h]
theorem read_spec (v : Int) : FreshCalls Tryd.prog Γ 31 [tK v] (tK (readV v)) := by
  refine run_freshQ logic_Read_chk rfl ?_
  by_cases h : v < 2 <;> simp [logic_Read_ic, logic_Read_rv, flatT, readV, h, mmxV, sameKind] <;> omega
theorem known_spec (v : Int) : FreshCalls Tryd.prog Γ 30 [tK v] (tB (knownV v)) := by
  refine run_freshQ logic_Known_chk rfl ?_
  simp [logic_Known_ic, logic_Known_rv, flatT, knownV]
theorem below_spec (a b : Int) : FreshCalls Tryd.prog Γ 65 [tK a, tK b] (tB (belowV a b)) := by
  refine run_freshQ logic_Below_chk rfl ?_
  simp [logic_Below_ic]
  refine callK_fresh (clean_spec a) rfl ?_
  simp
  refine callK_fresh (clean_spec b) rfl ?_
  simp
  by_cases h : cleanV a = cleanV b <;> simp [logic_Below_rv, flatT, belowV, h]
theorem not_spec (v : Int) (h0 : 0 ≤ v) : FreshCalls Tryd.prog Γ 83 [tK v] (tK (notV v)) := by
  refine run_freshQ logic_Not_chk rfl ?_
  simp [logic_Not_ic]
  refine callK_fresh (known_spec v) rfl ?_
  by_cases h : v ≤ 1
  · simp (disch := omega) [logic_Not_rv, flatT, knownV, notV, h, wrap_u8]
  · simp (disch := omega) [logic_Not_rv, flatT, knownV, notV, h, wrap_u8]
theorem mux_spec (s a b : Int) : FreshCalls Tryd.prog Γ 87 [tK s, tK a, tK b] (tK (muxV s a b)) := by
  refine run_freshQ logic_Mux_chk rfl ?_
  by_cases h : s = 0
  · simp [logic_Mux_ic, h]
    refine callK_fresh (read_spec a) rfl ?_
    simp [logic_Mux_rv, flatT, muxV, h]
  by_cases h1 : s = 1
  · simp [logic_Mux_ic, h1]
    refine callK_fresh (read_spec b) rfl ?_
    simp [logic_Mux_rv, flatT, muxV, h1]
  by_cases h2 : a = b
  · simp [logic_Mux_ic, h, h1, h2]
    refine callK_fresh (read_spec b) rfl ?_
    simp [logic_Mux_rv, flatT, muxV, h, h1, h2]
  · simp [logic_Mux_ic, h, h1, h2, logic_Mux_rv, flatT, muxV]
theorem tri_spec (e d : Int) : FreshCalls Tryd.prog Γ 88 [tK e, tK d] (tK (triV e d)) := by
  refine run_freshQ logic_Tri_chk rfl ?_
  by_cases h : e = 0
  · simp [logic_Tri_ic, h, logic_Tri_rv, flatT, triV]
  by_cases h1 : e = 1
  · simp [logic_Tri_ic, h1]
    refine callK_fresh (read_spec d) rfl ?_
    simp [logic_Tri_rv, flatT, triV, h1]
  · simp [logic_Tri_ic, h, h1, logic_Tri_rv, flatT, triV]

abbrev vals (l : List Int) : List (List T) := enc1 tK l
def tV (s : Sl Int) : T := .sl (vals s.l) s.cap s.nl

theorem decided_loop {Q : AX → St → Prop} (l : List Int) (c : Option Nat) (nl : Option Bool) (low high : Int) (hl : l.length ≤ 1000000000) (R : Int)
    (h0 : Q (.exit 0) ⟨[(1, .t (tK low)), (2, .t (tK high)), (7, .t (tK R)), (11, .t (.sl (vals l) c nl)), (12, .t (tI l.length)), (13, .t (tI l.length)), (14, .t (tB false))], []⟩)
    (h1 : R = low → Q .ret ⟨[(6, .t (tK low))], []⟩) : ∀ (k i : Nat) (out : Int), k + i = l.length → decL low high out (l.drop i) = R →
    run Tryd.prog Γ logic_decided_l1 Q ⟨[(1, .t (tK low)), (2, .t (tK high)), (7, .t (tK out)), (11, .t (.sl (vals l) c nl)), (12, .t (tI l.length)), (13, .t (tI i))], []⟩
  | 0, i, out, h, hR => by
    refine logic_decided_l1_run fun K hK => ?_
    have h2 : ¬ i < l.length := by omega
    rw [List.drop_of_length_le (by omega)] at hR
    simp only [decL] at hR
    subst hR
    have h3 : i = l.length := by omega
    simp [h2]
    subst h3
    exact h0
  | k + 1, i, out, h, hR => by
    refine logic_decided_l1_run fun K hK => ?_
    have h2 : i < l.length := by omega
    rw [List.drop_eq_getElem_cons h2] at hR
    simp only [decL] at hR
    have hget := enc1_get (f := tK) 0 h2
    simp only [List.getElem?_eq_getElem h2, Option.getD_some] at hget
    generalize l[i] = v at *
    by_cases a1 : v = low
    · rw [if_pos a1] at hR
      simp (disch := omega) [h2, enc1_len, hget, enc1_wid, wrap_i64, a1]
      exact h1 hR.symm
    · by_cases a2 : v = high
      · rw [if_neg a1, if_neg (by simp [a2])] at hR
        have ih := decided_loop l c nl low high hl R h0 h1 k (i + 1) out (by omega) hR
        have a1' : ¬ high = low := by rw [← a2]; exact a1
        simp (disch := omega) [h2, enc1_len, hget, enc1_wid, wrap_i64, a1', a2]
        rw [hK]
        exact_mod_cast ih
      · rw [if_neg a1, if_pos a2] at hR
        have ih := decided_loop l c nl low high hl R h0 h1 k (i + 1) 2 (by omega) hR
        simp (disch := omega) [h2, enc1_len, hget, enc1_wid, wrap_i64, a1, a2]
        rw [hK]
        exact_mod_cast ih

theorem decided_spec (l : List Int) (c : Option Nat) (nl : Option Bool) (low high : Int) (hl : l.length ≤ 1000000000) : FreshCalls Tryd.prog Γ 109 [.sl (vals l) c nl, tK low, tK high] (tK (decL low high high l)) := by
  refine run_freshQ logic_decided_chk rfl ?_
  simp (disch := omega) [logic_decided_ic, enc1_len, wrap_i64]
  refine decided_loop l c nl low high hl (decL low high high l) ?_ (fun h => ?_) l.length 0 high (by omega) (by simp)
  · simp [logic_decided_rv, flatT]
  · simp [logic_decided_rv, flatT, h]
theorem and_spec (l : List Int) (c : Option Nat) (nl : Option Bool) (hl : l.length ≤ 1000000000) : FreshCalls Tryd.prog Γ 84 [.sl (vals l) c nl] (tK (decL 0 1 1 l)) := by
  refine run_freshQ logic_And_chk rfl ?_
  simp [logic_And_ic]
  refine callK_fresh (decided_spec l c nl 0 1 hl) rfl ?_
  simp [logic_And_rv, flatT]
theorem or_spec (l : List Int) (c : Option Nat) (nl : Option Bool) (hl : l.length ≤ 1000000000) : FreshCalls Tryd.prog Γ 85 [.sl (vals l) c nl] (tK (decL 1 0 0 l)) := by
  refine run_freshQ logic_Or_chk rfl ?_
  simp [logic_Or_ic]
  refine callK_fresh (decided_spec l c nl 1 0 hl) rfl ?_
  simp [logic_Or_rv, flatT]

theorem xor_bit {a b : Int} (ha : a = 0 ∨ a = 1) (hb : b = 0 ∨ b = 1) : IntKind.u8.wrap ((BitVec.ofInt IntKind.u8.bits a ^^^ BitVec.ofInt IntKind.u8.bits b).toNat : Int) = xor1 a b := by
  rcases ha with rfl | rfl <;> rcases hb with rfl | rfl <;> decide

theorem xor_loop {Q : AX → St → Prop} (l : List Int) (c : Option Nat) (nl : Option Bool) (hl : l.length ≤ 1000000000) (hv : ∀ v ∈ l, 0 ≤ v) (R : Int)
    (h0 : Q (.exit 0) ⟨[(3, .t (tK R)), (6, .t (.sl (vals l) c nl)), (7, .t (tI l.length)), (8, .t (tI l.length)), (9, .t (tB false))], []⟩)
    (h1 : R = 2 → Q .ret ⟨[(2, .t (tK 2))], []⟩) : ∀ (k i : Nat) (out : Int), k + i = l.length → (out = 0 ∨ out = 1) → xorL out (l.drop i) = R →
    run Tryd.prog Γ logic_Xor_l1 Q ⟨[(3, .t (tK out)), (6, .t (.sl (vals l) c nl)), (7, .t (tI l.length)), (8, .t (tI i))], []⟩
  | 0, i, out, h, ho, hR => by
    refine logic_Xor_l1_run fun K hK => ?_
    have h2 : ¬ i < l.length := by omega
    rw [List.drop_of_length_le (by omega)] at hR
    simp only [xorL] at hR
    subst hR
    have h3 : i = l.length := by omega
    simp [h2]
    subst h3
    exact h0
  | k + 1, i, out, h, ho, hR => by
    refine logic_Xor_l1_run fun K hK => ?_
    have h2 : i < l.length := by omega
    rw [List.drop_eq_getElem_cons h2] at hR
    simp only [xorL] at hR
    have hget := enc1_get (f := tK) 0 h2
    simp only [List.getElem?_eq_getElem h2, Option.getD_some] at hget
    have hv0 := hv _ (List.getElem_mem h2)
    generalize l[i] = v at *
    by_cases a1 : v ≤ 1
    · rw [if_pos a1] at hR
      have ih := xor_loop l c nl hl hv R h0 h1 k (i + 1) (xor1 out v) (by omega) (by unfold xor1; split <;> simp) hR
      simp (disch := omega) [h2, enc1_len, hget, enc1_wid, wrap_i64]
      refine callK_fresh (known_spec v) rfl ?_
      have hx := xor_bit ho (show v = 0 ∨ v = 1 by omega)
      simp (disch := omega) [knownV, a1, ↓hx, wrap_i64]
      rw [hK]
      exact_mod_cast ih
    · rw [if_neg a1] at hR
      simp (disch := omega) [h2, enc1_len, hget, enc1_wid, wrap_i64]
      refine callK_fresh (known_spec v) rfl ?_
      simp (disch := omega) [knownV, a1]
      exact h1 hR.symm

theorem xor_spec (l : List Int) (c : Option Nat) (nl : Option Bool) (hl : l.length ≤ 1000000000) (hv : ∀ v ∈ l, 0 ≤ v) : FreshCalls Tryd.prog Γ 86 [.sl (vals l) c nl] (tK (xorL 0 l)) := by
  refine run_freshQ logic_Xor_chk rfl ?_
  simp (disch := omega) [logic_Xor_ic, enc1_len, wrap_i64]
  refine xor_loop l c nl hl hv (xorL 0 l) ?_ (fun h => ?_) l.length 0 0 (by omega) (.inl rfl) (by simp)
  · simp [logic_Xor_rv, flatT]
  · simp [logic_Xor_rv, flatT, h]
end Go.Lg

/- Searches in lists of values; Bus, Eval. Conditions: none. -/
set_option linter.unusedSimpArgs false
set_option linter.unusedVariables false
set_option maxRecDepth 100000
namespace Go.Lg
open Go Go.Proofs
variable {Γ : Tables}

theorem index_val_loop (l : List Int) (c : Option Nat) (nl : Option Bool) (x : Int) (hl : l.length ≤ 1000000000) : ∀ (k i : Nat), k + i = l.length → (∀ j, j < i → ∀ y, l[j]? = some y → (y == x) = false) →
    run Tryd.prog Γ slices_Index_api_Value_l1 (blockX 0 (thenX (run Tryd.prog Γ (.seq (.reg slices_Index_api_Value_r7 [.keep [4] []]) .ret) (ret true slices_Index_api_Value_rv fun r => r = tI (idxP (· == x) l))) (ret true slices_Index_api_Value_rv fun r => r = tI (idxP (· == x) l)))) ⟨[(0, .t (.sl (enc1 tK l) c nl)), (1, .t (tK x)), (7, .t (tI l.length)), (8, .t (tI i))], []⟩
  | 0, i, h, hp => by
    refine slices_Index_api_Value_l1_run fun K hK => ?_
    have h2 : ¬ i < l.length := by omega
    simp (disch := omega) [enc1_len, enc1_get (0 : Int), enc1_wid, wrap_i64, h2, ret, slices_Index_api_Value_rv, flatSt, flatL, flatA, flatT]
    have : l.findIdx? (· == x) = none := by
      rw [List.findIdx?_eq_none_iff]
      intro y hy
      obtain ⟨j, hj, rfl⟩ := List.getElem_of_mem hy
      exact hp j (by omega) _ (List.getElem?_eq_getElem hj)
    have e : l.findIdx? (fun y => decide (y = x)) = _ := this
    simp [idxP, e]
  | k + 1, i, h, hp => by
    refine slices_Index_api_Value_l1_run fun K hK => ?_
    have h2 : i < l.length := by omega
    simp (disch := omega) [enc1_len, enc1_get (0 : Int), enc1_wid, wrap_i64, h2]
    refine ⟨fun hc => ?_, fun hc => ?_⟩
    · simp [Later, ret, slices_Index_api_Value_rv, flatSt, flatL, flatA, flatT]
      have := findIdx_at (p := (· == x)) hp l[i] (List.getElem?_eq_getElem h2) (by simp [hc])
      have e : l.findIdx? (fun y => decide (y = x)) = _ := this
      simp [idxP, e]
    · simp (disch := omega) [Later, wrap_i64]
      rw [hK]
      exact_mod_cast index_val_loop l c nl x hl k (i + 1) (by omega) (fun j hj y hy => by
        rcases Nat.lt_succ_iff_lt_or_eq.1 hj with hj | rfl
        · exact hp j hj y hy
        · rw [List.getElem?_eq_getElem h2] at hy; simp at hy; subst hy
          simp; exact fun e => hc e.symm)

theorem index_val (l : List Int) (c : Option Nat) (nl : Option Bool) (x : Int) (hl : l.length ≤ 1000000000) : FreshCalls Tryd.prog Γ 128 [.sl (enc1 tK l) c nl, tK x] (tI (idxP (· == x) l)) := by
  refine run_freshQ slices_Index_api_Value_chk rfl ?_
  simp (disch := omega) [slices_Index_api_Value_ic, enc1_len, wrap_i64]
  exact_mod_cast index_val_loop l c nl x hl l.length 0 (by omega) (by simp)

theorem contains_val (l : List Int) (c : Option Nat) (nl : Option Bool) (x : Int) (hl : l.length ≤ 1000000000) : FreshCalls Tryd.prog Γ 113 [.sl (enc1 tK l) c nl, tK x] (tB (l.contains x)) := by
  refine run_freshQ slices_Contains_api_Value_chk rfl ?_
  simp (disch := omega) [slices_Contains_api_Value_ic, enc1_len, wrap_i64]
  refine callK_fresh (index_val l c nl x hl) rfl ?_
  simp [ret, slices_Contains_api_Value_rv, flatSt, flatL, flatA, flatT]
  unfold idxP
  cases h : l.findIdx? (· == x) with
  | none =>
    rw [List.findIdx?_eq_none_iff] at h
    have : ¬ x ∈ l := fun hx => by simpa using h x hx
    simp [this]
  | some i =>
    rw [List.findIdx?_eq_some_iff_getElem] at h
    obtain ⟨hi, h1, _⟩ := h
    have : x ∈ l := by rw [← (show l[i] = x by simpa using h1)]; exact List.getElem_mem hi
    simp [this]

theorem indexfunc_val_loop {Q : AX → St → Prop} (l : List Int) (c : Option Nat) (nl : Option Bool) (f : FuncId) (cs : List T) (p : Int → Bool) (hp : ∀ x ∈ l, FreshCalls Tryd.prog Γ f (tK x :: cs) (tB (p x))) (hl : l.length ≤ 1000000000)
    (h0 : (∀ x ∈ l, p x = false) → Q (.exit 0) ⟨[(0, .t (.sl (enc1 tK l) c nl)), (1, .t (.fn f cs)), (7, .t (tI l.length)), (8, .t (tI l.length)), (9, .t (tB false))], []⟩)
    (h1 : ∀ i : Nat, l.findIdx? p = some i → Q .ret ⟨[(4, .t (tI i))], []⟩) : ∀ (k i : Nat), k + i = l.length → (∀ j, j < i → ∀ y, l[j]? = some y → p y = false) →
    run Tryd.prog Γ slices_IndexFunc_api_Value_l1 Q ⟨[(0, .t (.sl (enc1 tK l) c nl)), (1, .t (.fn f cs)), (7, .t (tI l.length)), (8, .t (tI i))], []⟩
  | 0, i, h, hq => by
    refine slices_IndexFunc_api_Value_l1_run fun K hK => ?_
    have h2 : ¬ i < l.length := by omega
    simp (disch := omega) [enc1_len, enc1_get (0 : Int), enc1_wid, wrap_i64, h2]
    have h3 : i = l.length := by omega
    subst h3
    refine h0 fun y hy => ?_
    obtain ⟨j, hj, rfl⟩ := List.getElem_of_mem hy
    exact hq j (by omega) _ (List.getElem?_eq_getElem hj)
  | k + 1, i, h, hq => by
    refine slices_IndexFunc_api_Value_l1_run fun K hK => ?_
    have h2 : i < l.length := by omega
    simp (disch := omega) [enc1_len, enc1_get (0 : Int), enc1_wid, wrap_i64, h2]
    refine callK_clos (hp l[i] (List.getElem_mem h2)) ?_
    simp
    refine ⟨fun hc => ?_, fun hc => ?_⟩
    · simp [Later]
      exact h1 i (findIdx_at hq l[i] (List.getElem?_eq_getElem h2) hc)
    · simp (disch := omega) [Later, wrap_i64]
      rw [hK]
      exact_mod_cast indexfunc_val_loop l c nl f cs p hp hl h0 h1 k (i + 1) (by omega) (fun j hj y hy => by
        rcases Nat.lt_succ_iff_lt_or_eq.1 hj with hj | rfl
        · exact hq j hj y hy
        · rw [List.getElem?_eq_getElem h2] at hy; simp at hy; subst hy; exact hc)

theorem indexfunc_val (l : List Int) (c : Option Nat) (nl : Option Bool) (f : FuncId) (cs : List T) (p : Int → Bool) (hp : ∀ x ∈ l, FreshCalls Tryd.prog Γ f (tK x :: cs) (tB (p x))) (hl : l.length ≤ 1000000000) : FreshCalls Tryd.prog Γ 102 [.sl (enc1 tK l) c nl, .fn f cs] (tI (idxP p l)) := by
  refine run_freshQ slices_IndexFunc_api_Value_chk rfl ?_
  simp (disch := omega) [slices_IndexFunc_api_Value_ic, enc1_len, wrap_i64]
  refine indexfunc_val_loop l c nl f cs p hp hl (fun h => ?_) (fun i h => ?_) l.length 0 (by omega) (by simp)
  · have : l.findIdx? p = none := List.findIdx?_eq_none_iff.2 h
    simp [ret, slices_IndexFunc_api_Value_rv, flatSt, flatL, flatA, flatT, idxP, this]
  · simp [ret, slices_IndexFunc_api_Value_rv, flatSt, flatL, flatA, flatT, idxP, h]

theorem containsfunc_val (l : List Int) (c : Option Nat) (nl : Option Bool) (f : FuncId) (cs : List T) (p : Int → Bool) (hp : ∀ x ∈ l, FreshCalls Tryd.prog Γ f (tK x :: cs) (tB (p x))) (hl : l.length ≤ 1000000000) : FreshCalls Tryd.prog Γ 73 [.sl (enc1 tK l) c nl, .fn f cs] (tB (l.any p)) := by
  refine run_freshQ slices_ContainsFunc_api_Value_chk rfl ?_
  simp (disch := omega) [slices_ContainsFunc_api_Value_ic, enc1_len, wrap_i64]
  refine callK_fresh (indexfunc_val l c nl f cs p hp hl) rfl ?_
  simp [ret, slices_ContainsFunc_api_Value_rv, flatSt, flatL, flatA, flatT]
  unfold idxP
  cases h : l.findIdx? p with
  | none =>
    rw [List.findIdx?_eq_none_iff] at h
    have : l.any p = false := by rw [List.any_eq_false]; intro x hx; simp [h x hx]
    simp [this]
  | some i =>
    rw [List.findIdx?_eq_some_iff_getElem] at h
    obtain ⟨hi, h1, _⟩ := h
    have : l.any p = true := List.any_eq_true.2 ⟨_, List.getElem_mem hi, h1⟩
    simp [this]

theorem conflict_spec (l : List Int) (c : Option Nat) (nl : Option Bool) (hl : l.length ≤ 1000000000) : FreshCalls Tryd.prog Γ 93 [.sl (vals l) c nl] (tB (conflL l)) := by
  refine run_freshQ logic_Conflict_chk rfl ?_
  simp [logic_Conflict_ic]
  refine callK_fresh (contains_val l c nl 0 hl) rfl ?_
  simp
  by_cases h : (0 : Int) ∈ l
  · simp [h]
    refine callK_fresh (contains_val l c nl 1 hl) rfl ?_
    simp [logic_Conflict_rv, flatT, conflL, h]
  · simp [h, logic_Conflict_rv, flatT, conflL]
theorem unk_spec (v : Int) : FreshCalls Tryd.prog Γ 110 [tK v] (tB (unkV v)) := by
  refine run_freshQ logic_Bus_1_chk rfl ?_
  simp [logic_Bus_1_ic]
  refine callK_fresh (clean_spec v) rfl ?_
  simp [logic_Bus_1_rv, flatT, unkV]
theorem drv_spec (v : Int) : FreshCalls Tryd.prog Γ 111 [tK v] (tB (drvV v)) := by
  refine run_freshQ logic_Bus_2_chk rfl ?_
  simp [logic_Bus_2_ic, logic_Bus_2_rv, flatT, drvV]

theorem bus_spec (l : List Int) (c : Option Nat) (nl : Option Bool) (hl : l.length ≤ 1000000000) : FreshCalls Tryd.prog Γ 89 [.sl (vals l) c nl] (tK (busL l)) := by
  refine run_freshQ logic_Bus_chk rfl ?_
  simp [logic_Bus_ic]
  refine callK_fresh (indexfunc_val l c nl _ [] drvV (fun x _ => drv_spec x) hl) rfl ?_
  unfold idxP
  cases h : l.findIdx? drvV with
  | none =>
    have hR : busL l = 3 := by unfold busL; rw [h]
    simp [logic_Bus_rv, flatT, hR]
  | some i =>
    have hb : busL l = if conflL l = true ∨ l.any unkV = true then 2 else l.getD i 0 := by unfold busL; rw [h]
    have hi : i < l.length := by
      rw [List.findIdx?_eq_some_iff_getElem] at h
      exact h.1
    have hget := enc1_get (f := tK) 0 hi
    have hgg : l[i]?.getD 0 = l.getD i 0 := by simp [List.getD_eq_getElem?_getD]
    rw [hgg] at hget
    have hneg : ¬ (i : Int) < 0 := by omega
    simp only
    simp [hneg]
    refine callK_fresh (conflict_spec l c nl hl) rfl ?_
    by_cases h1 : conflL l = true
    · rw [if_pos (.inl h1)] at hb
      simp [h1, logic_Bus_rv, flatT, hb]
    · simp [h1]
      refine callK_fresh (containsfunc_val l c nl _ [] unkV (fun x _ => unk_spec x) hl) rfl ?_
      by_cases h2 : l.any unkV = true
      · rw [if_pos (.inr h2)] at hb
        simp only [h2]
        simp [logic_Bus_rv, flatT, hb]
      · rw [if_neg (by rintro (h | h); exact h1 h; exact h2 h)] at hb
        simp only [Bool.not_eq_true] at h2
        generalize busL l = r at *
        subst hb
        simp only [h2]
        simp (disch := omega) [logic_Bus_rv, flatT, enc1_len, enc1_wid, hget, hi]

theorem eval_spec (hΓ : GOk Γ) (k : Int) (hk : 0 ≤ k ∧ k ≤ 255) (l : List Int) (c : Option Nat) (nl : Option Bool) (hl : l.length ≤ 1000000000) (hv : ∀ v ∈ l, V4 v) : FreshCalls Tryd.prog Γ 55 [tK k, .sl (vals l) c nl] (tK (evalL k l)) := by
  refine run_freshQ logic_Eval_chk rfl ?_
  unfold evalL
  by_cases hw : widBad k l.length = true
  · rw [if_pos hw]
    simp only [widBad, decide_eq_true_eq] at hw
    simp [logic_Eval_ic]
    refine callK_fresh (fanin_spec hΓ k hk.1 hk.2) rfl ?_
    by_cases hw1 : (l.length : Int) < (fan k).1
    · simp [enc1_len, hw1, logic_Eval_rv, flatT]
    · have hw2 : (fan k).2 < (l.length : Int) := by omega
      simp [enc1_len, hw1, hw2, logic_Eval_rv, flatT]
  rw [if_neg hw]
  simp only [widBad, decide_eq_true_eq] at hw
  have hw1 : ¬ (l.length : Int) < (fan k).1 := by omega
  have hw2 : ¬ (fan k).2 < (l.length : Int) := by omega
  have hv0 : ∀ v ∈ l, 0 ≤ v := fun v h => (hv v h).1
  have ge : ∀ i, i < l.length → (enc1 tK l)[i]?.getD [] = [tK (l.getD i 0)] := fun i hi => by
    have hget := enc1_get (f := tK) 0 hi
    have hgg : l[i]?.getD 0 = l.getD i 0 := by simp [List.getD_eq_getElem?_getD]
    rw [hgg] at hget
    exact hget
  have dA := decL_val (low := 0) (l := l) (out := 1) (high := 1) (.inr rfl)
  have dO := decL_val (low := 1) (l := l) (out := 0) (high := 0) (.inr rfl)
  have n1 : 0 ≤ decL 0 1 1 l := by rw [dA]; split; omega; split <;> omega
  have n2 : 0 ≤ decL 1 0 0 l := by rw [dO]; split; omega; split <;> omega
  have n3 : 0 ≤ xorL 0 l := (xorL_4 (by simp [V4]) hv).1
  have g0 := getD_4 hv 0
  by_cases e1 : k = 1
  · subst e1
    have hR : evalK 1 l = 0 := rfl
    generalize evalK 1 l = r at *
    subst hR
    simp [logic_Eval_ic]
    refine callK_fresh (fanin_spec hΓ 1 hk.1 hk.2) rfl ?_
    simp [enc1_len, hw1, hw2, Later, logic_Eval_rv, flatT]
  by_cases e2 : k = 2
  · subst e2
    have hR : evalK 2 l = 1 := rfl
    generalize evalK 2 l = r at *
    subst hR
    simp [logic_Eval_ic]
    refine callK_fresh (fanin_spec hΓ 2 hk.1 hk.2) rfl ?_
    simp [enc1_len, hw1, hw2, Later, logic_Eval_rv, flatT]
  by_cases e3 : k = 3
  · subst e3
    have f1 : (fan 3).1 = 1 := rfl
    have q0 : 0 < l.length := by omega
    have u0 := ge 0 q0
    have hR : evalK 3 l = readV (l.getD 0 0) := rfl
    generalize l.getD 0 0 = x0 at *
    generalize evalK 3 l = r at *
    subst hR
    simp [logic_Eval_ic]
    refine callK_fresh (fanin_spec hΓ 3 hk.1 hk.2) rfl ?_
    simp [enc1_len, hw1, hw2, Later]
    simp (disch := omega) [enc1_len, enc1_wid, q0, u0]
    refine callK_fresh (read_spec x0) rfl ?_
    simp [logic_Eval_rv, flatT]
  by_cases e4 : k = 4
  · subst e4
    have f1 : (fan 4).1 = 1 := rfl
    have q0 : 0 < l.length := by omega
    have u0 := ge 0 q0
    have p0 := g0.1
    have hR : evalK 4 l = notV (l.getD 0 0) := rfl
    generalize l.getD 0 0 = x0 at *
    generalize evalK 4 l = r at *
    subst hR
    simp [logic_Eval_ic]
    refine callK_fresh (fanin_spec hΓ 4 hk.1 hk.2) rfl ?_
    simp [enc1_len, hw1, hw2, Later]
    simp (disch := omega) [enc1_len, enc1_wid, q0, u0]
    refine callK_fresh (not_spec x0 p0) rfl ?_
    simp [logic_Eval_rv, flatT]
  by_cases e5 : k = 5
  · subst e5
    have hR : evalK 5 l = decL 0 1 1 l := rfl
    generalize evalK 5 l = r at *
    subst hR
    simp [logic_Eval_ic]
    refine callK_fresh (fanin_spec hΓ 5 hk.1 hk.2) rfl ?_
    simp [enc1_len, hw1, hw2, Later]
    refine callK_fresh (and_spec l c nl hl) rfl ?_
    simp [logic_Eval_rv, flatT]
  by_cases e6 : k = 6
  · subst e6
    have hR : evalK 6 l = notV (decL 0 1 1 l) := rfl
    generalize evalK 6 l = r at *
    subst hR
    simp [logic_Eval_ic]
    refine callK_fresh (fanin_spec hΓ 6 hk.1 hk.2) rfl ?_
    simp [enc1_len, hw1, hw2, Later]
    refine callK_fresh (and_spec l c nl hl) rfl ?_
    simp
    refine callK_fresh (not_spec _ n1) rfl ?_
    simp [logic_Eval_rv, flatT]
  by_cases e7 : k = 7
  · subst e7
    have hR : evalK 7 l = decL 1 0 0 l := rfl
    generalize evalK 7 l = r at *
    subst hR
    simp [logic_Eval_ic]
    refine callK_fresh (fanin_spec hΓ 7 hk.1 hk.2) rfl ?_
    simp [enc1_len, hw1, hw2, Later]
    refine callK_fresh (or_spec l c nl hl) rfl ?_
    simp [logic_Eval_rv, flatT]
  by_cases e8 : k = 8
  · subst e8
    have hR : evalK 8 l = notV (decL 1 0 0 l) := rfl
    generalize evalK 8 l = r at *
    subst hR
    simp [logic_Eval_ic]
    refine callK_fresh (fanin_spec hΓ 8 hk.1 hk.2) rfl ?_
    simp [enc1_len, hw1, hw2, Later]
    refine callK_fresh (or_spec l c nl hl) rfl ?_
    simp
    refine callK_fresh (not_spec _ n2) rfl ?_
    simp [logic_Eval_rv, flatT]
  by_cases e9 : k = 9
  · subst e9
    have hR : evalK 9 l = xorL 0 l := rfl
    generalize evalK 9 l = r at *
    subst hR
    simp [logic_Eval_ic]
    refine callK_fresh (fanin_spec hΓ 9 hk.1 hk.2) rfl ?_
    simp [enc1_len, hw1, hw2, Later]
    refine callK_fresh (xor_spec l c nl hl hv0) rfl ?_
    simp [logic_Eval_rv, flatT]
  by_cases e10 : k = 10
  · subst e10
    have hR : evalK 10 l = notV (xorL 0 l) := rfl
    generalize evalK 10 l = r at *
    subst hR
    simp [logic_Eval_ic]
    refine callK_fresh (fanin_spec hΓ 10 hk.1 hk.2) rfl ?_
    simp [enc1_len, hw1, hw2, Later]
    refine callK_fresh (xor_spec l c nl hl hv0) rfl ?_
    simp
    refine callK_fresh (not_spec _ n3) rfl ?_
    simp [logic_Eval_rv, flatT]
  by_cases e11 : k = 11
  · subst e11
    have f1 : (fan 11).1 = 3 := rfl
    have q0 : 0 < l.length := by omega
    have u0 := ge 0 q0
    have q1 : 1 < l.length := by omega
    have u1 := ge 1 q1
    have q2 : 2 < l.length := by omega
    have u2 := ge 2 q2
    have hR : evalK 11 l = muxV (l.getD 0 0) (l.getD 1 0) (l.getD 2 0) := rfl
    generalize l.getD 0 0 = x0 at *
    generalize l.getD 1 0 = x1 at *
    generalize l.getD 2 0 = x2 at *
    generalize evalK 11 l = r at *
    subst hR
    simp [logic_Eval_ic]
    refine callK_fresh (fanin_spec hΓ 11 hk.1 hk.2) rfl ?_
    simp [enc1_len, hw1, hw2, Later]
    simp (disch := omega) [enc1_len, enc1_wid, q0, u0, q1, u1, q2, u2]
    refine ⟨by omega, by omega, ?_⟩
    refine callK_fresh (mux_spec x0 x1 x2) rfl ?_
    simp [logic_Eval_rv, flatT]
  by_cases e12 : k = 12
  · subst e12
    have f1 : (fan 12).1 = 2 := rfl
    have q0 : 0 < l.length := by omega
    have u0 := ge 0 q0
    have q1 : 1 < l.length := by omega
    have u1 := ge 1 q1
    have hR : evalK 12 l = triV (l.getD 0 0) (l.getD 1 0) := rfl
    generalize l.getD 0 0 = x0 at *
    generalize l.getD 1 0 = x1 at *
    generalize evalK 12 l = r at *
    subst hR
    simp [logic_Eval_ic]
    refine callK_fresh (fanin_spec hΓ 12 hk.1 hk.2) rfl ?_
    simp [enc1_len, hw1, hw2, Later]
    simp (disch := omega) [enc1_len, enc1_wid, q0, u0, q1, u1]
    refine ⟨by omega, ?_⟩
    refine callK_fresh (tri_spec x0 x1) rfl ?_
    simp [logic_Eval_rv, flatT]
  by_cases e13 : k = 13
  · subst e13
    have hR : evalK 13 l = busL l := rfl
    generalize evalK 13 l = r at *
    subst hR
    simp [logic_Eval_ic]
    refine callK_fresh (fanin_spec hΓ 13 hk.1 hk.2) rfl ?_
    simp [enc1_len, hw1, hw2, Later]
    refine callK_fresh (bus_spec l c nl hl) rfl ?_
    simp [logic_Eval_rv, flatT]
  have ek : evalK k l = 2 := by
    unfold evalK
    rw [if_neg e1, if_neg e2, if_neg e3, if_neg e4, if_neg e5, if_neg e6, if_neg e7, if_neg e8, if_neg e9, if_neg e10, if_neg e11, if_neg e12, if_neg e13]
  rw [ek]
  simp [logic_Eval_ic]
  refine callK_fresh (fanin_spec hΓ k hk.1 hk.2) rfl ?_
  simp [enc1_len, hw1, hw2, logic_Eval_rv, flatT, e1, e2, e3, e4, e5, e6, e7, e8, e9, e10, e11, e12, e13]
end Go.Lg

/- The abstract code of some functions, as the program gen.py prints it. Conditions: none. -/
set_option linter.unusedVariables false
namespace Go.Lg
open Go
section
variable {P : Program} {Γ : Tables} {Q : AX → St → Prop} {s : St}
/- slices.SortStableFunc[[]int,int] (function 62) -/
def slices_SortStableFunc_int_r0 : List RO := [
    ⟨some 4, .mv (.tmp 0), none, none⟩,
    ⟨some 5, .mv (.tmp 0), none, none⟩,
    ⟨some 6, .len 0 (.tmp 5), none, none⟩,
    ⟨some 7, .mv (.tmp 1), none, none⟩,
    ⟨some 8, .hcall 94 [(.tmp 4), (.tmp 6), (.tmp 7)] [1000000] 8000, none, none⟩]
def slices_SortStableFunc_int_ic : IC := (.reg slices_SortStableFunc_int_r0 [.keep [] [1000000]])
@[simp ↓] theorem slices_SortStableFunc_int_ic_run : run P Γ slices_SortStableFunc_int_ic Q s = run P Γ (.reg slices_SortStableFunc_int_r0 [.keep [] [1000000]]) Q s := Eq.trans rfl rfl
attribute [simp] slices_SortStableFunc_int_r0
def slices_SortStableFunc_int_rv : List RV := []

/- slices.stableCmpFunc[int] (function 94) -/
def slices_stableCmpFunc_int_r0 : List RO := [
    ⟨some 6, .mv (.const (.int .i64 20)), none, none⟩]
def slices_stableCmpFunc_int_r1 : List RO := [
    ⟨some 10, .mv (.tmp 6), none, none⟩,
    ⟨some 7, .mv (.const (.int .i64 0)), none, none⟩,
    ⟨some 8, .mv (.tmp 10), none, none⟩]
def slices_stableCmpFunc_int_r2 : List RO := [
    ⟨some 11, .mv (.tmp 8), none, none⟩,
    ⟨some 12, .mv (.tmp 1), none, none⟩,
    ⟨some 13, .bin .leq (.tmp 11) (.tmp 12), none, none⟩]
def slices_stableCmpFunc_int_r3 : List RO := [
    ⟨some 14, .mv (.tmp 0), none, none⟩,
    ⟨some 15, .mv (.tmp 7), none, none⟩,
    ⟨some 16, .mv (.tmp 8), none, none⟩,
    ⟨some 17, .mv (.tmp 2), none, none⟩,
    ⟨some 18, .hcall 114 [(.tmp 14), (.tmp 15), (.tmp 16), (.tmp 17)] [1000000] 18000, none, none⟩]
def slices_stableCmpFunc_int_r4 : List RO := [
    ⟨some 19, .mv (.tmp 8), none, none⟩,
    ⟨some 7, .mv (.tmp 19), none, none⟩]
def slices_stableCmpFunc_int_r5 : List RO := [
    ⟨some 20, .mv (.tmp 8), none, none⟩,
    ⟨some 21, .mv (.tmp 6), none, none⟩,
    ⟨some 22, .bin .add (.tmp 20) (.tmp 21), none, none⟩,
    ⟨some 8, .mv (.tmp 22), none, none⟩]
def slices_stableCmpFunc_int_g0 : IC := .gh (.seq (.seq (.reg slices_stableCmpFunc_int_r2 [.keep [0, 1, 2, 6, 7, 8, 13] [1000000]]) (.cond (.tmp 13) .skip (.exit 0))) (.block 1 (.seq (.reg slices_stableCmpFunc_int_r3 [.keep [0, 1, 2, 6, 8] [1000000]]) (.seq (.reg slices_stableCmpFunc_int_r4 [.keep [0, 1, 2, 6, 7, 8] [1000000]]) (.reg slices_stableCmpFunc_int_r5 [.keep [0, 1, 2, 6, 7, 8] [1000000]]))))) [.keep [0, 1, 2, 6, 7, 8] [1000000]]
def slices_stableCmpFunc_int_l1 : IC := .loop slices_stableCmpFunc_int_g0
def slices_stableCmpFunc_int_r6 : List RO := [
    ⟨some 23, .mv (.tmp 0), none, none⟩,
    ⟨some 24, .mv (.tmp 7), none, none⟩,
    ⟨some 25, .mv (.tmp 1), none, none⟩,
    ⟨some 26, .mv (.tmp 2), none, none⟩,
    ⟨some 27, .hcall 114 [(.tmp 23), (.tmp 24), (.tmp 25), (.tmp 26)] [1000000] 27000, none, none⟩]
def slices_stableCmpFunc_int_r7 : List RO := [
    ⟨some 28, .mv (.tmp 6), none, none⟩,
    ⟨some 29, .mv (.tmp 1), none, none⟩,
    ⟨some 30, .bin .lss (.tmp 28) (.tmp 29), none, none⟩]
def slices_stableCmpFunc_int_r8 : List RO := [
    ⟨some 31, .mv (.tmp 6), none, none⟩,
    ⟨some 32, .bin .mul (.const (.int .i64 2)) (.tmp 31), none, none⟩,
    ⟨some 7, .mv (.const (.int .i64 0)), none, none⟩,
    ⟨some 8, .mv (.tmp 32), none, none⟩]
def slices_stableCmpFunc_int_r9 : List RO := [
    ⟨some 33, .mv (.tmp 8), none, none⟩,
    ⟨some 34, .mv (.tmp 1), none, none⟩,
    ⟨some 35, .bin .leq (.tmp 33) (.tmp 34), none, none⟩]
def slices_stableCmpFunc_int_r10 : List RO := [
    ⟨some 36, .mv (.tmp 0), none, none⟩,
    ⟨some 37, .mv (.tmp 7), none, none⟩,
    ⟨some 38, .mv (.tmp 7), none, none⟩,
    ⟨some 39, .mv (.tmp 6), none, none⟩,
    ⟨some 40, .bin .add (.tmp 38) (.tmp 39), none, none⟩,
    ⟨some 41, .mv (.tmp 8), none, none⟩,
    ⟨some 42, .mv (.tmp 2), none, none⟩,
    ⟨some 43, .hcall 115 [(.tmp 36), (.tmp 37), (.tmp 40), (.tmp 41), (.tmp 42)] [1000000] 43000, none, none⟩]
def slices_stableCmpFunc_int_r11 : List RO := [
    ⟨some 44, .mv (.tmp 8), none, none⟩,
    ⟨some 7, .mv (.tmp 44), none, none⟩]
def slices_stableCmpFunc_int_r12 : List RO := [
    ⟨some 45, .mv (.tmp 8), none, none⟩,
    ⟨some 46, .mv (.tmp 6), none, none⟩,
    ⟨some 47, .bin .mul (.const (.int .i64 2)) (.tmp 46), none, none⟩,
    ⟨some 48, .bin .add (.tmp 45) (.tmp 47), none, none⟩,
    ⟨some 8, .mv (.tmp 48), none, none⟩]
def slices_stableCmpFunc_int_g2 : IC := .gh (.seq (.seq (.reg slices_stableCmpFunc_int_r9 [.keep [0, 1, 2, 6, 7, 8, 35] [1000000]]) (.cond (.tmp 35) .skip (.exit 4))) (.block 5 (.seq (.reg slices_stableCmpFunc_int_r10 [.keep [0, 1, 2, 6, 8] [1000000]]) (.seq (.reg slices_stableCmpFunc_int_r11 [.keep [0, 1, 2, 6, 7, 8] [1000000]]) (.reg slices_stableCmpFunc_int_r12 [.keep [0, 1, 2, 6, 7, 8] [1000000]]))))) [.keep [0, 1, 2, 6, 7, 8] [1000000]]
def slices_stableCmpFunc_int_l3 : IC := .loop slices_stableCmpFunc_int_g2
def slices_stableCmpFunc_int_r13 : List RO := [
    ⟨some 49, .mv (.tmp 7), none, none⟩,
    ⟨some 50, .mv (.tmp 6), none, none⟩,
    ⟨some 51, .bin .add (.tmp 49) (.tmp 50), none, none⟩,
    ⟨some 9, .mv (.tmp 51), none, none⟩]
def slices_stableCmpFunc_int_r14 : List RO := [
    ⟨some 52, .mv (.tmp 9), none, none⟩,
    ⟨some 53, .mv (.tmp 1), none, none⟩,
    ⟨some 54, .bin .lss (.tmp 52) (.tmp 53), none, none⟩]
def slices_stableCmpFunc_int_r15 : List RO := [
    ⟨some 55, .mv (.tmp 0), none, none⟩,
    ⟨some 56, .mv (.tmp 7), none, none⟩,
    ⟨some 57, .mv (.tmp 9), none, none⟩,
    ⟨some 58, .mv (.tmp 1), none, none⟩,
    ⟨some 59, .mv (.tmp 2), none, none⟩,
    ⟨some 60, .hcall 115 [(.tmp 55), (.tmp 56), (.tmp 57), (.tmp 58), (.tmp 59)] [1000000] 60000, none, none⟩]
def slices_stableCmpFunc_int_r16 : List RO := [
    ⟨some 61, .mv (.tmp 6), none, none⟩,
    ⟨some 62, .bin .mul (.tmp 61) (.const (.int .i64 2)), none, none⟩,
    ⟨some 6, .mv (.tmp 62), none, none⟩]
def slices_stableCmpFunc_int_g4 : IC := .gh (.seq (.seq (.reg slices_stableCmpFunc_int_r7 [.keep [0, 1, 2, 6, 30] [1000000]]) (.cond (.tmp 30) .skip (.exit 2))) (.block 3 (.seq (.reg slices_stableCmpFunc_int_r8 [.keep [0, 1, 2, 6, 7, 8] [1000000]]) (.seq (.block 4 slices_stableCmpFunc_int_l3) (.seq (.seq (.reg slices_stableCmpFunc_int_r13 [.keep [0, 1, 2, 6, 7, 9] [1000000]]) (.seq (.reg slices_stableCmpFunc_int_r14 [.keep [0, 1, 2, 6, 7, 9, 54] [1000000]]) (.cond (.tmp 54) (.reg slices_stableCmpFunc_int_r15 [.keep [0, 1, 2, 6] [1000000]]) .skip))) (.reg slices_stableCmpFunc_int_r16 [.keep [0, 1, 2, 6] [1000000]])))))) [.keep [0, 1, 2, 6] [1000000]]
def slices_stableCmpFunc_int_l5 : IC := .loop slices_stableCmpFunc_int_g4
def slices_stableCmpFunc_int_ic : IC := (.seq (.reg slices_stableCmpFunc_int_r0 [.keep [0, 1, 2, 6] [1000000]]) (.seq (.reg slices_stableCmpFunc_int_r1 [.keep [0, 1, 2, 6, 7, 8] [1000000]]) (.seq (.block 0 slices_stableCmpFunc_int_l1) (.seq (.reg slices_stableCmpFunc_int_r6 [.keep [0, 1, 2, 6] [1000000]]) (.block 2 slices_stableCmpFunc_int_l5)))))
@[simp ↓] theorem slices_stableCmpFunc_int_g0_run : run P Γ slices_stableCmpFunc_int_g0 Q s = run P Γ (.gh (.seq (.seq (.reg slices_stableCmpFunc_int_r2 [.keep [0, 1, 2, 6, 7, 8, 13] [1000000]]) (.cond (.tmp 13) .skip (.exit 0))) (.block 1 (.seq (.reg slices_stableCmpFunc_int_r3 [.keep [0, 1, 2, 6, 8] [1000000]]) (.seq (.reg slices_stableCmpFunc_int_r4 [.keep [0, 1, 2, 6, 7, 8] [1000000]]) (.reg slices_stableCmpFunc_int_r5 [.keep [0, 1, 2, 6, 7, 8] [1000000]]))))) [.keep [0, 1, 2, 6, 7, 8] [1000000]]) Q s := Eq.trans rfl rfl
@[simp ↓] theorem slices_stableCmpFunc_int_g2_run : run P Γ slices_stableCmpFunc_int_g2 Q s = run P Γ (.gh (.seq (.seq (.reg slices_stableCmpFunc_int_r9 [.keep [0, 1, 2, 6, 7, 8, 35] [1000000]]) (.cond (.tmp 35) .skip (.exit 4))) (.block 5 (.seq (.reg slices_stableCmpFunc_int_r10 [.keep [0, 1, 2, 6, 8] [1000000]]) (.seq (.reg slices_stableCmpFunc_int_r11 [.keep [0, 1, 2, 6, 7, 8] [1000000]]) (.reg slices_stableCmpFunc_int_r12 [.keep [0, 1, 2, 6, 7, 8] [1000000]]))))) [.keep [0, 1, 2, 6, 7, 8] [1000000]]) Q s := Eq.trans rfl rfl
@[simp ↓] theorem slices_stableCmpFunc_int_g4_run : run P Γ slices_stableCmpFunc_int_g4 Q s = run P Γ (.gh (.seq (.seq (.reg slices_stableCmpFunc_int_r7 [.keep [0, 1, 2, 6, 30] [1000000]]) (.cond (.tmp 30) .skip (.exit 2))) (.block 3 (.seq (.reg slices_stableCmpFunc_int_r8 [.keep [0, 1, 2, 6, 7, 8] [1000000]]) (.seq (.block 4 slices_stableCmpFunc_int_l3) (.seq (.seq (.reg slices_stableCmpFunc_int_r13 [.keep [0, 1, 2, 6, 7, 9] [1000000]]) (.seq (.reg slices_stableCmpFunc_int_r14 [.keep [0, 1, 2, 6, 7, 9, 54] [1000000]]) (.cond (.tmp 54) (.reg slices_stableCmpFunc_int_r15 [.keep [0, 1, 2, 6] [1000000]]) .skip))) (.reg slices_stableCmpFunc_int_r16 [.keep [0, 1, 2, 6] [1000000]])))))) [.keep [0, 1, 2, 6] [1000000]]) Q s := Eq.trans rfl rfl
@[simp ↓] theorem slices_stableCmpFunc_int_ic_run : run P Γ slices_stableCmpFunc_int_ic Q s = run P Γ (.seq (.reg slices_stableCmpFunc_int_r0 [.keep [0, 1, 2, 6] [1000000]]) (.seq (.reg slices_stableCmpFunc_int_r1 [.keep [0, 1, 2, 6, 7, 8] [1000000]]) (.seq (.block 0 slices_stableCmpFunc_int_l1) (.seq (.reg slices_stableCmpFunc_int_r6 [.keep [0, 1, 2, 6] [1000000]]) (.block 2 slices_stableCmpFunc_int_l5))))) Q s := Eq.trans rfl rfl
theorem slices_stableCmpFunc_int_l1_run (h : ∀ K : St → Prop, K = run P Γ slices_stableCmpFunc_int_l1 Q → run P Γ slices_stableCmpFunc_int_g0 (thenX K Q) s) : run P Γ slices_stableCmpFunc_int_l1 Q s := run_loop h
theorem slices_stableCmpFunc_int_l3_run (h : ∀ K : St → Prop, K = run P Γ slices_stableCmpFunc_int_l3 Q → run P Γ slices_stableCmpFunc_int_g2 (thenX K Q) s) : run P Γ slices_stableCmpFunc_int_l3 Q s := run_loop h
theorem slices_stableCmpFunc_int_l5_run (h : ∀ K : St → Prop, K = run P Γ slices_stableCmpFunc_int_l5 Q → run P Γ slices_stableCmpFunc_int_g4 (thenX K Q) s) : run P Γ slices_stableCmpFunc_int_l5 Q s := run_loop h
attribute [simp] slices_stableCmpFunc_int_r0 slices_stableCmpFunc_int_r1 slices_stableCmpFunc_int_r2 slices_stableCmpFunc_int_r3 slices_stableCmpFunc_int_r4 slices_stableCmpFunc_int_r5 slices_stableCmpFunc_int_r6 slices_stableCmpFunc_int_r7 slices_stableCmpFunc_int_r8 slices_stableCmpFunc_int_r9 slices_stableCmpFunc_int_r10 slices_stableCmpFunc_int_r11 slices_stableCmpFunc_int_r12 slices_stableCmpFunc_int_r13 slices_stableCmpFunc_int_r14 slices_stableCmpFunc_int_r15 slices_stableCmpFunc_int_r16
def slices_stableCmpFunc_int_rv : List RV := []

/- slices.insertionSortCmpFunc[int] (function 114) -/
def slices_insertionSortCmpFunc_int_r0 : List RO := [
    ⟨some 10, .mv (.tmp 1), none, none⟩,
    ⟨some 11, .bin .add (.tmp 10) (.const (.int .i64 1)), none, none⟩,
    ⟨some 8, .mv (.tmp 11), none, none⟩]
def slices_insertionSortCmpFunc_int_r1 : List RO := [
    ⟨some 12, .mv (.tmp 8), none, none⟩,
    ⟨some 13, .mv (.tmp 2), none, none⟩,
    ⟨some 14, .bin .lss (.tmp 12) (.tmp 13), none, none⟩]
def slices_insertionSortCmpFunc_int_r3 : List RO := [
    ⟨some 17, .mv (.tmp 8), none, none⟩,
    ⟨some 9, .mv (.tmp 17), none, none⟩]
def slices_insertionSortCmpFunc_int_r4 : List RO := [
    ⟨some 18, .mv (.tmp 9), none, none⟩,
    ⟨some 19, .mv (.tmp 1), none, none⟩,
    ⟨some 20, .bin .gtr (.tmp 18) (.tmp 19), none, none⟩,
    ⟨some 21, .mv (.tmp 20), none, none⟩,
    ⟨some 22, .mv (.tmp 3), some (21, true), none⟩,
    ⟨some 23, .mv (.tmp 0), some (21, true), none⟩,
    ⟨some 24, .mv (.tmp 9), some (21, true), none⟩,
    ⟨some 25, .iadr 1 (.tmp 23) (.tmp 24), some (21, true), none⟩,
    ⟨some 26, .load 1 false (.tmp 25), some (21, true), none⟩,
    ⟨some 27, .mv (.tmp 0), some (21, true), none⟩,
    ⟨some 28, .mv (.tmp 9), some (21, true), none⟩,
    ⟨some 29, .bin .sub (.tmp 28) (.const (.int .i64 1)), some (21, true), none⟩,
    ⟨some 30, .iadr 1 (.tmp 27) (.tmp 29), some (21, true), none⟩,
    ⟨some 31, .load 1 false (.tmp 30), some (21, true), none⟩,
    ⟨some 32, .callv (.tmp 22) [(.tmp 26), (.tmp 31)], some (21, true), none⟩,
    ⟨some 33, .bin .lss (.tmp 32) (.const (.int .i64 0)), some (21, true), none⟩,
    ⟨some 34, .pick (.tmp 21) (.tmp 33) (.const (.bool false)), none, none⟩]
def slices_insertionSortCmpFunc_int_r6 : List RO := [
    ⟨some 37, .mv (.tmp 0), none, none⟩,
    ⟨some 38, .mv (.tmp 9), none, none⟩,
    ⟨some 39, .mv (.tmp 0), none, none⟩,
    ⟨some 40, .mv (.tmp 9), none, none⟩,
    ⟨some 41, .bin .sub (.tmp 40) (.const (.int .i64 1)), none, none⟩,
    ⟨some 42, .mv (.tmp 0), none, none⟩,
    ⟨some 43, .mv (.tmp 9), none, none⟩,
    ⟨some 44, .bin .sub (.tmp 43) (.const (.int .i64 1)), none, none⟩,
    ⟨some 45, .iadr 1 (.tmp 42) (.tmp 44), none, none⟩,
    ⟨some 46, .ldR 1000000 1 false (.tmp 45), none, none⟩,
    ⟨some 47, .mv (.tmp 0), none, none⟩,
    ⟨some 48, .mv (.tmp 9), none, none⟩,
    ⟨some 49, .iadr 1 (.tmp 47) (.tmp 48), none, none⟩,
    ⟨some 50, .ldR 1000000 1 false (.tmp 49), none, none⟩,
    ⟨some 51, .iadr 1 (.tmp 37) (.tmp 38), none, none⟩,
    ⟨none, .stR 1000000 1 (.tmp 51) (.tmp 46), none, none⟩,
    ⟨some 52, .iadr 1 (.tmp 39) (.tmp 41), none, none⟩,
    ⟨none, .stR 1000000 1 (.tmp 52) (.tmp 50), none, none⟩]
def slices_insertionSortCmpFunc_int_r5 : List RO := [
    ⟨some 35, .mv (.tmp 9), none, none⟩,
    ⟨some 36, .bin .sub (.tmp 35) (.const (.int .i64 1)), none, none⟩,
    ⟨some 9, .mv (.tmp 36), none, none⟩]
def slices_insertionSortCmpFunc_int_g0 : IC := .gh (.seq (.seq (.reg slices_insertionSortCmpFunc_int_r4 [.keep [0, 1, 2, 3, 8, 9, 34] [1000000]]) (.cond (.tmp 34) .skip (.exit 2))) (.seq (.block 3 (.reg slices_insertionSortCmpFunc_int_r6 [.keep [0, 1, 2, 3, 8, 9] [1000000]])) (.reg slices_insertionSortCmpFunc_int_r5 [.keep [0, 1, 2, 3, 8, 9] [1000000]]))) [.keep [0, 1, 2, 3, 8, 9] [1000000]]
def slices_insertionSortCmpFunc_int_l1 : IC := .loop slices_insertionSortCmpFunc_int_g0
def slices_insertionSortCmpFunc_int_r2 : List RO := [
    ⟨some 15, .mv (.tmp 8), none, none⟩,
    ⟨some 16, .bin .add (.tmp 15) (.const (.int .i64 1)), none, none⟩,
    ⟨some 8, .mv (.tmp 16), none, none⟩]
def slices_insertionSortCmpFunc_int_g2 : IC := .gh (.seq (.seq (.reg slices_insertionSortCmpFunc_int_r1 [.keep [0, 1, 2, 3, 8, 14] [1000000]]) (.cond (.tmp 14) .skip (.exit 0))) (.seq (.block 1 (.seq (.reg slices_insertionSortCmpFunc_int_r3 [.keep [0, 1, 2, 3, 8, 9] [1000000]]) (.block 2 slices_insertionSortCmpFunc_int_l1))) (.reg slices_insertionSortCmpFunc_int_r2 [.keep [0, 1, 2, 3, 8] [1000000]]))) [.keep [0, 1, 2, 3, 8] [1000000]]
def slices_insertionSortCmpFunc_int_l3 : IC := .loop slices_insertionSortCmpFunc_int_g2
def slices_insertionSortCmpFunc_int_ic : IC := (.seq (.reg slices_insertionSortCmpFunc_int_r0 [.keep [0, 1, 2, 3, 8] [1000000]]) (.block 0 slices_insertionSortCmpFunc_int_l3))
@[simp ↓] theorem slices_insertionSortCmpFunc_int_g0_run : run P Γ slices_insertionSortCmpFunc_int_g0 Q s = run P Γ (.gh (.seq (.seq (.reg slices_insertionSortCmpFunc_int_r4 [.keep [0, 1, 2, 3, 8, 9, 34] [1000000]]) (.cond (.tmp 34) .skip (.exit 2))) (.seq (.block 3 (.reg slices_insertionSortCmpFunc_int_r6 [.keep [0, 1, 2, 3, 8, 9] [1000000]])) (.reg slices_insertionSortCmpFunc_int_r5 [.keep [0, 1, 2, 3, 8, 9] [1000000]]))) [.keep [0, 1, 2, 3, 8, 9] [1000000]]) Q s := Eq.trans rfl rfl
@[simp ↓] theorem slices_insertionSortCmpFunc_int_g2_run : run P Γ slices_insertionSortCmpFunc_int_g2 Q s = run P Γ (.gh (.seq (.seq (.reg slices_insertionSortCmpFunc_int_r1 [.keep [0, 1, 2, 3, 8, 14] [1000000]]) (.cond (.tmp 14) .skip (.exit 0))) (.seq (.block 1 (.seq (.reg slices_insertionSortCmpFunc_int_r3 [.keep [0, 1, 2, 3, 8, 9] [1000000]]) (.block 2 slices_insertionSortCmpFunc_int_l1))) (.reg slices_insertionSortCmpFunc_int_r2 [.keep [0, 1, 2, 3, 8] [1000000]]))) [.keep [0, 1, 2, 3, 8] [1000000]]) Q s := Eq.trans rfl rfl
@[simp ↓] theorem slices_insertionSortCmpFunc_int_ic_run : run P Γ slices_insertionSortCmpFunc_int_ic Q s = run P Γ (.seq (.reg slices_insertionSortCmpFunc_int_r0 [.keep [0, 1, 2, 3, 8] [1000000]]) (.block 0 slices_insertionSortCmpFunc_int_l3)) Q s := Eq.trans rfl rfl
theorem slices_insertionSortCmpFunc_int_l1_run (h : ∀ K : St → Prop, K = run P Γ slices_insertionSortCmpFunc_int_l1 Q → run P Γ slices_insertionSortCmpFunc_int_g0 (thenX K Q) s) : run P Γ slices_insertionSortCmpFunc_int_l1 Q s := run_loop h
theorem slices_insertionSortCmpFunc_int_l3_run (h : ∀ K : St → Prop, K = run P Γ slices_insertionSortCmpFunc_int_l3 Q → run P Γ slices_insertionSortCmpFunc_int_g2 (thenX K Q) s) : run P Γ slices_insertionSortCmpFunc_int_l3 Q s := run_loop h
attribute [simp] slices_insertionSortCmpFunc_int_r0 slices_insertionSortCmpFunc_int_r1 slices_insertionSortCmpFunc_int_r3 slices_insertionSortCmpFunc_int_r4 slices_insertionSortCmpFunc_int_r6 slices_insertionSortCmpFunc_int_r5 slices_insertionSortCmpFunc_int_r2
def slices_insertionSortCmpFunc_int_rv : List RV := []

/- probecard/netlists.Order (function 34) -/
def netlists_Order_r0 : List RO := [
    ⟨some 1, .box true (.tmp 0), none, none⟩,
    ⟨some 2, .mv (.const (.slice none 0 0)), none, none⟩,
    ⟨some 3, .mv (.const (.int .i64 0)), none, none⟩]
def netlists_Order_r1 : List RO := [
    ⟨some 9, .load 4 true (.tmp 1), none, none⟩,
    ⟨some 10, .call 45 [(.tmp 9)], none, none⟩,
    ⟨some 8, .mv (.tmp 10), none, none⟩,
    ⟨some 11, .ext (.tmp 8) 0, none, none⟩,
    ⟨some 12, .ext (.tmp 8) 1, none, none⟩,
    ⟨some 4, .alloc false [(.slice none 0 0)], none, none⟩,
    ⟨none, .store 1 (.tmp 4) (.tmp 11), none, none⟩,
    ⟨some 5, .mv (.tmp 12), none, none⟩]
def netlists_Order_r2 : List RO := [
    ⟨some 13, .mv (.tmp 5), none, none⟩,
    ⟨some 14, .bin .neq (.tmp 13) (.const (.int .i64 0)), none, none⟩]
def netlists_Order_r3 : List RO := [
    ⟨some 15, .mv (.tmp 5), none, none⟩,
    ⟨some 2, .mv (.const (.slice none 0 0)), none, none⟩,
    ⟨some 3, .mv (.tmp 15), none, none⟩]
def netlists_Order_r4 : List RO := [
    ⟨some 16, .fadr 0 (.tmp 1), none, none⟩,
    ⟨some 17, .load 1 false (.tmp 16), none, none⟩,
    ⟨some 18, .len 0 (.tmp 17), none, none⟩,
    ⟨some 19, .mk 3 1 [(.int .i64 0)] (.tmp 18) (.tmp 18), none, none⟩,
    ⟨some 6, .mv (.tmp 19), none, none⟩]
def netlists_Order_r5 : List RO := [
    ⟨some 20, .mv (.tmp 6), none, none⟩,
    ⟨some 21, .len 0 (.tmp 20), none, none⟩,
    ⟨some 22, .mv (.const (.int .i64 0)), none, none⟩]
def netlists_Order_r6 : List RO := [
    ⟨some 23, .bin .lss (.tmp 22) (.tmp 21), none, none⟩]
def netlists_Order_r7 : List RO := [
    ⟨some 24, .mv (.tmp 22), none, none⟩,
    ⟨some 7, .mv (.tmp 24), none, none⟩]
def netlists_Order_r8 : List RO := [
    ⟨some 25, .mv (.tmp 6), none, none⟩,
    ⟨some 26, .mv (.tmp 7), none, none⟩,
    ⟨some 27, .mv (.tmp 7), none, none⟩,
    ⟨some 28, .iadr 1 (.tmp 25) (.tmp 26), none, none⟩,
    ⟨none, .store 1 (.tmp 28) (.tmp 27), none, none⟩]
def netlists_Order_r9 : List RO := [
    ⟨some 29, .bin .add (.tmp 22) (.const (.int .i64 1)), none, none⟩,
    ⟨some 22, .mv (.tmp 29), none, none⟩]
def netlists_Order_g0 : IC := .gh (.seq (.reg netlists_Order_r6 [.keep [4, 6, 21, 22, 23] [19]]) (.seq (.cond (.tmp 23) .skip (.exit 0)) (.seq (.block 1 (.seq (.reg netlists_Order_r7 [.keep [4, 6, 7, 21, 22] [19]]) (.reg netlists_Order_r8 [.keep [4, 6, 21, 22] [19]]))) (.reg netlists_Order_r9 [.keep [4, 6, 21, 22] [19]])))) [.keep [4, 6, 21, 22] [19]]
def netlists_Order_l1 : IC := .loop netlists_Order_g0
def netlists_Order_r10 : List RO := [
    ⟨some 30, .mv (.tmp 6), none, none⟩,
    ⟨some 31, .mkf 63 [(.tmp 4)], none, none⟩,
    ⟨some 32, .hcall 62 [(.tmp 30), (.tmp 31)] [19] 32000, none, none⟩]
def netlists_Order_r11 : List RO := [
    ⟨some 33, .mv (.tmp 6), none, none⟩,
    ⟨some 2, .mv (.tmp 33), none, none⟩,
    ⟨some 3, .mv (.const (.int .i64 0)), none, none⟩]
def netlists_Order_ic : IC := (.seq (.reg netlists_Order_r0 [.keep [1] []]) (.seq (.reg netlists_Order_r1 [.frz 4, .keep [1, 4, 5] []]) (.seq (.seq (.reg netlists_Order_r2 [.keep [1, 4, 5, 14] []]) (.cond (.tmp 14) (.seq (.reg netlists_Order_r3 [.keep [2, 3] [19]]) .ret) .skip)) (.seq (.reg netlists_Order_r4 [.keep [4, 6] [19]]) (.seq (.seq (.reg netlists_Order_r5 [.keep [4, 6, 21, 22] [19]]) (.block 0 netlists_Order_l1)) (.seq (.reg netlists_Order_r10 [.keep [6] [19]]) (.seq (.reg netlists_Order_r11 [.keep [2, 3] [19]]) .ret)))))))
@[simp ↓] theorem netlists_Order_g0_run : run P Γ netlists_Order_g0 Q s = run P Γ (.gh (.seq (.reg netlists_Order_r6 [.keep [4, 6, 21, 22, 23] [19]]) (.seq (.cond (.tmp 23) .skip (.exit 0)) (.seq (.block 1 (.seq (.reg netlists_Order_r7 [.keep [4, 6, 7, 21, 22] [19]]) (.reg netlists_Order_r8 [.keep [4, 6, 21, 22] [19]]))) (.reg netlists_Order_r9 [.keep [4, 6, 21, 22] [19]])))) [.keep [4, 6, 21, 22] [19]]) Q s := Eq.trans rfl rfl
@[simp ↓] theorem netlists_Order_ic_run : run P Γ netlists_Order_ic Q s = run P Γ (.seq (.reg netlists_Order_r0 [.keep [1] []]) (.seq (.reg netlists_Order_r1 [.frz 4, .keep [1, 4, 5] []]) (.seq (.seq (.reg netlists_Order_r2 [.keep [1, 4, 5, 14] []]) (.cond (.tmp 14) (.seq (.reg netlists_Order_r3 [.keep [2, 3] [19]]) .ret) .skip)) (.seq (.reg netlists_Order_r4 [.keep [4, 6] [19]]) (.seq (.seq (.reg netlists_Order_r5 [.keep [4, 6, 21, 22] [19]]) (.block 0 netlists_Order_l1)) (.seq (.reg netlists_Order_r10 [.keep [6] [19]]) (.seq (.reg netlists_Order_r11 [.keep [2, 3] [19]]) .ret))))))) Q s := Eq.trans rfl rfl
theorem netlists_Order_l1_run (h : ∀ K : St → Prop, K = run P Γ netlists_Order_l1 Q → run P Γ netlists_Order_g0 (thenX K Q) s) : run P Γ netlists_Order_l1 Q s := run_loop h
attribute [simp] netlists_Order_r0 netlists_Order_r1 netlists_Order_r2 netlists_Order_r3 netlists_Order_r4 netlists_Order_r5 netlists_Order_r6 netlists_Order_r7 netlists_Order_r8 netlists_Order_r9 netlists_Order_r10 netlists_Order_r11
def netlists_Order_rv : List RV := [.tmp 2, .tmp 3]

/- probecard/netlists.Order$1 (function 63) -/
def netlists_Order_1_r0 : List RO := [
    ⟨some 5, .mv (.const (.int .i64 0)), none, none⟩]
def netlists_Order_1_r1 : List RO := [
    ⟨some 6, .load 1 false (.tmp 2), none, none⟩,
    ⟨some 7, .mv (.tmp 0), none, none⟩,
    ⟨some 8, .iadr 1 (.tmp 6) (.tmp 7), none, none⟩,
    ⟨some 9, .load 1 false (.tmp 8), none, none⟩,
    ⟨some 10, .load 1 false (.tmp 2), none, none⟩,
    ⟨some 11, .mv (.tmp 1), none, none⟩,
    ⟨some 12, .iadr 1 (.tmp 10) (.tmp 11), none, none⟩,
    ⟨some 13, .load 1 false (.tmp 12), none, none⟩,
    ⟨some 14, .call 64 [(.tmp 9), (.tmp 13)], none, none⟩,
    ⟨some 5, .mv (.tmp 14), none, none⟩]
def netlists_Order_1_ic : IC := (.seq (.reg netlists_Order_1_r0 [.keep [0, 1, 2] []]) (.seq (.reg netlists_Order_1_r1 [.keep [5] []]) .ret))
@[simp ↓] theorem netlists_Order_1_ic_run : run P Γ netlists_Order_1_ic Q s = run P Γ (.seq (.reg netlists_Order_1_r0 [.keep [0, 1, 2] []]) (.seq (.reg netlists_Order_1_r1 [.keep [5] []]) .ret)) Q s := Eq.trans rfl rfl
attribute [simp] netlists_Order_1_r0 netlists_Order_1_r1
def netlists_Order_1_rv : List RV := [.tmp 5]

/- cmp.Compare[int] (function 64) -/
def cmp_Compare_int_r0 : List RO := [
    ⟨some 4, .mv (.const (.int .i64 0)), none, none⟩]
def cmp_Compare_int_r1 : List RO := [
    ⟨some 7, .mv (.tmp 0), none, none⟩,
    ⟨some 8, .call 95 [(.tmp 7)], none, none⟩,
    ⟨some 5, .mv (.tmp 8), none, none⟩]
def cmp_Compare_int_r2 : List RO := [
    ⟨some 9, .mv (.tmp 1), none, none⟩,
    ⟨some 10, .call 95 [(.tmp 9)], none, none⟩,
    ⟨some 6, .mv (.tmp 10), none, none⟩]
def cmp_Compare_int_r3 : List RO := [
    ⟨some 11, .mv (.tmp 5), none, none⟩]
def cmp_Compare_int_r4 : List RO := [
    ⟨some 12, .mv (.tmp 6), none, none⟩]
def cmp_Compare_int_r5 : List RO := [
    ⟨some 4, .mv (.const (.int .i64 0)), none, none⟩]
def cmp_Compare_int_r6 : List RO := [
    ⟨some 4, .mv (.const (.int .i64 (-1))), none, none⟩]
def cmp_Compare_int_r7 : List RO := [
    ⟨some 13, .mv (.tmp 6), none, none⟩]
def cmp_Compare_int_r8 : List RO := [
    ⟨some 4, .mv (.const (.int .i64 1)), none, none⟩]
def cmp_Compare_int_r9 : List RO := [
    ⟨some 14, .mv (.tmp 0), none, none⟩,
    ⟨some 15, .mv (.tmp 1), none, none⟩,
    ⟨some 16, .bin .lss (.tmp 14) (.tmp 15), none, none⟩]
def cmp_Compare_int_r10 : List RO := [
    ⟨some 4, .mv (.const (.int .i64 (-1))), none, none⟩]
def cmp_Compare_int_r11 : List RO := [
    ⟨some 17, .mv (.tmp 0), none, none⟩,
    ⟨some 18, .mv (.tmp 1), none, none⟩,
    ⟨some 19, .bin .gtr (.tmp 17) (.tmp 18), none, none⟩]
def cmp_Compare_int_r12 : List RO := [
    ⟨some 4, .mv (.const (.int .i64 1)), none, none⟩]
def cmp_Compare_int_r13 : List RO := [
    ⟨some 4, .mv (.const (.int .i64 0)), none, none⟩]
def cmp_Compare_int_ic : IC := (.seq (.reg cmp_Compare_int_r0 [.keep [0, 1] []]) (.seq (.reg cmp_Compare_int_r1 [.keep [0, 1, 5] []]) (.seq (.reg cmp_Compare_int_r2 [.keep [0, 1, 5, 6] []]) (.seq (.seq (.reg cmp_Compare_int_r3 [.keep [0, 1, 6, 11] []]) (.cond (.tmp 11) (.seq (.seq (.reg cmp_Compare_int_r4 [.keep [12] []]) (.cond (.tmp 12) (.seq (.reg cmp_Compare_int_r5 [.keep [4] []]) .ret) .skip)) (.seq (.reg cmp_Compare_int_r6 [.keep [4] []]) .ret)) .skip)) (.seq (.seq (.reg cmp_Compare_int_r7 [.keep [0, 1, 13] []]) (.cond (.tmp 13) (.seq (.reg cmp_Compare_int_r8 [.keep [4] []]) .ret) .skip)) (.seq (.seq (.reg cmp_Compare_int_r9 [.keep [0, 1, 16] []]) (.cond (.tmp 16) (.seq (.reg cmp_Compare_int_r10 [.keep [4] []]) .ret) .skip)) (.seq (.seq (.reg cmp_Compare_int_r11 [.keep [19] []]) (.cond (.tmp 19) (.seq (.reg cmp_Compare_int_r12 [.keep [4] []]) .ret) .skip)) (.seq (.reg cmp_Compare_int_r13 [.keep [4] []]) .ret))))))))
@[simp ↓] theorem cmp_Compare_int_ic_run : run P Γ cmp_Compare_int_ic Q s = run P Γ (.seq (.reg cmp_Compare_int_r0 [.keep [0, 1] []]) (.seq (.reg cmp_Compare_int_r1 [.keep [0, 1, 5] []]) (.seq (.reg cmp_Compare_int_r2 [.keep [0, 1, 5, 6] []]) (.seq (.seq (.reg cmp_Compare_int_r3 [.keep [0, 1, 6, 11] []]) (.cond (.tmp 11) (.seq (.seq (.reg cmp_Compare_int_r4 [.keep [12] []]) (.cond (.tmp 12) (.seq (.reg cmp_Compare_int_r5 [.keep [4] []]) .ret) .skip)) (.seq (.reg cmp_Compare_int_r6 [.keep [4] []]) .ret)) .skip)) (.seq (.seq (.reg cmp_Compare_int_r7 [.keep [0, 1, 13] []]) (.cond (.tmp 13) (.seq (.reg cmp_Compare_int_r8 [.keep [4] []]) .ret) .skip)) (.seq (.seq (.reg cmp_Compare_int_r9 [.keep [0, 1, 16] []]) (.cond (.tmp 16) (.seq (.reg cmp_Compare_int_r10 [.keep [4] []]) .ret) .skip)) (.seq (.seq (.reg cmp_Compare_int_r11 [.keep [19] []]) (.cond (.tmp 19) (.seq (.reg cmp_Compare_int_r12 [.keep [4] []]) .ret) .skip)) (.seq (.reg cmp_Compare_int_r13 [.keep [4] []]) .ret)))))))) Q s := Eq.trans rfl rfl
attribute [simp] cmp_Compare_int_r0 cmp_Compare_int_r1 cmp_Compare_int_r2 cmp_Compare_int_r3 cmp_Compare_int_r4 cmp_Compare_int_r5 cmp_Compare_int_r6 cmp_Compare_int_r7 cmp_Compare_int_r8 cmp_Compare_int_r9 cmp_Compare_int_r10 cmp_Compare_int_r11 cmp_Compare_int_r12 cmp_Compare_int_r13
def cmp_Compare_int_rv : List RV := [.tmp 4]

/- cmp.isNaN[int] (function 95) -/
def cmp_isNaN_int_r0 : List RO := [
    ⟨some 2, .mv (.const (.bool false)), none, none⟩]
def cmp_isNaN_int_r1 : List RO := [
    ⟨some 3, .mv (.tmp 0), none, none⟩,
    ⟨some 4, .mv (.tmp 0), none, none⟩,
    ⟨some 5, .bin .neq (.tmp 3) (.tmp 4), none, none⟩,
    ⟨some 2, .mv (.tmp 5), none, none⟩]
def cmp_isNaN_int_ic : IC := (.seq (.reg cmp_isNaN_int_r0 [.keep [0] []]) (.seq (.reg cmp_isNaN_int_r1 [.keep [2] []]) .ret))
@[simp ↓] theorem cmp_isNaN_int_ic_run : run P Γ cmp_isNaN_int_ic Q s = run P Γ (.seq (.reg cmp_isNaN_int_r0 [.keep [0] []]) (.seq (.reg cmp_isNaN_int_r1 [.keep [2] []]) .ret)) Q s := Eq.trans rfl rfl
attribute [simp] cmp_isNaN_int_r0 cmp_isNaN_int_r1
def cmp_isNaN_int_rv : List RV := [.tmp 2]
end
end Go.Lg

/- The abstract code is that of the program (by the kernel). Conditions: none. -/
namespace Go.Lg
open Go Go.Proofs
theorem slices_SortStableFunc_int_chk : chkF Tryd.prog 62 slices_SortStableFunc_int_ic 9 2 slices_SortStableFunc_int_rv = true := by kernel_rfl
theorem slices_stableCmpFunc_int_chk : chkF Tryd.prog 94 slices_stableCmpFunc_int_ic 63 3 slices_stableCmpFunc_int_rv = true := by kernel_rfl
theorem slices_insertionSortCmpFunc_int_chk : chkF Tryd.prog 114 slices_insertionSortCmpFunc_int_ic 53 4 slices_insertionSortCmpFunc_int_rv = true := by kernel_rfl
theorem netlists_Order_chk : chkF Tryd.prog 34 netlists_Order_ic 34 1 netlists_Order_rv = true := by kernel_rfl
theorem netlists_Order_1_chk : chkF Tryd.prog 63 netlists_Order_1_ic 15 3 netlists_Order_1_rv = true := by kernel_rfl
theorem cmp_Compare_int_chk : chkF Tryd.prog 64 cmp_Compare_int_ic 20 2 cmp_Compare_int_rv = true := by kernel_rfl
theorem cmp_isNaN_int_chk : chkF Tryd.prog 95 cmp_isNaN_int_ic 6 1 cmp_isNaN_int_rv = true := by kernel_rfl
end Go.Lg

/- Sorting a list of ints in place, up to twenty elements; Order. Conditions: none. -/
set_option linter.unusedSimpArgs false
set_option linter.unusedVariables false
set_option maxRecDepth 100000
namespace Go.Lg
open Go Go.Proofs
variable {Γ : Tables}

theorem callK_clos2 {hp : List (Nat × Reg)} {f : FuncId} {K : T → Prop} {cs : List T} {t u res : T} (h : FreshCalls Tryd.prog Γ f (t :: u :: cs) res) (hk : K res) : callK Tryd.prog Γ hp f (.t t :: .t u :: cs.map .t) K ⟨⟩ :=
  callK_fresh h (by simp only [List.map_cons, List.map_map, Function.comp_def, optAll, reify]; rw [optAll_some]; rfl) hk

theorem swap_enc {l : List Int} {a b : Nat} : ints (swapL l a b) = ((ints l).set a [tI (l.getD b 0)]).set b [tI (l.getD a 0)] := by
  show enc1 tI _ = ((enc1 tI l).set a _).set b _
  rw [enc1_set, enc1_set]; rfl
theorem ge1 {f : Int → T} {l : List Int} {i : Nat} (hi : i < l.length) : (enc1 f l)[i]?.getD [] = [f (l.getD i 0)] := by
  have hget := enc1_get (f := f) 0 hi
  have hgg : l[i]?.getD 0 = l.getD i 0 := by simp [List.getD_eq_getElem?_getD]
  rw [hgg] at hget
  exact hget

theorem sink_loop {Q : AX → St → Prop} (ty n : Nat) (cap : Option Nat) (hn : n ≤ 1000000000) (f : FuncId) (cs : List T) (cmp : Int → Int → Int) (i : Nat) (hi : i < n) (R : List Int)
    (h0 : ∀ j : Int, Q (.exit 2) ⟨[(0, .ls 1000000 0 n cap), (1, .t (tI 0)), (2, .t (tI n)), (3, .t (.fn f cs)), (8, .t (tI i)), (9, .t (tI j)), (34, .t (tB false))], [(1000000, .sl ty 1 (ints R))]⟩) :
    ∀ (j : Nat) (l : List Int), j ≤ i → l.length = n → (∀ x ∈ l, ∀ y ∈ l, FreshCalls Tryd.prog Γ f (tI x :: tI y :: cs) (tI (cmp x y))) → sink (fun a b => decide (cmp a b < 0)) j l = R →
    run Tryd.prog Γ slices_insertionSortCmpFunc_int_l1 Q ⟨[(0, .ls 1000000 0 n cap), (1, .t (tI 0)), (2, .t (tI n)), (3, .t (.fn f cs)), (8, .t (tI i)), (9, .t (tI j))], [(1000000, .sl ty 1 (ints l))]⟩
  | 0, l, hj, hl, hc, hR => by
    refine slices_insertionSortCmpFunc_int_l1_run fun K hK => ?_
    simp only [sink] at hR
    subst hR
    simp
    exact h0 0
  | j + 1, l, hj, hl, hc, hR => by
    refine slices_insertionSortCmpFunc_int_l1_run fun K hK => ?_
    simp only [sink] at hR
    have la : j < l.length := by omega
    have lb : j + 1 < l.length := by omega
    have e1 := ge1 (f := tI) la
    have e2 := ge1 (f := tI) lb
    have m1 : l.getD j 0 ∈ l := by rw [getD_eq la]; exact List.getElem_mem la
    have m2 : l.getD (j + 1) 0 ∈ l := by rw [getD_eq lb]; exact List.getElem_mem lb
    have hcc := hc _ m2 _ m1
    have hs := swap_enc (l := l) (a := j + 1) (b := j)
    have hperm : (swapL l (j + 1) j).Perm l := swapL_perm lb la
    have hpl := swapL_len (l := l) (a := j + 1) (b := j)
    have hcs : ∀ x ∈ swapL l (j + 1) j, ∀ y ∈ swapL l (j + 1) j, FreshCalls Tryd.prog Γ f (tI x :: tI y :: cs) (tI (cmp x y)) := fun x hx y hy => hc x (hperm.mem_iff.1 hx) y (hperm.mem_iff.1 hy)
    have ih := sink_loop ty n cap hn f cs cmp i hi R h0 j (swapL l (j + 1) j) (by omega) (by rw [hpl]; exact hl) hcs
    generalize swapL l (j + 1) j = l' at *
    generalize l.getD j 0 = va at *
    generalize l.getD (j + 1) 0 = vb at *
    have hj1 : (0 : Int) < (j : Int) + 1 := by omega
    have hj2 : ((j : Int) + 1).toNat = j + 1 := by omega
    have hj3 : (j : Int) + 1 < n := by omega
    have hj4 : (j : Int) < n := by omega
    have hj5 : (j : Int) + 1 - 1 = j := by omega
    have lan : j < n := by omega
    have lbn : j + 1 < n := by omega
    simp (disch := omega) [hj1, hj2, hj3, hj4, hj5, lan, lbn, enc1_len, enc1_wid, hl, e1, e2, wrap_i64]
    refine ⟨by omega, callK_clos2 hcc ?_⟩
    by_cases h : cmp vb va < 0
    · rw [if_pos (by simpa using h)] at hR
      have ih := ih hR
      rw [hs] at ih
      simp (disch := omega) [h, hj1, hj2, hj3, hj4, hj5, lan, lbn, enc1_len, enc1_wid, hl, e1, e2, wrap_i64]
      refine ⟨by omega, ?_⟩
      rw [hK]
      exact_mod_cast ih
    · rw [if_neg (by simpa using h)] at hR
      subst hR
      simp (disch := omega) [h]
      exact_mod_cast h0 (j + 1)

theorem ins_loop {Q : AX → St → Prop} (ty n : Nat) (cap : Option Nat) (hn : n ≤ 1000000000) (f : FuncId) (cs : List T) (cmp : Int → Int → Int) (R : List Int)
    (h0 : ∀ i : Int, Q (.exit 0) ⟨[(0, .ls 1000000 0 n cap), (1, .t (tI 0)), (2, .t (tI n)), (3, .t (.fn f cs)), (8, .t (tI i)), (14, .t (tB false))], [(1000000, .sl ty 1 (ints R))]⟩) :
    ∀ (k i : Nat) (l : List Int), 1 ≤ i → i + k = max 1 n → l.length = n → (∀ x ∈ l, ∀ y ∈ l, FreshCalls Tryd.prog Γ f (tI x :: tI y :: cs) (tI (cmp x y))) → insS (fun a b => decide (cmp a b < 0)) k i l = R →
    run Tryd.prog Γ slices_insertionSortCmpFunc_int_l3 Q ⟨[(0, .ls 1000000 0 n cap), (1, .t (tI 0)), (2, .t (tI n)), (3, .t (.fn f cs)), (8, .t (tI i))], [(1000000, .sl ty 1 (ints l))]⟩
  | 0, i, l, h1, h, hl, hc, hR => by
    refine slices_insertionSortCmpFunc_int_l3_run fun K hK => ?_
    simp only [insS] at hR
    subst hR
    have h2 : ¬ (i : Int) < n := by omega
    have h2' : ¬ i < n := by omega
    simp [h2, h2']
    exact h0 _
  | k + 1, i, l, h1, h, hl, hc, hR => by
    refine slices_insertionSortCmpFunc_int_l3_run fun K hK => ?_
    simp only [insS] at hR
    have h2 : (i : Int) < n := by omega
    have h2' : i < n := by omega
    have hperm := sink_perm (lt := fun a b => decide (cmp a b < 0)) (j := i) (l := l) (by omega)
    have ih := ins_loop ty n cap hn f cs cmp R h0 k (i + 1) (sink (fun a b => decide (cmp a b < 0)) i l) (by omega) (by omega) (by rw [hperm.length_eq]; exact hl) (fun x hx y hy => hc x (hperm.mem_iff.1 hx) y (hperm.mem_iff.1 hy)) hR
    have hlp := fun Q h0 => sink_loop (Γ := Γ) (Q := Q) ty n cap hn f cs cmp i h2' _ h0 i l (Nat.le_refl _) hl hc rfl
    simp (disch := omega) [h2, h2', wrap_i64]
    refine hlp _ fun j => ?_
    simp (disch := omega) [wrap_i64]
    rw [hK]
    exact_mod_cast ih

theorem insertion_h (ty n : Nat) (cap : Option Nat) (hn : n ≤ 1000000000) (f : FuncId) (cs : List T) (cmp : Int → Int → Int) (l : List Int) (hl : l.length = n) (hc : ∀ x ∈ l, ∀ y ∈ l, FreshCalls Tryd.prog Γ f (tI x :: tI y :: cs) (tI (cmp x y))) :
    HCalls Tryd.prog Γ 114 [(1000000, .sl ty 1 (ints l))] [.ls 1000000 0 n cap, .t (tI 0), .t (tI n), .t (.fn f cs)] (.t (.tup [])) [(1000000, .sl ty 1 (ints (insS (fun a b => decide (cmp a b < 0)) (n - 1) 1 l)))] := by
  refine run_handQ slices_insertionSortCmpFunc_int_chk rfl ?_
  have hlp := fun Q h0 => ins_loop (Γ := Γ) (Q := Q) ty n cap hn f cs cmp _ h0 (n - 1) 1 l (by omega) (by omega) hl hc rfl
  simp (disch := omega) [slices_insertionSortCmpFunc_int_ic, wrap_i64]
  refine hlp _ fun i => ?_
  simp [slices_insertionSortCmpFunc_int_rv]
theorem insS_perm {lt : Int → Int → Bool} : ∀ {f i : Nat} {l : List Int}, i + f ≤ l.length ∨ f = 0 → (insS lt f i l).Perm l
  | 0, i, l, _ => List.Perm.refl l
  | f + 1, i, l, h => by
    simp only [insS]
    have hp := sink_perm (lt := lt) (j := i) (l := l) (by omega)
    exact (insS_perm (by rw [hp.length_eq]; omega)).trans hp
theorem insS_len {lt : Int → Int → Bool} {l : List Int} {n : Nat} (h : l.length = n) : (insS lt (n - 1) 1 l).length = l.length := (insS_perm (by omega)).length_eq

theorem stable_h (ty n : Nat) (cap : Option Nat) (hn : n ≤ 19) (f : FuncId) (cs : List T) (cmp : Int → Int → Int) (l : List Int) (hl : l.length = n) (hc : ∀ x ∈ l, ∀ y ∈ l, FreshCalls Tryd.prog Γ f (tI x :: tI y :: cs) (tI (cmp x y))) :
    HCalls Tryd.prog Γ 94 [(1000000, .sl ty 1 (ints l))] [.ls 1000000 0 n cap, .t (tI n), .t (.fn f cs)] (.t (.tup [])) [(1000000, .sl ty 1 (ints (insS (fun a b => decide (cmp a b < 0)) (n - 1) 1 l)))] := by
  refine run_handQ slices_stableCmpFunc_int_chk rfl ?_
  have hi := insertion_h (Γ := Γ) ty n cap (by omega) f cs cmp l hl hc
  simp (disch := omega) [slices_stableCmpFunc_int_ic, wrap_i64]
  have hR := insS_len (lt := fun a b => decide (cmp a b < 0)) hl
  generalize insS (fun a b => decide (cmp a b < 0)) (n - 1) 1 l = R at *
  refine slices_stableCmpFunc_int_l1_run fun K hK => ?_
  have h1 : ¬ (20 : Int) ≤ n := by omega
  have h2 : ¬ 20 ≤ n := by omega
  have h3 : ¬ (20 : Int) < n := by omega
  have h4 : ¬ 20 < n := by omega
  simp [h1, h2]
  refine ⟨_, _, hi, ?_⟩
  simp [enc1_len, hR]
  refine slices_stableCmpFunc_int_l5_run fun K hK => ?_
  simp [h3, h4, slices_stableCmpFunc_int_rv]
theorem sort_h (ty n : Nat) (cap : Option Nat) (hn : n ≤ 19) (f : FuncId) (cs : List T) (cmp : Int → Int → Int) (l : List Int) (hl : l.length = n) (hc : ∀ x ∈ l, ∀ y ∈ l, FreshCalls Tryd.prog Γ f (tI x :: tI y :: cs) (tI (cmp x y))) :
    HCalls Tryd.prog Γ 62 [(1000000, .sl ty 1 (ints l))] [.ls 1000000 0 n cap, .t (.fn f cs)] (.t (.tup [])) [(1000000, .sl ty 1 (ints (insS (fun a b => decide (cmp a b < 0)) (n - 1) 1 l)))] := by
  refine run_handQ slices_SortStableFunc_int_chk rfl ?_
  have hi := stable_h (Γ := Γ) ty n cap hn f cs cmp l hl hc
  have hR := insS_len (lt := fun a b => decide (cmp a b < 0)) hl
  generalize insS (fun a b => decide (cmp a b < 0)) (n - 1) 1 l = R at *
  simp (disch := omega) [slices_SortStableFunc_int_ic, wrap_i64]
  refine ⟨_, _, hi, ?_⟩
  simp [slices_SortStableFunc_int_rv, enc1_len, hR]

theorem nan_spec (n : Int) : FreshCalls Tryd.prog Γ 95 [tI n] (tB false) := by
  refine run_freshQ cmp_isNaN_int_chk rfl ?_
  simp [cmp_isNaN_int_ic, cmp_isNaN_int_rv, flatT]
def cmpI (a b : Int) : Int := if a < b then -1 else if b < a then 1 else 0
theorem cmp_spec (a b : Int) : FreshCalls Tryd.prog Γ 64 [tI a, tI b] (tI (cmpI a b)) := by
  refine run_freshQ cmp_Compare_int_chk rfl ?_
  simp [cmp_Compare_int_ic]
  refine callK_fresh (nan_spec a) rfl ?_
  simp
  refine callK_fresh (nan_spec b) rfl ?_
  by_cases h : a < b
  · simp [h, cmp_Compare_int_rv, flatT, cmpI]
  · by_cases h1 : b < a <;> simp [h, h1, cmp_Compare_int_rv, flatT, cmpI]

def levT (c : Cir) : T := .sl (ints (endL c).2.out) none none
theorem order1_spec (c : Cir) (h : levErr c = 0) (a b : Int) (ha : 0 ≤ a ∧ a < c.nodes.l.length) (hb : 0 ≤ b ∧ b < c.nodes.l.length) : FreshCalls Tryd.prog Γ 63 [tI a, tI b, .ip [levT c] 0] (tI (cmpI (levAt c a.toNat) (levAt c b.toNat))) := by
  refine run_freshQ netlists_Order_1_chk rfl ?_
  have hl := (lev_lt h).1
  have e1 := ge1 (f := tI) (l := (endL c).2.out) (i := a.toNat) (by omega)
  have e2 := ge1 (f := tI) (l := (endL c).2.out) (i := b.toNat) (by omega)
  unfold levAt levT
  generalize (endL c).2.out.getD a.toNat 0 = va at *
  generalize (endL c).2.out.getD b.toNat 0 = vb at *
  simp (disch := omega) [netlists_Order_1_ic, enc1_len, enc1_wid, hl, e1, e2, ha, hb]
  refine callK_fresh (cmp_spec _ _) rfl ?_
  simp [netlists_Order_1_rv, flatT]

theorem order_loop {Q : AX → St → Prop} (n : Nat) (hn : n ≤ 1000000000) (a4 : T)
    (h0 : Q (.exit 0) ⟨[(4, .t a4), (6, .ls 19 0 n none), (21, .t (tI n)), (22, .t (tI n)), (23, .t (tB false))], [(19, .sl 3 1 (ints (rng n)))]⟩) : ∀ (k i : Nat), k + i = n →
    run Tryd.prog Γ netlists_Order_l1 Q ⟨[(4, .t a4), (6, .ls 19 0 n none), (21, .t (tI n)), (22, .t (tI i))], [(19, .sl 3 1 (ints (rng i ++ List.replicate (n - i) 0)))]⟩
  | 0, i, h => by
    refine netlists_Order_l1_run fun K hK => ?_
    have h2 : i = n := by omega
    subst h2
    simp
    simpa using h0
  | k + 1, i, h => by
    refine netlists_Order_l1_run fun K hK => ?_
    have ih := order_loop n hn a4 h0 k (i + 1) (by omega)
    have h2 : i < n := by omega
    have hs : (ints (rng i ++ List.replicate (n - i) 0)).set i [tI i] = ints (rng (i + 1) ++ List.replicate (n - (i + 1)) 0) := by
      show (enc1 tI _).set i [tI i] = enc1 tI _
      rw [enc1_set]
      congr 1
      have e : n - i = (n - (i + 1)) + 1 := by omega
      rw [e, List.replicate_succ, List.set_append, if_neg (by rw [rng_len]; omega), rng_len, Nat.sub_self]
      simp [rng, List.range_succ]
    have hlen : (ints (rng i ++ List.replicate (n - i) 0)).length = n := by rw [enc1_len]; simp [rng_len]; omega
    generalize ints (rng i ++ List.replicate (n - i) 0) = E at *
    simp (disch := omega) [h2, hlen, hs, wrap_i64]
    rw [hK]
    exact_mod_cast ih

theorem order_spec (hΓ : GOk Γ) (c : Cir) (hc : COk c) (hn : c.nodes.l.length ≤ 19) :
    FreshCalls Tryd.prog Γ 34 [.agg (tC c)] (.tup [if levErr c = 0 then .sl (ints (orderC c)) none none else .sl [] (some 0) (some true), tI (levErr c)]) := by
  refine run_freshQ netlists_Order_chk rfl ?_
  have e1 := levels_spec hΓ c hc.toCirOk hc.asc
  simp [netlists_Order_ic, tC, tNodes, tNames, tMems, tSl]
  refine callK_fresh e1 rfl ?_
  by_cases h : levErr c = 0
  case neg => simp [h, netlists_Order_rv, St.freeze, Reg.closed, frzRef, frz1, frz0, frzReg, del, reify]
  have hlp := fun Q h0 => order_loop (Γ := Γ) (Q := Q) c.nodes.l.length (by omega) (.ip [levT c] 0) h0 c.nodes.l.length 0 (by omega)
  have hz : List.replicate c.nodes.l.length [T.v (Value.int .i64 0)] = ints (rng 0 ++ List.replicate (c.nodes.l.length - 0) 0) := by simp [enc1, rng]
  have hsort := sort_h (Γ := Γ) 3 c.nodes.l.length none hn 63 [.ip [levT c] 0] (fun a b => cmpI (levAt c a.toNat) (levAt c b.toNat)) (rng c.nodes.l.length) rng_len (fun x hx y hy => order1_spec c h x y (mem_rng.1 hx) (mem_rng.1 hy))
  have hlt : (fun a b => decide (cmpI (levAt c a.toNat) (levAt c b.toNat) < 0)) = levLt c := by
    funext a b
    simp only [levLt, cmpI]
    by_cases h1 : levAt c a.toNat < levAt c b.toNat
    · simp [h1]
    · by_cases h2 : levAt c b.toNat < levAt c a.toNat <;> simp [h1, h2]
  rw [hlt] at hsort
  have ho : insS (levLt c) (c.nodes.l.length - 1) 1 (rng c.nodes.l.length) = orderC c := rfl
  rw [ho] at hsort
  have holen : (orderC c).length = c.nodes.l.length := by rw [(orderC_ok c).1.length_eq, rng_len]
  simp [h, encN_len, wrap_i64, St.freeze, Reg.closed, frzRef, frz1, frz0, frzReg, del, reify]
  refine ⟨by omega, ?_⟩
  rw [hz]
  refine hlp _ ?_
  simp
  refine ⟨_, _, hsort, ?_⟩
  have htk : (ints (orderC c)).take c.nodes.l.length = ints (orderC c) := List.take_of_length_le (by rw [enc1_len, holen]; exact Nat.le_refl _)
  simp [enc1_len, rng_len, holen, netlists_Order_rv, reify, htk, h]
end Go.Lg

/- The abstract code of some functions, as the program gen.py prints it. Conditions: none. -/
set_option linter.unusedVariables false
namespace Go.Lg
open Go
section
variable {P : Program} {Γ : Tables} {Q : AX → St → Prop} {s : St}
/- probecard/sims.fits (function 53) -/
def sims_fits_r0 : List RO := [
    ⟨some 2, .box true (.tmp 0), none, none⟩,
    ⟨some 3, .box true (.tmp 1), none, none⟩,
    ⟨some 4, .mv (.const (.int .i64 0)), none, none⟩]
def sims_fits_r1 : List RO := [
    ⟨some 6, .fadr 2 (.tmp 2), none, none⟩,
    ⟨some 7, .load 1 false (.tmp 6), none, none⟩,
    ⟨some 8, .len 0 (.tmp 7), none, none⟩,
    ⟨some 9, .bin .gtr (.tmp 8) (.const (.int .i64 0)), none, none⟩,
    ⟨some 10, .mv (.tmp 9), none, none⟩,
    ⟨some 11, .load 4 true (.tmp 2), some (10, false), none⟩,
    ⟨some 12, .bsl true 41 1 [(.const (.int .u8 15))], some (10, false), none⟩,
    ⟨some 13, .call 15 [(.tmp 11), (.tmp 12)], some (10, false), none⟩,
    ⟨some 14, .len 0 (.tmp 13), some (10, false), none⟩,
    ⟨some 15, .bin .gtr (.tmp 14) (.const (.int .i64 0)), some (10, false), none⟩,
    ⟨some 16, .pick (.tmp 10) (.const (.bool true)) (.tmp 15), none, none⟩,
    ⟨some 5, .mv (.tmp 16), none, none⟩]
def sims_fits_r2 : List RO := [
    ⟨some 4, .mv (.const (.int .i64 7)), none, none⟩]
def sims_fits_r3 : List RO := [
    ⟨some 18, .fadr 0 (.tmp 3), none, none⟩,
    ⟨some 19, .load 1 false (.tmp 18), none, none⟩,
    ⟨some 20, .len 0 (.tmp 19), none, none⟩,
    ⟨some 21, .load 4 true (.tmp 2), none, none⟩,
    ⟨some 22, .call 33 [(.tmp 21)], none, none⟩,
    ⟨some 23, .len 0 (.tmp 22), none, none⟩,
    ⟨some 24, .bin .neq (.tmp 20) (.tmp 23), none, none⟩,
    ⟨some 25, .mv (.tmp 24), none, none⟩,
    ⟨some 26, .fadr 1 (.tmp 3), some (25, false), none⟩,
    ⟨some 27, .load 1 false (.tmp 26), some (25, false), none⟩,
    ⟨some 28, .len 0 (.tmp 27), some (25, false), none⟩,
    ⟨some 29, .load 4 true (.tmp 2), some (25, false), none⟩,
    ⟨some 30, .call 17 [(.tmp 29)], some (25, false), none⟩,
    ⟨some 31, .len 0 (.tmp 30), some (25, false), none⟩,
    ⟨some 32, .bin .neq (.tmp 28) (.tmp 31), some (25, false), none⟩,
    ⟨some 33, .pick (.tmp 25) (.const (.bool true)) (.tmp 32), none, none⟩,
    ⟨some 17, .mv (.tmp 33), none, none⟩]
def sims_fits_r4 : List RO := [
    ⟨some 4, .mv (.const (.int .i64 8)), none, none⟩]
def sims_fits_r5 : List RO := [
    ⟨some 35, .fadr 0 (.tmp 3), none, none⟩,
    ⟨some 36, .load 1 false (.tmp 35), none, none⟩,
    ⟨some 37, .call 73 [(.tmp 36), (.func 81)], none, none⟩,
    ⟨some 38, .mv (.tmp 37), none, none⟩,
    ⟨some 39, .fadr 1 (.tmp 3), some (38, false), none⟩,
    ⟨some 40, .load 1 false (.tmp 39), some (38, false), none⟩,
    ⟨some 41, .call 73 [(.tmp 40), (.func 81)], some (38, false), none⟩,
    ⟨some 42, .pick (.tmp 38) (.const (.bool true)) (.tmp 41), none, none⟩,
    ⟨some 34, .mv (.tmp 42), none, none⟩]
def sims_fits_r6 : List RO := [
    ⟨some 4, .mv (.const (.int .i64 1)), none, none⟩]
def sims_fits_r7 : List RO := [
    ⟨some 4, .mv (.const (.int .i64 0)), none, none⟩]
def sims_fits_ic : IC := (.seq (.reg sims_fits_r0 [.keep [2, 3] []]) (.seq (.block 0 (.seq (.reg sims_fits_r1 [.keep [2, 3, 5] []]) (.cond (.tmp 5) (.seq (.reg sims_fits_r2 [.keep [4] []]) .ret) (.seq (.reg sims_fits_r3 [.keep [3, 17] []]) (.cond (.tmp 17) (.seq (.reg sims_fits_r4 [.keep [4] []]) .ret) (.seq (.reg sims_fits_r5 [.keep [34] []]) (.cond (.tmp 34) (.seq (.reg sims_fits_r6 [.keep [4] []]) .ret) .skip))))))) (.seq (.reg sims_fits_r7 [.keep [4] []]) .ret)))
@[simp ↓] theorem sims_fits_ic_run : run P Γ sims_fits_ic Q s = run P Γ (.seq (.reg sims_fits_r0 [.keep [2, 3] []]) (.seq (.block 0 (.seq (.reg sims_fits_r1 [.keep [2, 3, 5] []]) (.cond (.tmp 5) (.seq (.reg sims_fits_r2 [.keep [4] []]) .ret) (.seq (.reg sims_fits_r3 [.keep [3, 17] []]) (.cond (.tmp 17) (.seq (.reg sims_fits_r4 [.keep [4] []]) .ret) (.seq (.reg sims_fits_r5 [.keep [34] []]) (.cond (.tmp 34) (.seq (.reg sims_fits_r6 [.keep [4] []]) .ret) .skip))))))) (.seq (.reg sims_fits_r7 [.keep [4] []]) .ret))) Q s := Eq.trans rfl rfl
attribute [simp] sims_fits_r0 sims_fits_r1 sims_fits_r2 sims_fits_r3 sims_fits_r4 sims_fits_r5 sims_fits_r6 sims_fits_r7
def sims_fits_rv : List RV := [.tmp 4]

/- probecard/sims.above (function 81) -/
def sims_above_r0 : List RO := [
    ⟨some 2, .mv (.const (.bool false)), none, none⟩]
def sims_above_r1 : List RO := [
    ⟨some 3, .mv (.tmp 0), none, none⟩,
    ⟨some 4, .bin .gtr (.tmp 3) (.const (.int .u8 3)), none, none⟩,
    ⟨some 2, .mv (.tmp 4), none, none⟩]
def sims_above_ic : IC := (.seq (.reg sims_above_r0 [.keep [0] []]) (.seq (.reg sims_above_r1 [.keep [2] []]) .ret))
@[simp ↓] theorem sims_above_ic_run : run P Γ sims_above_ic Q s = run P Γ (.seq (.reg sims_above_r0 [.keep [0] []]) (.seq (.reg sims_above_r1 [.keep [2] []]) .ret)) Q s := Eq.trans rfl rfl
attribute [simp] sims_above_r0 sims_above_r1
def sims_above_rv : List RV := [.tmp 2]

/- (probecard/sims.run).load (function 54) -/
def sims_run_load_r0 : List RO := [
    ⟨some 2, .box false (.tmp 0), none, none⟩,
    ⟨some 3, .box true (.tmp 1), none, none⟩]
def sims_run_load_r1 : List RO := [
    ⟨some 8, .fadr 0 (.tmp 2), none, none⟩,
    ⟨some 9, .load 4 true (.tmp 8), none, none⟩,
    ⟨some 10, .call 33 [(.tmp 9)], none, none⟩,
    ⟨some 11, .len 0 (.tmp 10), none, none⟩,
    ⟨some 12, .mv (.const (.int .i64 0)), none, none⟩]
def sims_run_load_r2 : List RO := [
    ⟨some 13, .bin .lss (.tmp 12) (.tmp 11), none, none⟩]
def sims_run_load_r3 : List RO := [
    ⟨some 14, .mv (.tmp 12), none, none⟩,
    ⟨some 15, .iadr 1 (.tmp 10) (.tmp 12), none, none⟩,
    ⟨some 16, .load 1 false (.tmp 15), none, none⟩,
    ⟨some 4, .mv (.tmp 14), none, none⟩,
    ⟨some 5, .mv (.tmp 16), none, none⟩]
def sims_run_load_r4 : List RO := [
    ⟨some 17, .fadr 4 (.tmp 2), none, none⟩,
    ⟨some 18, .ldR 2 1 false (.tmp 17), none, none⟩,
    ⟨some 19, .mv (.tmp 5), none, none⟩,
    ⟨some 20, .fadr 0 (.tmp 3), none, none⟩,
    ⟨some 21, .ldT 1 false (.tmp 20), none, none⟩,
    ⟨some 22, .mv (.tmp 4), none, none⟩,
    ⟨some 23, .iadr 1 (.tmp 21) (.tmp 22), none, none⟩,
    ⟨some 24, .ldT 1 false (.tmp 23), none, none⟩,
    ⟨some 25, .iadr 1 (.tmp 18) (.tmp 19), none, none⟩,
    ⟨none, .stR 1000000 1 (.tmp 25) (.tmp 24), none, none⟩]
def sims_run_load_r5 : List RO := [
    ⟨some 26, .bin .add (.tmp 12) (.const (.int .i64 1)), none, none⟩,
    ⟨some 12, .mv (.tmp 26), none, none⟩]
def sims_run_load_g0 : IC := .gh (.seq (.reg sims_run_load_r2 [.keep [2, 3, 10, 11, 12, 13] [2, 1000000]]) (.seq (.cond (.tmp 13) .skip (.exit 0)) (.seq (.block 1 (.seq (.reg sims_run_load_r3 [.keep [2, 3, 4, 5, 10, 11, 12] [2, 1000000]]) (.reg sims_run_load_r4 [.keep [2, 3, 10, 11, 12] [2, 1000000]]))) (.reg sims_run_load_r5 [.keep [2, 3, 10, 11, 12] [2, 1000000]])))) [.keep [2, 3, 10, 11, 12] [2, 1000000]]
def sims_run_load_l1 : IC := .loop sims_run_load_g0
def sims_run_load_r6 : List RO := [
    ⟨some 27, .fadr 0 (.tmp 2), none, none⟩,
    ⟨some 28, .load 4 true (.tmp 27), none, none⟩,
    ⟨some 29, .call 17 [(.tmp 28)], none, none⟩,
    ⟨some 30, .len 0 (.tmp 29), none, none⟩,
    ⟨some 31, .mv (.const (.int .i64 0)), none, none⟩]
def sims_run_load_r7 : List RO := [
    ⟨some 32, .bin .lss (.tmp 31) (.tmp 30), none, none⟩]
def sims_run_load_r8 : List RO := [
    ⟨some 33, .mv (.tmp 31), none, none⟩,
    ⟨some 34, .iadr 1 (.tmp 29) (.tmp 31), none, none⟩,
    ⟨some 35, .load 1 false (.tmp 34), none, none⟩,
    ⟨some 6, .mv (.tmp 33), none, none⟩,
    ⟨some 7, .mv (.tmp 35), none, none⟩]
def sims_run_load_r9 : List RO := [
    ⟨some 36, .fadr 4 (.tmp 2), none, none⟩,
    ⟨some 37, .ldR 2 1 false (.tmp 36), none, none⟩,
    ⟨some 38, .mv (.tmp 7), none, none⟩,
    ⟨some 39, .fadr 1 (.tmp 3), none, none⟩,
    ⟨some 40, .ldT 1 false (.tmp 39), none, none⟩,
    ⟨some 41, .mv (.tmp 6), none, none⟩,
    ⟨some 42, .iadr 1 (.tmp 40) (.tmp 41), none, none⟩,
    ⟨some 43, .ldT 1 false (.tmp 42), none, none⟩,
    ⟨some 44, .iadr 1 (.tmp 37) (.tmp 38), none, none⟩,
    ⟨none, .stR 1000000 1 (.tmp 44) (.tmp 43), none, none⟩]
def sims_run_load_r10 : List RO := [
    ⟨some 45, .bin .add (.tmp 31) (.const (.int .i64 1)), none, none⟩,
    ⟨some 31, .mv (.tmp 45), none, none⟩]
def sims_run_load_g2 : IC := .gh (.seq (.reg sims_run_load_r7 [.keep [2, 3, 29, 30, 31, 32] [2, 1000000]]) (.seq (.cond (.tmp 32) .skip (.exit 2)) (.seq (.block 3 (.seq (.reg sims_run_load_r8 [.keep [2, 3, 6, 7, 29, 30, 31] [2, 1000000]]) (.reg sims_run_load_r9 [.keep [2, 3, 29, 30, 31] [2, 1000000]]))) (.reg sims_run_load_r10 [.keep [2, 3, 29, 30, 31] [2, 1000000]])))) [.keep [2, 3, 29, 30, 31] [2, 1000000]]
def sims_run_load_l3 : IC := .loop sims_run_load_g2
def sims_run_load_ic : IC := (.seq (.reg sims_run_load_r0 [.keep [2, 3] [2, 1000000]]) (.seq (.seq (.reg sims_run_load_r1 [.keep [2, 3, 10, 11, 12] [2, 1000000]]) (.block 0 sims_run_load_l1)) (.seq (.reg sims_run_load_r6 [.keep [2, 3, 29, 30, 31] [2, 1000000]]) (.gh (.block 2 sims_run_load_l3) [.keep [] [1000000]]))))
@[simp ↓] theorem sims_run_load_g0_run : run P Γ sims_run_load_g0 Q s = run P Γ (.gh (.seq (.reg sims_run_load_r2 [.keep [2, 3, 10, 11, 12, 13] [2, 1000000]]) (.seq (.cond (.tmp 13) .skip (.exit 0)) (.seq (.block 1 (.seq (.reg sims_run_load_r3 [.keep [2, 3, 4, 5, 10, 11, 12] [2, 1000000]]) (.reg sims_run_load_r4 [.keep [2, 3, 10, 11, 12] [2, 1000000]]))) (.reg sims_run_load_r5 [.keep [2, 3, 10, 11, 12] [2, 1000000]])))) [.keep [2, 3, 10, 11, 12] [2, 1000000]]) Q s := Eq.trans rfl rfl
@[simp ↓] theorem sims_run_load_g2_run : run P Γ sims_run_load_g2 Q s = run P Γ (.gh (.seq (.reg sims_run_load_r7 [.keep [2, 3, 29, 30, 31, 32] [2, 1000000]]) (.seq (.cond (.tmp 32) .skip (.exit 2)) (.seq (.block 3 (.seq (.reg sims_run_load_r8 [.keep [2, 3, 6, 7, 29, 30, 31] [2, 1000000]]) (.reg sims_run_load_r9 [.keep [2, 3, 29, 30, 31] [2, 1000000]]))) (.reg sims_run_load_r10 [.keep [2, 3, 29, 30, 31] [2, 1000000]])))) [.keep [2, 3, 29, 30, 31] [2, 1000000]]) Q s := Eq.trans rfl rfl
@[simp ↓] theorem sims_run_load_ic_run : run P Γ sims_run_load_ic Q s = run P Γ (.seq (.reg sims_run_load_r0 [.keep [2, 3] [2, 1000000]]) (.seq (.seq (.reg sims_run_load_r1 [.keep [2, 3, 10, 11, 12] [2, 1000000]]) (.block 0 sims_run_load_l1)) (.seq (.reg sims_run_load_r6 [.keep [2, 3, 29, 30, 31] [2, 1000000]]) (.gh (.block 2 sims_run_load_l3) [.keep [] [1000000]])))) Q s := Eq.trans rfl rfl
theorem sims_run_load_l1_run (h : ∀ K : St → Prop, K = run P Γ sims_run_load_l1 Q → run P Γ sims_run_load_g0 (thenX K Q) s) : run P Γ sims_run_load_l1 Q s := run_loop h
theorem sims_run_load_l3_run (h : ∀ K : St → Prop, K = run P Γ sims_run_load_l3 Q → run P Γ sims_run_load_g2 (thenX K Q) s) : run P Γ sims_run_load_l3 Q s := run_loop h
attribute [simp] sims_run_load_r0 sims_run_load_r1 sims_run_load_r2 sims_run_load_r3 sims_run_load_r4 sims_run_load_r5 sims_run_load_r6 sims_run_load_r7 sims_run_load_r8 sims_run_load_r9 sims_run_load_r10
def sims_run_load_rv : List RV := []

/- probecard/sims.Run (function 25) -/
def sims_Run_r0 : List RO := [
    ⟨some 2, .box true (.tmp 0), none, none⟩,
    ⟨some 3, .box true (.tmp 1), none, none⟩,
    ⟨some 4, .alloc false [(.slice none 0 0), (.slice none 0 0)], none, none⟩,
    ⟨some 5, .mv (.const (.slice none 0 0)), none, none⟩,
    ⟨some 6, .mv (.const (.int .i64 0)), none, none⟩]
def sims_Run_r1 : List RO := [
    ⟨some 17, .load 4 true (.tmp 2), none, none⟩,
    ⟨some 18, .call 34 [(.tmp 17)], none, none⟩,
    ⟨some 16, .mv (.tmp 18), none, none⟩,
    ⟨some 19, .ext (.tmp 16) 0, none, none⟩,
    ⟨some 20, .ext (.tmp 16) 1, none, none⟩,
    ⟨some 7, .mv (.tmp 19), none, none⟩,
    ⟨some 8, .mv (.tmp 20), none, none⟩]
def sims_Run_r2 : List RO := [
    ⟨some 21, .mv (.tmp 8), none, none⟩,
    ⟨some 22, .bin .eql (.tmp 21) (.const (.int .i64 0)), none, none⟩]
def sims_Run_r3 : List RO := [
    ⟨some 23, .load 4 true (.tmp 2), none, none⟩,
    ⟨some 24, .load 2 true (.tmp 3), none, none⟩,
    ⟨some 25, .call 53 [(.tmp 23), (.tmp 24)], none, none⟩,
    ⟨some 8, .mv (.tmp 25), none, none⟩]
def sims_Run_r4 : List RO := [
    ⟨some 26, .mv (.tmp 8), none, none⟩,
    ⟨some 27, .bin .neq (.tmp 26) (.const (.int .i64 0)), none, none⟩]
def sims_Run_r5 : List RO := [
    ⟨some 28, .build [(1, (.const (.slice none 0 0))), (1, (.const (.slice none 0 0)))], none, none⟩,
    ⟨some 29, .mv (.tmp 8), none, none⟩,
    ⟨none, .store 2 (.tmp 4) (.tmp 28), none, none⟩,
    ⟨some 5, .mv (.const (.slice none 0 0)), none, none⟩,
    ⟨some 6, .mv (.tmp 29), none, none⟩]
def sims_Run_r6 : List RO := [
    ⟨some 30, .ldT 4 true (.tmp 2), none, none⟩,
    ⟨some 31, .fadr 0 (.tmp 2), none, none⟩,
    ⟨some 32, .ldT 1 false (.tmp 31), none, none⟩,
    ⟨some 33, .len 0 (.tmp 32), none, none⟩,
    ⟨some 34, .mkE 73 1 [(.int .u8 0)] (.tmp 33) (.tmp 33), none, none⟩,
    ⟨some 35, .build [(4, (.tmp 30)), (1, (.tmp 34))], none, none⟩,
    ⟨some 9, .alloc false [(.slice none 0 0), (.slice none 0 0), (.slice none 0 0), (.slice none 0 0), (.slice none 0 0)], none, none⟩,
    ⟨none, .stR 9 5 (.tmp 9) (.tmp 35), none, none⟩]
def sims_Run_r7 : List RO := [
    ⟨some 36, .load 5 true (.tmp 9), none, none⟩,
    ⟨some 37, .load 2 true (.tmp 3), none, none⟩,
    ⟨some 38, .hcall 54 [(.tmp 36), (.tmp 37)] [34] 38000, none, none⟩]
def sims_Run_r8 : List RO := [
    ⟨some 39, .mk 73 1 [(.int .u8 0)] (.const (.int .i64 0)) (.const (.int .i64 16)), none, none⟩,
    ⟨some 10, .mv (.tmp 39), none, none⟩]
def sims_Run_r9 : List RO := [
    ⟨some 40, .mv (.tmp 7), none, none⟩,
    ⟨some 41, .len 0 (.tmp 40), none, none⟩,
    ⟨some 42, .mv (.const (.int .i64 0)), none, none⟩]
def sims_Run_r10 : List RO := [
    ⟨some 43, .bin .lss (.tmp 42) (.tmp 41), none, none⟩]
def sims_Run_r11 : List RO := [
    ⟨some 44, .iadr 1 (.tmp 40) (.tmp 42), none, none⟩,
    ⟨some 45, .load 1 false (.tmp 44), none, none⟩,
    ⟨some 12, .mv (.tmp 45), none, none⟩]
def sims_Run_r12 : List RO := [
    ⟨some 46, .fadr 0 (.tmp 9), none, none⟩,
    ⟨some 47, .fadr 0 (.tmp 46), none, none⟩,
    ⟨some 48, .load 1 false (.tmp 47), none, none⟩,
    ⟨some 49, .mv (.tmp 12), none, none⟩,
    ⟨some 50, .iadr 4 (.tmp 48) (.tmp 49), none, none⟩,
    ⟨some 51, .load 4 true (.tmp 50), none, none⟩,
    ⟨some 13, .alloc false [(.int .u8 0), (.slice none 0 0), (.int .i64 0), (.int .i64 0)], none, none⟩,
    ⟨none, .store 4 (.tmp 13) (.tmp 51), none, none⟩]
def sims_Run_r13 : List RO := [
    ⟨some 52, .fadr 0 (.tmp 13), none, none⟩,
    ⟨some 53, .load 1 false (.tmp 52), none, none⟩,
    ⟨some 54, .call 35 [(.tmp 53)], none, none⟩,
    ⟨some 55, .un .not (.tmp 54), none, none⟩]
def sims_Run_r14 : List RO := [
    ⟨some 56, .mv (.tmp 10), none, none⟩,
    ⟨some 57, .slice 1 (.tmp 56) none (some (.const (.int .i64 0))) none, none, none⟩,
    ⟨some 10, .mv (.tmp 57), none, none⟩]
def sims_Run_r15 : List RO := [
    ⟨some 58, .fadr 1 (.tmp 13), none, none⟩,
    ⟨some 59, .load 1 false (.tmp 58), none, none⟩,
    ⟨some 60, .len 0 (.tmp 59), none, none⟩,
    ⟨some 61, .mv (.const (.int .i64 0)), none, none⟩]
def sims_Run_r16 : List RO := [
    ⟨some 62, .bin .lss (.tmp 61) (.tmp 60), none, none⟩]
def sims_Run_r17 : List RO := [
    ⟨some 63, .iadr 1 (.tmp 59) (.tmp 61), none, none⟩,
    ⟨some 64, .load 1 false (.tmp 63), none, none⟩,
    ⟨some 15, .mv (.tmp 64), none, none⟩]
def sims_Run_r18 : List RO := [
    ⟨some 65, .mv (.tmp 10), none, none⟩,
    ⟨some 66, .fadr 4 (.tmp 9), none, none⟩,
    ⟨some 67, .load 1 false (.tmp 66), none, none⟩,
    ⟨some 68, .mv (.tmp 15), none, none⟩,
    ⟨some 69, .iadr 1 (.tmp 67) (.tmp 68), none, none⟩,
    ⟨some 70, .load 1 false (.tmp 69), none, none⟩,
    ⟨some 71, .bsl true 73 1 [(.tmp 70)], none, none⟩,
    ⟨some 72, .app false 73 1 (.tmp 65) (.tmp 71), none, some 39⟩,
    ⟨some 10, .mv (.tmp 72), none, none⟩]
def sims_Run_r19 : List RO := [
    ⟨some 73, .bin .add (.tmp 61) (.const (.int .i64 1)), none, none⟩,
    ⟨some 61, .mv (.tmp 73), none, none⟩]
def sims_Run_g0 : IC := .gh (.seq (.reg sims_Run_r16 [.keep [4, 9, 10, 12, 13, 40, 41, 42, 59, 60, 61, 62] [4, 9, 13, 34, 39]]) (.seq (.cond (.tmp 62) .skip (.exit 2)) (.seq (.block 3 (.seq (.reg sims_Run_r17 [.keep [4, 9, 10, 12, 13, 15, 40, 41, 42, 59, 60, 61] [4, 9, 13, 34, 39]]) (.reg sims_Run_r18 [.keep [4, 9, 10, 12, 13, 40, 41, 42, 59, 60, 61] [4, 9, 13, 34, 39]]))) (.reg sims_Run_r19 [.keep [4, 9, 10, 12, 13, 40, 41, 42, 59, 60, 61] [4, 9, 13, 34, 39]])))) [.keep [4, 9, 10, 12, 13, 40, 41, 42, 59, 60, 61] [4, 9, 13, 34, 39]]
def sims_Run_l1 : IC := .loop sims_Run_g0
def sims_Run_r20 : List RO := [
    ⟨some 74, .fadr 4 (.tmp 9), none, none⟩,
    ⟨some 75, .ldR 9 1 false (.tmp 74), none, none⟩,
    ⟨some 76, .mv (.tmp 12), none, none⟩,
    ⟨some 77, .fadr 0 (.tmp 13), none, none⟩,
    ⟨some 78, .ldR 13 1 false (.tmp 77), none, none⟩,
    ⟨some 79, .mv (.tmp 10), none, none⟩,
    ⟨some 80, .call 55 [(.tmp 78), (.tmp 79)], none, none⟩,
    ⟨some 81, .iadr 1 (.tmp 75) (.tmp 76), none, none⟩,
    ⟨none, .stR 34 1 (.tmp 81) (.tmp 80), none, none⟩]
def sims_Run_r21 : List RO := [
    ⟨some 82, .bin .add (.tmp 42) (.const (.int .i64 1)), none, none⟩,
    ⟨some 42, .mv (.tmp 82), none, none⟩]
def sims_Run_g2 : IC := .gh (.seq (.reg sims_Run_r10 [.keep [4, 9, 10, 40, 41, 42, 43] [4, 9, 34, 39]]) (.seq (.cond (.tmp 43) .skip (.exit 0)) (.seq (.block 1 (.seq (.reg sims_Run_r11 [.keep [4, 9, 10, 12, 40, 41, 42] [4, 9, 34, 39]]) (.seq (.reg sims_Run_r12 [.keep [4, 9, 10, 12, 13, 40, 41, 42] [4, 9, 13, 34, 39]]) (.seq (.seq (.reg sims_Run_r13 [.keep [4, 9, 10, 12, 13, 40, 41, 42, 55] [4, 9, 13, 34, 39]]) (.cond (.tmp 55) (.exit 1) .skip)) (.seq (.reg sims_Run_r14 [.keep [4, 9, 10, 12, 13, 40, 41, 42] [4, 9, 13, 34, 39]]) (.seq (.seq (.reg sims_Run_r15 [.keep [4, 9, 10, 12, 13, 40, 41, 42, 59, 60, 61] [4, 9, 13, 34, 39]]) (.block 2 sims_Run_l1)) (.reg sims_Run_r20 [.keep [4, 9, 10, 40, 41, 42] [4, 9, 34, 39]]))))))) (.reg sims_Run_r21 [.keep [4, 9, 10, 40, 41, 42] [4, 9, 34, 39]])))) [.keep [4, 9, 10, 40, 41, 42] [4, 9, 34, 39]]
def sims_Run_l3 : IC := .loop sims_Run_g2
def sims_Run_r22 : List RO := [
    ⟨some 83, .ldR 9 5 true (.tmp 9), none, none⟩,
    ⟨some 84, .call 56 [(.tmp 83)], none, none⟩,
    ⟨some 85, .fadr 4 (.tmp 9), none, none⟩,
    ⟨some 86, .ldR 9 1 false (.tmp 85), none, none⟩,
    ⟨none, .stR 4 2 (.tmp 4) (.tmp 84), none, none⟩,
    ⟨some 5, .mv (.tmp 86), none, none⟩,
    ⟨some 6, .mv (.const (.int .i64 0)), none, none⟩]
def sims_Run_ic : IC := (.seq (.reg sims_Run_r0 [.keep [2, 3, 4] [4]]) (.seq (.reg sims_Run_r1 [.keep [2, 3, 4, 7, 8] [4]]) (.seq (.seq (.reg sims_Run_r2 [.keep [2, 3, 4, 7, 8, 22] [4]]) (.cond (.tmp 22) (.reg sims_Run_r3 [.keep [2, 3, 4, 7, 8] [4]]) .skip)) (.seq (.seq (.reg sims_Run_r4 [.keep [2, 3, 4, 7, 8, 27] [4]]) (.cond (.tmp 27) (.seq (.reg sims_Run_r5 [.keep [4, 5, 6] [4, 34]]) .ret) .skip)) (.seq (.reg sims_Run_r6 [.keep [3, 4, 7, 9] [4, 9, 34]]) (.seq (.reg sims_Run_r7 [.keep [4, 7, 9] [4, 9, 34]]) (.seq (.reg sims_Run_r8 [.keep [4, 7, 9, 10] [4, 9, 34, 39]]) (.seq (.seq (.reg sims_Run_r9 [.keep [4, 9, 10, 40, 41, 42] [4, 9, 34, 39]]) (.block 0 sims_Run_l3)) (.seq (.reg sims_Run_r22 [.keep [4, 5, 6] [4, 34]]) .ret)))))))))
@[simp ↓] theorem sims_Run_g0_run : run P Γ sims_Run_g0 Q s = run P Γ (.gh (.seq (.reg sims_Run_r16 [.keep [4, 9, 10, 12, 13, 40, 41, 42, 59, 60, 61, 62] [4, 9, 13, 34, 39]]) (.seq (.cond (.tmp 62) .skip (.exit 2)) (.seq (.block 3 (.seq (.reg sims_Run_r17 [.keep [4, 9, 10, 12, 13, 15, 40, 41, 42, 59, 60, 61] [4, 9, 13, 34, 39]]) (.reg sims_Run_r18 [.keep [4, 9, 10, 12, 13, 40, 41, 42, 59, 60, 61] [4, 9, 13, 34, 39]]))) (.reg sims_Run_r19 [.keep [4, 9, 10, 12, 13, 40, 41, 42, 59, 60, 61] [4, 9, 13, 34, 39]])))) [.keep [4, 9, 10, 12, 13, 40, 41, 42, 59, 60, 61] [4, 9, 13, 34, 39]]) Q s := Eq.trans rfl rfl
@[simp ↓] theorem sims_Run_g2_run : run P Γ sims_Run_g2 Q s = run P Γ (.gh (.seq (.reg sims_Run_r10 [.keep [4, 9, 10, 40, 41, 42, 43] [4, 9, 34, 39]]) (.seq (.cond (.tmp 43) .skip (.exit 0)) (.seq (.block 1 (.seq (.reg sims_Run_r11 [.keep [4, 9, 10, 12, 40, 41, 42] [4, 9, 34, 39]]) (.seq (.reg sims_Run_r12 [.keep [4, 9, 10, 12, 13, 40, 41, 42] [4, 9, 13, 34, 39]]) (.seq (.seq (.reg sims_Run_r13 [.keep [4, 9, 10, 12, 13, 40, 41, 42, 55] [4, 9, 13, 34, 39]]) (.cond (.tmp 55) (.exit 1) .skip)) (.seq (.reg sims_Run_r14 [.keep [4, 9, 10, 12, 13, 40, 41, 42] [4, 9, 13, 34, 39]]) (.seq (.seq (.reg sims_Run_r15 [.keep [4, 9, 10, 12, 13, 40, 41, 42, 59, 60, 61] [4, 9, 13, 34, 39]]) (.block 2 sims_Run_l1)) (.reg sims_Run_r20 [.keep [4, 9, 10, 40, 41, 42] [4, 9, 34, 39]]))))))) (.reg sims_Run_r21 [.keep [4, 9, 10, 40, 41, 42] [4, 9, 34, 39]])))) [.keep [4, 9, 10, 40, 41, 42] [4, 9, 34, 39]]) Q s := Eq.trans rfl rfl
@[simp ↓] theorem sims_Run_ic_run : run P Γ sims_Run_ic Q s = run P Γ (.seq (.reg sims_Run_r0 [.keep [2, 3, 4] [4]]) (.seq (.reg sims_Run_r1 [.keep [2, 3, 4, 7, 8] [4]]) (.seq (.seq (.reg sims_Run_r2 [.keep [2, 3, 4, 7, 8, 22] [4]]) (.cond (.tmp 22) (.reg sims_Run_r3 [.keep [2, 3, 4, 7, 8] [4]]) .skip)) (.seq (.seq (.reg sims_Run_r4 [.keep [2, 3, 4, 7, 8, 27] [4]]) (.cond (.tmp 27) (.seq (.reg sims_Run_r5 [.keep [4, 5, 6] [4, 34]]) .ret) .skip)) (.seq (.reg sims_Run_r6 [.keep [3, 4, 7, 9] [4, 9, 34]]) (.seq (.reg sims_Run_r7 [.keep [4, 7, 9] [4, 9, 34]]) (.seq (.reg sims_Run_r8 [.keep [4, 7, 9, 10] [4, 9, 34, 39]]) (.seq (.seq (.reg sims_Run_r9 [.keep [4, 9, 10, 40, 41, 42] [4, 9, 34, 39]]) (.block 0 sims_Run_l3)) (.seq (.reg sims_Run_r22 [.keep [4, 5, 6] [4, 34]]) .ret))))))))) Q s := Eq.trans rfl rfl
theorem sims_Run_l1_run (h : ∀ K : St → Prop, K = run P Γ sims_Run_l1 Q → run P Γ sims_Run_g0 (thenX K Q) s) : run P Γ sims_Run_l1 Q s := run_loop h
theorem sims_Run_l3_run (h : ∀ K : St → Prop, K = run P Γ sims_Run_l3 Q → run P Γ sims_Run_g2 (thenX K Q) s) : run P Γ sims_Run_l3 Q s := run_loop h
attribute [simp] sims_Run_r0 sims_Run_r1 sims_Run_r2 sims_Run_r3 sims_Run_r4 sims_Run_r5 sims_Run_r6 sims_Run_r7 sims_Run_r8 sims_Run_r9 sims_Run_r10 sims_Run_r11 sims_Run_r12 sims_Run_r13 sims_Run_r14 sims_Run_r15 sims_Run_r16 sims_Run_r17 sims_Run_r18 sims_Run_r19 sims_Run_r20 sims_Run_r21 sims_Run_r22
def sims_Run_rv : List RV := [.cell 4 2 true, .tmp 5, .tmp 6]

/- (probecard/sims.run).value (function 90) -/
def sims_run_value_r0 : List RO := [
    ⟨some 2, .box true (.tmp 0), none, none⟩,
    ⟨some 4, .mv (.const (.int .u8 0)), none, none⟩]
def sims_run_value_r1 : List RO := [
    ⟨some 5, .mv (.tmp 1), none, none⟩,
    ⟨some 6, .bin .lss (.tmp 5) (.const (.int .i64 0)), none, none⟩,
    ⟨some 7, .mv (.tmp 6), none, none⟩,
    ⟨some 8, .mv (.tmp 1), some (7, false), none⟩,
    ⟨some 9, .fadr 4 (.tmp 2), some (7, false), none⟩,
    ⟨some 10, .load 1 false (.tmp 9), some (7, false), none⟩,
    ⟨some 11, .len 0 (.tmp 10), some (7, false), none⟩,
    ⟨some 12, .bin .geq (.tmp 8) (.tmp 11), some (7, false), none⟩,
    ⟨some 13, .pick (.tmp 7) (.const (.bool true)) (.tmp 12), none, none⟩]
def sims_run_value_r2 : List RO := [
    ⟨some 4, .mv (.const (.int .u8 2)), none, none⟩]
def sims_run_value_r3 : List RO := [
    ⟨some 14, .fadr 4 (.tmp 2), none, none⟩,
    ⟨some 15, .load 1 false (.tmp 14), none, none⟩,
    ⟨some 16, .mv (.tmp 1), none, none⟩,
    ⟨some 17, .iadr 1 (.tmp 15) (.tmp 16), none, none⟩,
    ⟨some 18, .load 1 false (.tmp 17), none, none⟩,
    ⟨some 19, .call 92 [(.tmp 18)], none, none⟩,
    ⟨some 4, .mv (.tmp 19), none, none⟩]
def sims_run_value_ic : IC := (.seq (.reg sims_run_value_r0 [.keep [1, 2] []]) (.seq (.seq (.reg sims_run_value_r1 [.keep [1, 2, 13] []]) (.cond (.tmp 13) (.seq (.reg sims_run_value_r2 [.keep [4] []]) .ret) .skip)) (.seq (.reg sims_run_value_r3 [.keep [4] []]) .ret)))
@[simp ↓] theorem sims_run_value_ic_run : run P Γ sims_run_value_ic Q s = run P Γ (.seq (.reg sims_run_value_r0 [.keep [1, 2] []]) (.seq (.seq (.reg sims_run_value_r1 [.keep [1, 2, 13] []]) (.cond (.tmp 13) (.seq (.reg sims_run_value_r2 [.keep [4] []]) .ret) .skip)) (.seq (.reg sims_run_value_r3 [.keep [4] []]) .ret))) Q s := Eq.trans rfl rfl
attribute [simp] sims_run_value_r0 sims_run_value_r1 sims_run_value_r2 sims_run_value_r3
def sims_run_value_rv : List RV := [.tmp 4]

/- (probecard/sims.run).observe (function 56) -/
def sims_run_observe_r0 : List RO := [
    ⟨some 1, .box true (.tmp 0), none, none⟩,
    ⟨some 2, .alloc false [(.slice none 0 0), (.slice none 0 0)], none, none⟩]
def sims_run_observe_r1 : List RO := [
    ⟨some 3, .alloc false [(.slice none 0 0), (.slice none 0 0)], none, none⟩]
def sims_run_observe_r2 : List RO := [
    ⟨some 10, .fadr 0 (.tmp 1), none, none⟩,
    ⟨some 11, .fadr 3 (.tmp 10), none, none⟩,
    ⟨some 12, .load 1 false (.tmp 11), none, none⟩,
    ⟨some 13, .len 0 (.tmp 12), none, none⟩,
    ⟨some 14, .mv (.const (.int .i64 0)), none, none⟩]
def sims_run_observe_r3 : List RO := [
    ⟨some 15, .bin .lss (.tmp 14) (.tmp 13), none, none⟩]
def sims_run_observe_r4 : List RO := [
    ⟨some 16, .iadr 1 (.tmp 12) (.tmp 14), none, none⟩,
    ⟨some 17, .load 1 false (.tmp 16), none, none⟩,
    ⟨some 5, .mv (.tmp 17), none, none⟩]
def sims_run_observe_r5 : List RO := [
    ⟨some 18, .fadr 0 (.tmp 3), none, none⟩,
    ⟨some 19, .ldR 3 1 false (.tmp 18), none, none⟩,
    ⟨some 20, .ldT 5 true (.tmp 1), none, none⟩,
    ⟨some 21, .mv (.tmp 5), none, none⟩,
    ⟨some 22, .call 90 [(.tmp 20), (.tmp 21)], none, none⟩,
    ⟨some 23, .bsl true 73 1 [(.tmp 22)], none, none⟩,
    ⟨some 24, .app false 73 1 (.tmp 19) (.tmp 23), none, none⟩,
    ⟨some 25, .fadr 0 (.tmp 3), none, none⟩,
    ⟨none, .stR 3 1 (.tmp 25) (.tmp 24), none, none⟩]
def sims_run_observe_r6 : List RO := [
    ⟨some 26, .bin .add (.tmp 14) (.const (.int .i64 1)), none, none⟩,
    ⟨some 14, .mv (.tmp 26), none, none⟩]
def sims_run_observe_g0 : IC := .gh (.seq (.reg sims_run_observe_r3 [.keep [1, 2, 3, 12, 13, 14, 15] [2, 3, 24, 55]]) (.seq (.cond (.tmp 15) .skip (.exit 0)) (.seq (.block 1 (.seq (.reg sims_run_observe_r4 [.keep [1, 2, 3, 5, 12, 13, 14] [2, 3, 24, 55]]) (.reg sims_run_observe_r5 [.keep [1, 2, 3, 12, 13, 14] [2, 3, 24, 55]]))) (.reg sims_run_observe_r6 [.keep [1, 2, 3, 12, 13, 14] [2, 3, 24, 55]])))) [.keep [1, 2, 3, 12, 13, 14] [2, 3, 24, 55]]
def sims_run_observe_l1 : IC := .loop sims_run_observe_g0
def sims_run_observe_r7 : List RO := [
    ⟨some 27, .fadr 0 (.tmp 1), none, none⟩,
    ⟨some 28, .load 4 true (.tmp 27), none, none⟩,
    ⟨some 29, .call 17 [(.tmp 28)], none, none⟩,
    ⟨some 30, .len 0 (.tmp 29), none, none⟩,
    ⟨some 31, .mv (.const (.int .i64 0)), none, none⟩]
def sims_run_observe_r8 : List RO := [
    ⟨some 32, .bin .lss (.tmp 31) (.tmp 30), none, none⟩]
def sims_run_observe_r9 : List RO := [
    ⟨some 33, .iadr 1 (.tmp 29) (.tmp 31), none, none⟩,
    ⟨some 34, .load 1 false (.tmp 33), none, none⟩,
    ⟨some 7, .mv (.tmp 34), none, none⟩]
def sims_run_observe_r10 : List RO := [
    ⟨some 8, .mv (.const (.int .u8 2)), none, none⟩]
def sims_run_observe_r11 : List RO := [
    ⟨some 35, .fadr 0 (.tmp 1), none, none⟩,
    ⟨some 36, .fadr 0 (.tmp 35), none, none⟩,
    ⟨some 37, .load 1 false (.tmp 36), none, none⟩,
    ⟨some 38, .mv (.tmp 7), none, none⟩,
    ⟨some 39, .iadr 4 (.tmp 37) (.tmp 38), none, none⟩,
    ⟨some 40, .fadr 1 (.tmp 39), none, none⟩,
    ⟨some 41, .load 1 false (.tmp 40), none, none⟩,
    ⟨some 9, .mv (.tmp 41), none, none⟩]
def sims_run_observe_r12 : List RO := [
    ⟨some 42, .mv (.tmp 9), none, none⟩,
    ⟨some 43, .len 0 (.tmp 42), none, none⟩,
    ⟨some 44, .bin .eql (.tmp 43) (.const (.int .i64 1)), none, none⟩]
def sims_run_observe_r13 : List RO := [
    ⟨some 45, .load 5 true (.tmp 1), none, none⟩,
    ⟨some 46, .mv (.tmp 9), none, none⟩,
    ⟨some 47, .iadr 1 (.tmp 46) (.const (.int .i64 0)), none, none⟩,
    ⟨some 48, .load 1 false (.tmp 47), none, none⟩,
    ⟨some 49, .call 90 [(.tmp 45), (.tmp 48)], none, none⟩,
    ⟨some 50, .call 31 [(.tmp 49)], none, none⟩,
    ⟨some 8, .mv (.tmp 50), none, none⟩]
def sims_run_observe_r14 : List RO := [
    ⟨some 51, .fadr 1 (.tmp 3), none, none⟩,
    ⟨some 52, .load 1 false (.tmp 51), none, none⟩,
    ⟨some 53, .mv (.tmp 8), none, none⟩,
    ⟨some 54, .bsl true 73 1 [(.tmp 53)], none, none⟩,
    ⟨some 55, .app false 73 1 (.tmp 52) (.tmp 54), none, none⟩,
    ⟨some 56, .fadr 1 (.tmp 3), none, none⟩,
    ⟨none, .store 1 (.tmp 56) (.tmp 55), none, none⟩]
def sims_run_observe_r15 : List RO := [
    ⟨some 57, .bin .add (.tmp 31) (.const (.int .i64 1)), none, none⟩,
    ⟨some 31, .mv (.tmp 57), none, none⟩]
def sims_run_observe_g2 : IC := .gh (.seq (.reg sims_run_observe_r8 [.keep [1, 2, 3, 29, 30, 31, 32] [2, 3, 24, 55]]) (.seq (.cond (.tmp 32) .skip (.exit 2)) (.seq (.block 3 (.seq (.reg sims_run_observe_r9 [.keep [1, 2, 3, 7, 29, 30, 31] [2, 3, 24, 55]]) (.seq (.reg sims_run_observe_r10 [.keep [1, 2, 3, 7, 8, 29, 30, 31] [2, 3, 24, 55]]) (.seq (.seq (.reg sims_run_observe_r11 [.keep [1, 2, 3, 8, 9, 29, 30, 31] [2, 3, 24, 55]]) (.seq (.reg sims_run_observe_r12 [.keep [1, 2, 3, 8, 9, 29, 30, 31, 44] [2, 3, 24, 55]]) (.cond (.tmp 44) (.reg sims_run_observe_r13 [.keep [1, 2, 3, 8, 29, 30, 31] [2, 3, 24, 55]]) .skip))) (.reg sims_run_observe_r14 [.keep [1, 2, 3, 29, 30, 31] [2, 3, 24, 55]]))))) (.reg sims_run_observe_r15 [.keep [1, 2, 3, 29, 30, 31] [2, 3, 24, 55]])))) [.keep [1, 2, 3, 29, 30, 31] [2, 3, 24, 55]]
def sims_run_observe_l3 : IC := .loop sims_run_observe_g2
def sims_run_observe_r16 : List RO := [
    ⟨some 58, .fadr 0 (.tmp 3), none, none⟩,
    ⟨some 59, .ldR 3 1 false (.tmp 58), none, none⟩,
    ⟨some 60, .rcall 74 [(.tmp 59)] [24], none, none⟩,
    ⟨some 61, .fadr 1 (.tmp 3), none, none⟩,
    ⟨some 62, .ldR 3 1 false (.tmp 61), none, none⟩,
    ⟨some 63, .rcall 74 [(.tmp 62)] [55], none, none⟩,
    ⟨some 64, .build [(1, (.tmp 60)), (1, (.tmp 63))], none, none⟩,
    ⟨none, .stR 2 2 (.tmp 2) (.tmp 64), none, none⟩]
def sims_run_observe_ic : IC := (.seq (.reg sims_run_observe_r0 [.keep [1, 2] [2, 24, 55]]) (.seq (.reg sims_run_observe_r1 [.nlb 3 0 24 73 1, .nlb 3 1 55 73 1, .keep [1, 2, 3] [2, 3, 24, 55]]) (.seq (.seq (.reg sims_run_observe_r2 [.keep [1, 2, 3, 12, 13, 14] [2, 3, 24, 55]]) (.block 0 sims_run_observe_l1)) (.seq (.seq (.reg sims_run_observe_r7 [.keep [1, 2, 3, 29, 30, 31] [2, 3, 24, 55]]) (.block 2 sims_run_observe_l3)) (.seq (.reg sims_run_observe_r16 [.keep [2] [2, 24, 55]]) .ret)))))
@[simp ↓] theorem sims_run_observe_g0_run : run P Γ sims_run_observe_g0 Q s = run P Γ (.gh (.seq (.reg sims_run_observe_r3 [.keep [1, 2, 3, 12, 13, 14, 15] [2, 3, 24, 55]]) (.seq (.cond (.tmp 15) .skip (.exit 0)) (.seq (.block 1 (.seq (.reg sims_run_observe_r4 [.keep [1, 2, 3, 5, 12, 13, 14] [2, 3, 24, 55]]) (.reg sims_run_observe_r5 [.keep [1, 2, 3, 12, 13, 14] [2, 3, 24, 55]]))) (.reg sims_run_observe_r6 [.keep [1, 2, 3, 12, 13, 14] [2, 3, 24, 55]])))) [.keep [1, 2, 3, 12, 13, 14] [2, 3, 24, 55]]) Q s := Eq.trans rfl rfl
@[simp ↓] theorem sims_run_observe_g2_run : run P Γ sims_run_observe_g2 Q s = run P Γ (.gh (.seq (.reg sims_run_observe_r8 [.keep [1, 2, 3, 29, 30, 31, 32] [2, 3, 24, 55]]) (.seq (.cond (.tmp 32) .skip (.exit 2)) (.seq (.block 3 (.seq (.reg sims_run_observe_r9 [.keep [1, 2, 3, 7, 29, 30, 31] [2, 3, 24, 55]]) (.seq (.reg sims_run_observe_r10 [.keep [1, 2, 3, 7, 8, 29, 30, 31] [2, 3, 24, 55]]) (.seq (.seq (.reg sims_run_observe_r11 [.keep [1, 2, 3, 8, 9, 29, 30, 31] [2, 3, 24, 55]]) (.seq (.reg sims_run_observe_r12 [.keep [1, 2, 3, 8, 9, 29, 30, 31, 44] [2, 3, 24, 55]]) (.cond (.tmp 44) (.reg sims_run_observe_r13 [.keep [1, 2, 3, 8, 29, 30, 31] [2, 3, 24, 55]]) .skip))) (.reg sims_run_observe_r14 [.keep [1, 2, 3, 29, 30, 31] [2, 3, 24, 55]]))))) (.reg sims_run_observe_r15 [.keep [1, 2, 3, 29, 30, 31] [2, 3, 24, 55]])))) [.keep [1, 2, 3, 29, 30, 31] [2, 3, 24, 55]]) Q s := Eq.trans rfl rfl
@[simp ↓] theorem sims_run_observe_ic_run : run P Γ sims_run_observe_ic Q s = run P Γ (.seq (.reg sims_run_observe_r0 [.keep [1, 2] [2, 24, 55]]) (.seq (.reg sims_run_observe_r1 [.nlb 3 0 24 73 1, .nlb 3 1 55 73 1, .keep [1, 2, 3] [2, 3, 24, 55]]) (.seq (.seq (.reg sims_run_observe_r2 [.keep [1, 2, 3, 12, 13, 14] [2, 3, 24, 55]]) (.block 0 sims_run_observe_l1)) (.seq (.seq (.reg sims_run_observe_r7 [.keep [1, 2, 3, 29, 30, 31] [2, 3, 24, 55]]) (.block 2 sims_run_observe_l3)) (.seq (.reg sims_run_observe_r16 [.keep [2] [2, 24, 55]]) .ret))))) Q s := Eq.trans rfl rfl
theorem sims_run_observe_l1_run (h : ∀ K : St → Prop, K = run P Γ sims_run_observe_l1 Q → run P Γ sims_run_observe_g0 (thenX K Q) s) : run P Γ sims_run_observe_l1 Q s := run_loop h
theorem sims_run_observe_l3_run (h : ∀ K : St → Prop, K = run P Γ sims_run_observe_l3 Q → run P Γ sims_run_observe_g2 (thenX K Q) s) : run P Γ sims_run_observe_l3 Q s := run_loop h
attribute [simp] sims_run_observe_r0 sims_run_observe_r1 sims_run_observe_r2 sims_run_observe_r3 sims_run_observe_r4 sims_run_observe_r5 sims_run_observe_r6 sims_run_observe_r7 sims_run_observe_r8 sims_run_observe_r9 sims_run_observe_r10 sims_run_observe_r11 sims_run_observe_r12 sims_run_observe_r13 sims_run_observe_r14 sims_run_observe_r15 sims_run_observe_r16
def sims_run_observe_rv : List RV := [.cell 2 2 true]

/- probecard/sims.Observe (function 60) -/
def sims_Observe_r0 : List RO := [
    ⟨some 2, .box true (.tmp 0), none, none⟩,
    ⟨some 4, .alloc false [(.slice none 0 0), (.slice none 0 0)], none, none⟩]
def sims_Observe_r1 : List RO := [
    ⟨some 5, .load 4 true (.tmp 2), none, none⟩,
    ⟨some 6, .mv (.tmp 1), none, none⟩,
    ⟨some 7, .build [(4, (.tmp 5)), (1, (.tmp 6))], none, none⟩,
    ⟨some 8, .call 56 [(.tmp 7)], none, none⟩,
    ⟨none, .store 2 (.tmp 4) (.tmp 8), none, none⟩]
def sims_Observe_ic : IC := (.seq (.reg sims_Observe_r0 [.keep [1, 2, 4] [4]]) (.seq (.reg sims_Observe_r1 [.keep [4] [4]]) .ret))
@[simp ↓] theorem sims_Observe_ic_run : run P Γ sims_Observe_ic Q s = run P Γ (.seq (.reg sims_Observe_r0 [.keep [1, 2, 4] [4]]) (.seq (.reg sims_Observe_r1 [.keep [4] [4]]) .ret)) Q s := Eq.trans rfl rfl
attribute [simp] sims_Observe_r0 sims_Observe_r1
def sims_Observe_rv : List RV := [.cell 4 2 true]

/- probecard/sims.Conflicts (function 61) -/
def sims_Conflicts_r0 : List RO := [
    ⟨some 2, .box true (.tmp 0), none, none⟩,
    ⟨some 4, .mv (.const (.slice none 0 0)), none, none⟩]
def sims_Conflicts_r1 : List RO := [
    ⟨some 12, .load 4 true (.tmp 2), none, none⟩,
    ⟨some 13, .mv (.tmp 1), none, none⟩,
    ⟨some 14, .build [(4, (.tmp 12)), (1, (.tmp 13))], none, none⟩,
    ⟨some 5, .alloc false [(.slice none 0 0), (.slice none 0 0), (.slice none 0 0), (.slice none 0 0), (.slice none 0 0)], none, none⟩,
    ⟨none, .store 5 (.tmp 5) (.tmp 14), none, none⟩]
def sims_Conflicts_r2 : List RO := [
    ⟨some 6, .mv (.const (.slice none 0 0)), none, none⟩]
def sims_Conflicts_r3 : List RO := [
    ⟨some 15, .load 4 true (.tmp 2), none, none⟩,
    ⟨some 16, .bsl true 41 1 [(.const (.int .u8 13))], none, none⟩,
    ⟨some 17, .call 15 [(.tmp 15), (.tmp 16)], none, none⟩,
    ⟨some 18, .len 0 (.tmp 17), none, none⟩,
    ⟨some 19, .mv (.const (.int .i64 0)), none, none⟩]
def sims_Conflicts_r4 : List RO := [
    ⟨some 20, .bin .lss (.tmp 19) (.tmp 18), none, none⟩]
def sims_Conflicts_r5 : List RO := [
    ⟨some 21, .iadr 1 (.tmp 17) (.tmp 19), none, none⟩,
    ⟨some 22, .load 1 false (.tmp 21), none, none⟩,
    ⟨some 8, .mv (.tmp 22), none, none⟩]
def sims_Conflicts_r6 : List RO := [
    ⟨some 9, .mv (.const (.slice none 0 0)), none, none⟩]
def sims_Conflicts_r7 : List RO := [
    ⟨some 23, .fadr 0 (.tmp 5), none, none⟩,
    ⟨some 24, .fadr 0 (.tmp 23), none, none⟩,
    ⟨some 25, .load 1 false (.tmp 24), none, none⟩,
    ⟨some 26, .mv (.tmp 8), none, none⟩,
    ⟨some 27, .iadr 4 (.tmp 25) (.tmp 26), none, none⟩,
    ⟨some 28, .fadr 1 (.tmp 27), none, none⟩,
    ⟨some 29, .load 1 false (.tmp 28), none, none⟩,
    ⟨some 30, .len 0 (.tmp 29), none, none⟩,
    ⟨some 31, .mv (.const (.int .i64 0)), none, none⟩]
def sims_Conflicts_r8 : List RO := [
    ⟨some 32, .bin .lss (.tmp 31) (.tmp 30), none, none⟩]
def sims_Conflicts_r9 : List RO := [
    ⟨some 33, .iadr 1 (.tmp 29) (.tmp 31), none, none⟩,
    ⟨some 34, .load 1 false (.tmp 33), none, none⟩,
    ⟨some 11, .mv (.tmp 34), none, none⟩]
def sims_Conflicts_r10 : List RO := [
    ⟨some 35, .mv (.tmp 9), none, none⟩,
    ⟨some 36, .load 5 true (.tmp 5), none, none⟩,
    ⟨some 37, .mv (.tmp 11), none, none⟩,
    ⟨some 38, .call 90 [(.tmp 36), (.tmp 37)], none, none⟩,
    ⟨some 39, .bsl true 73 1 [(.tmp 38)], none, none⟩,
    ⟨some 40, .app false 73 1 (.tmp 35) (.tmp 39), none, none⟩,
    ⟨some 9, .mv (.tmp 40), none, none⟩]
def sims_Conflicts_r11 : List RO := [
    ⟨some 41, .bin .add (.tmp 31) (.const (.int .i64 1)), none, none⟩,
    ⟨some 31, .mv (.tmp 41), none, none⟩]
def sims_Conflicts_g0 : IC := .gh (.seq (.reg sims_Conflicts_r8 [.keep [5, 6, 8, 9, 17, 18, 19, 29, 30, 31, 32] [5, 40, 47]]) (.seq (.cond (.tmp 32) .skip (.exit 2)) (.seq (.block 3 (.seq (.reg sims_Conflicts_r9 [.keep [5, 6, 8, 9, 11, 17, 18, 19, 29, 30, 31] [5, 40, 47]]) (.reg sims_Conflicts_r10 [.keep [5, 6, 8, 9, 17, 18, 19, 29, 30, 31] [5, 40, 47]]))) (.reg sims_Conflicts_r11 [.keep [5, 6, 8, 9, 17, 18, 19, 29, 30, 31] [5, 40, 47]])))) [.keep [5, 6, 8, 9, 17, 18, 19, 29, 30, 31] [5, 40, 47]]
def sims_Conflicts_l1 : IC := .loop sims_Conflicts_g0
def sims_Conflicts_r12 : List RO := [
    ⟨some 42, .mv (.tmp 9), none, none⟩,
    ⟨some 43, .call 93 [(.tmp 42)], none, none⟩]
def sims_Conflicts_r13 : List RO := [
    ⟨some 44, .mv (.tmp 6), none, none⟩,
    ⟨some 45, .mv (.tmp 8), none, none⟩,
    ⟨some 46, .bsl true 3 1 [(.tmp 45)], none, none⟩,
    ⟨some 47, .app false 3 1 (.tmp 44) (.tmp 46), none, none⟩,
    ⟨some 6, .mv (.tmp 47), none, none⟩]
def sims_Conflicts_r14 : List RO := [
    ⟨some 48, .bin .add (.tmp 19) (.const (.int .i64 1)), none, none⟩,
    ⟨some 19, .mv (.tmp 48), none, none⟩]
def sims_Conflicts_g2 : IC := .gh (.seq (.reg sims_Conflicts_r4 [.keep [5, 6, 17, 18, 19, 20] [5, 47]]) (.seq (.cond (.tmp 20) .skip (.exit 0)) (.seq (.block 1 (.seq (.reg sims_Conflicts_r5 [.keep [5, 6, 8, 17, 18, 19] [5, 47]]) (.seq (.reg sims_Conflicts_r6 [.nl 9 40 73 1, .keep [5, 6, 8, 9, 17, 18, 19] [5, 40, 47]]) (.seq (.seq (.reg sims_Conflicts_r7 [.keep [5, 6, 8, 9, 17, 18, 19, 29, 30, 31] [5, 40, 47]]) (.block 2 sims_Conflicts_l1)) (.seq (.reg sims_Conflicts_r12 [.keep [5, 6, 8, 17, 18, 19, 43] [5, 47]]) (.cond (.tmp 43) (.reg sims_Conflicts_r13 [.keep [5, 6, 17, 18, 19] [5, 47]]) .skip)))))) (.reg sims_Conflicts_r14 [.keep [5, 6, 17, 18, 19] [5, 47]])))) [.keep [5, 6, 17, 18, 19] [5, 47]]
def sims_Conflicts_l3 : IC := .loop sims_Conflicts_g2
def sims_Conflicts_r15 : List RO := [
    ⟨some 49, .mv (.tmp 6), none, none⟩,
    ⟨some 50, .rcall 42 [(.tmp 49)] [47], none, none⟩,
    ⟨some 4, .mv (.tmp 50), none, none⟩]
def sims_Conflicts_ic : IC := (.seq (.reg sims_Conflicts_r0 [.keep [1, 2] []]) (.seq (.reg sims_Conflicts_r1 [.keep [2, 5] [5]]) (.seq (.reg sims_Conflicts_r2 [.nl 6 47 3 1, .keep [2, 5, 6] [5, 47]]) (.seq (.seq (.reg sims_Conflicts_r3 [.keep [5, 6, 17, 18, 19] [5, 47]]) (.block 0 sims_Conflicts_l3)) (.seq (.reg sims_Conflicts_r15 [.keep [4] [47]]) .ret)))))
@[simp ↓] theorem sims_Conflicts_g0_run : run P Γ sims_Conflicts_g0 Q s = run P Γ (.gh (.seq (.reg sims_Conflicts_r8 [.keep [5, 6, 8, 9, 17, 18, 19, 29, 30, 31, 32] [5, 40, 47]]) (.seq (.cond (.tmp 32) .skip (.exit 2)) (.seq (.block 3 (.seq (.reg sims_Conflicts_r9 [.keep [5, 6, 8, 9, 11, 17, 18, 19, 29, 30, 31] [5, 40, 47]]) (.reg sims_Conflicts_r10 [.keep [5, 6, 8, 9, 17, 18, 19, 29, 30, 31] [5, 40, 47]]))) (.reg sims_Conflicts_r11 [.keep [5, 6, 8, 9, 17, 18, 19, 29, 30, 31] [5, 40, 47]])))) [.keep [5, 6, 8, 9, 17, 18, 19, 29, 30, 31] [5, 40, 47]]) Q s := Eq.trans rfl rfl
@[simp ↓] theorem sims_Conflicts_g2_run : run P Γ sims_Conflicts_g2 Q s = run P Γ (.gh (.seq (.reg sims_Conflicts_r4 [.keep [5, 6, 17, 18, 19, 20] [5, 47]]) (.seq (.cond (.tmp 20) .skip (.exit 0)) (.seq (.block 1 (.seq (.reg sims_Conflicts_r5 [.keep [5, 6, 8, 17, 18, 19] [5, 47]]) (.seq (.reg sims_Conflicts_r6 [.nl 9 40 73 1, .keep [5, 6, 8, 9, 17, 18, 19] [5, 40, 47]]) (.seq (.seq (.reg sims_Conflicts_r7 [.keep [5, 6, 8, 9, 17, 18, 19, 29, 30, 31] [5, 40, 47]]) (.block 2 sims_Conflicts_l1)) (.seq (.reg sims_Conflicts_r12 [.keep [5, 6, 8, 17, 18, 19, 43] [5, 47]]) (.cond (.tmp 43) (.reg sims_Conflicts_r13 [.keep [5, 6, 17, 18, 19] [5, 47]]) .skip)))))) (.reg sims_Conflicts_r14 [.keep [5, 6, 17, 18, 19] [5, 47]])))) [.keep [5, 6, 17, 18, 19] [5, 47]]) Q s := Eq.trans rfl rfl
@[simp ↓] theorem sims_Conflicts_ic_run : run P Γ sims_Conflicts_ic Q s = run P Γ (.seq (.reg sims_Conflicts_r0 [.keep [1, 2] []]) (.seq (.reg sims_Conflicts_r1 [.keep [2, 5] [5]]) (.seq (.reg sims_Conflicts_r2 [.nl 6 47 3 1, .keep [2, 5, 6] [5, 47]]) (.seq (.seq (.reg sims_Conflicts_r3 [.keep [5, 6, 17, 18, 19] [5, 47]]) (.block 0 sims_Conflicts_l3)) (.seq (.reg sims_Conflicts_r15 [.keep [4] [47]]) .ret))))) Q s := Eq.trans rfl rfl
theorem sims_Conflicts_l1_run (h : ∀ K : St → Prop, K = run P Γ sims_Conflicts_l1 Q → run P Γ sims_Conflicts_g0 (thenX K Q) s) : run P Γ sims_Conflicts_l1 Q s := run_loop h
theorem sims_Conflicts_l3_run (h : ∀ K : St → Prop, K = run P Γ sims_Conflicts_l3 Q → run P Γ sims_Conflicts_g2 (thenX K Q) s) : run P Γ sims_Conflicts_l3 Q s := run_loop h
attribute [simp] sims_Conflicts_r0 sims_Conflicts_r1 sims_Conflicts_r2 sims_Conflicts_r3 sims_Conflicts_r4 sims_Conflicts_r5 sims_Conflicts_r6 sims_Conflicts_r7 sims_Conflicts_r8 sims_Conflicts_r9 sims_Conflicts_r10 sims_Conflicts_r11 sims_Conflicts_r12 sims_Conflicts_r13 sims_Conflicts_r14 sims_Conflicts_r15
def sims_Conflicts_rv : List RV := [.tmp 4]

/- probecard/netlists.Inputs (function 33) -/
def netlists_Inputs_r0 : List RO := [
    ⟨some 1, .box true (.tmp 0), none, none⟩,
    ⟨some 2, .mv (.const (.slice none 0 0)), none, none⟩]
def netlists_Inputs_r1 : List RO := [
    ⟨some 3, .load 4 true (.tmp 1), none, none⟩,
    ⟨some 4, .bsl true 41 1 [(.const (.int .u8 0))], none, none⟩,
    ⟨some 5, .call 15 [(.tmp 3), (.tmp 4)], none, none⟩,
    ⟨some 2, .mv (.tmp 5), none, none⟩]
def netlists_Inputs_ic : IC := (.seq (.reg netlists_Inputs_r0 [.keep [1] []]) (.seq (.reg netlists_Inputs_r1 [.keep [2] []]) .ret))
@[simp ↓] theorem netlists_Inputs_ic_run : run P Γ netlists_Inputs_ic Q s = run P Γ (.seq (.reg netlists_Inputs_r0 [.keep [1] []]) (.seq (.reg netlists_Inputs_r1 [.keep [2] []]) .ret)) Q s := Eq.trans rfl rfl
attribute [simp] netlists_Inputs_r0 netlists_Inputs_r1
def netlists_Inputs_rv : List RV := [.tmp 2]

/- slices.Clip[[]probecard/api.Value,probecard/api.Value] (function 74) -/
def slices_Clip_api_Value_r0 : List RO := [
    ⟨some 2, .mv (.const (.slice none 0 0)), none, none⟩]
def slices_Clip_api_Value_r1 : List RO := [
    ⟨some 3, .mv (.tmp 0), none, none⟩,
    ⟨some 4, .mv (.tmp 0), none, none⟩,
    ⟨some 5, .len 0 (.tmp 4), none, none⟩,
    ⟨some 6, .mv (.tmp 0), none, none⟩,
    ⟨some 7, .len 0 (.tmp 6), none, none⟩,
    ⟨some 8, .slice 1 (.tmp 3) none (some (.tmp 5)) (some (.tmp 7)), none, none⟩,
    ⟨some 2, .mv (.tmp 8), none, none⟩]
def slices_Clip_api_Value_ic : IC := (.seq (.reg slices_Clip_api_Value_r0 [.keep [0] [1000000]]) (.seq (.reg slices_Clip_api_Value_r1 [.keep [2] [1000000]]) .ret))
@[simp ↓] theorem slices_Clip_api_Value_ic_run : run P Γ slices_Clip_api_Value_ic Q s = run P Γ (.seq (.reg slices_Clip_api_Value_r0 [.keep [0] [1000000]]) (.seq (.reg slices_Clip_api_Value_r1 [.keep [2] [1000000]]) .ret)) Q s := Eq.trans rfl rfl
attribute [simp] slices_Clip_api_Value_r0 slices_Clip_api_Value_r1
def slices_Clip_api_Value_rv : List RV := [.tmp 2]
end
end Go.Lg

/- The abstract code is that of the program (by the kernel). Conditions: none. -/
namespace Go.Lg
open Go Go.Proofs
theorem sims_fits_chk : chkF Tryd.prog 53 sims_fits_ic 43 2 sims_fits_rv = true := by kernel_rfl
theorem sims_above_chk : chkF Tryd.prog 81 sims_above_ic 5 1 sims_above_rv = true := by kernel_rfl
theorem sims_run_load_chk : chkF Tryd.prog 54 sims_run_load_ic 46 2 sims_run_load_rv = true := by kernel_rfl
theorem sims_Run_chk : chkF Tryd.prog 25 sims_Run_ic 87 2 sims_Run_rv = true := by kernel_rfl
theorem sims_run_value_chk : chkF Tryd.prog 90 sims_run_value_ic 20 2 sims_run_value_rv = true := by kernel_rfl
theorem sims_run_observe_chk : chkF Tryd.prog 56 sims_run_observe_ic 65 1 sims_run_observe_rv = true := by kernel_rfl
theorem sims_Observe_chk : chkF Tryd.prog 60 sims_Observe_ic 9 2 sims_Observe_rv = true := by kernel_rfl
theorem sims_Conflicts_chk : chkF Tryd.prog 61 sims_Conflicts_ic 51 2 sims_Conflicts_rv = true := by kernel_rfl
theorem netlists_Inputs_chk : chkF Tryd.prog 33 netlists_Inputs_ic 6 1 netlists_Inputs_rv = true := by kernel_rfl
theorem slices_Clip_api_Value_chk : chkF Tryd.prog 74 slices_Clip_api_Value_ic 9 1 slices_Clip_api_Value_rv = true := by kernel_rfl
end Go.Lg

/- Package sims: fits, load, value. Conditions: none. -/
set_option linter.unusedSimpArgs false
set_option linter.unusedVariables false
set_option maxRecDepth 100000
namespace Go.Lg
open Go Go.Proofs
variable {Γ : Tables}

theorem inputs_spec (c : Cir) (hc : COk c) : PureCalls Tryd.prog Γ 33 [.agg (tC c)] (.sl (ints (inputs c)) (some (inputs c).length) none) := by
  refine run_pureQ netlists_Inputs_chk rfl ?_
  simp [netlists_Inputs_ic, tC, tNodes, tNames, tMems, tSl]
  refine callK_fresh (of_one c hc 0) rfl ?_
  simp [netlists_Inputs_rv, inputs]
theorem clip_val (es : List (List T)) (cap : Option Nat) (nl : Option Bool) (hw : wid 1 es) : PureCalls Tryd.prog Γ 74 [.sl es cap nl] (.sl es (some es.length) nl) := by
  refine run_pureQ slices_Clip_api_Value_chk rfl ?_
  simp [slices_Clip_api_Value_ic, slices_Clip_api_Value_rv, ret, hw]
def aboveV (v : Int) : Bool := decide (3 < v)
theorem above_spec (v : Int) : FreshCalls Tryd.prog Γ 81 [tK v] (tB (aboveV v)) := by
  refine run_freshQ sims_above_chk rfl ?_
  simp [sims_above_ic, sims_above_rv, flatT, aboveV]

structure Pat where
  inn : Sl Int
  st : Sl Int
def tP (p : Pat) : List T := [tV p.inn, tV p.st]

theorem inputs_len (c : Cir) : (inputs c).length ≤ c.nodes.l.length := ofL_len _ _ _
theorem states_len' (c : Cir) : (states c).length ≤ c.nodes.l.length := ofL_len _ _ _

def fitsErr (c : Cir) (p : Pat) : Int :=
  if 0 < c.mems.l.length ∨ 0 < (mems c).length then 7 else
  if p.inn.l.length ≠ (inputs c).length ∨ p.st.l.length ≠ (states c).length then 8 else
  if p.inn.l.any aboveV = true ∨ p.st.l.any aboveV = true then 1 else 0

theorem fits_spec (c : Cir) (hc : COk c) (p : Pat) (hp : p.inn.l.length ≤ 1000000000 ∧ p.st.l.length ≤ 1000000000) : FreshCalls Tryd.prog Γ 53 [.agg (tC c), .agg (tP p)] (tI (fitsErr c p)) := by
  refine run_freshQ sims_fits_chk rfl ?_
  have e1 := of_one (Γ := Γ) c hc 15
  have e2 := inputs_spec (Γ := Γ) c hc
  have e3 := states_spec (Γ := Γ) c hc
  have e4 := containsfunc_val (Γ := Γ) p.inn.l p.inn.cap p.inn.nl 81 [] aboveV (fun x _ => above_spec x) hp.1
  have e5 := containsfunc_val (Γ := Γ) p.st.l p.st.cap p.st.nl 81 [] aboveV (fun x _ => above_spec x) hp.2
  have hm : ofL [15] c.nodes.l 0 = mems c := rfl
  rw [hm] at e1
  generalize hR : fitsErr c p = R
  unfold fitsErr at hR
  by_cases h1 : 0 < c.mems.l.length
  · rw [if_pos (.inl h1)] at hR
    subst hR
    have h1' : ¬ c.mems.l = [] := fun e => by rw [e] at h1; simp at h1
    simp [sims_fits_ic, tC, tNodes, tNames, tMems, tSl, tP, tV, encN_len, h1, h1', sims_fits_rv, flatT]
  have h1' : c.mems.l = [] := List.eq_nil_of_length_eq_zero (by omega)
  simp [sims_fits_ic, tC, tNodes, tNames, tMems, tSl, tP, tV, encN_len, h1, h1']
  refine callK_fresh e1 (by simp [reify, optAll, enc1, tC, tNodes, tNames, tMems, tSl, h1']) ?_
  by_cases h2 : 0 < (mems c).length
  · rw [if_pos (.inr h2)] at hR
    subst hR
    have h2' : ¬ mems c = [] := fun e => by rw [e] at h2; simp at h2
    simp [enc1_len, h2, h2', sims_fits_rv, flatT]
  rw [if_neg (by omega)] at hR
  have h2' : mems c = [] := List.eq_nil_of_length_eq_zero (by omega)
  simp [enc1_len, h2']
  have tt : ∀ {x : T}, x = T.agg (tC c) → optAll [some x] = some [T.agg (tC c)] := fun h => by rw [h]; rfl
  have tc : T.agg (tC c) = T.agg [T.sl (encN tNd c.nodes.l) c.nodes.cap c.nodes.nl, T.sl (enc1 tS c.names.l) c.names.cap c.names.nl, T.sl (encN tMm []) c.mems.cap c.mems.nl, T.sl (ints c.outs.l) c.outs.cap c.outs.nl] := by rw [← h1']; rfl
  refine callK_pure e2 (by rw [tc]; rfl) ?_
  simp [enc1_len]
  by_cases h3 : p.inn.l.length = (inputs c).length
  case neg =>
    have h3' : ¬ (p.inn.l.length : Int) = (inputs c).length := by omega
    rw [if_pos (.inl h3)] at hR
    subst hR
    simp [h3, h3', sims_fits_rv, flatT, Later]
  simp [h3]
  refine callK_pure e3 (by rw [tc]; rfl) ?_
  simp [enc1_len]
  by_cases h4 : p.st.l.length = (states c).length
  case neg =>
    have h4' : ¬ (p.st.l.length : Int) = (states c).length := by omega
    rw [if_pos (.inr h4)] at hR
    subst hR
    simp [h4, h4', sims_fits_rv, flatT, Later]
  rw [if_neg (by omega)] at hR
  simp [h4, Later]
  refine callK_fresh e4 rfl ?_
  by_cases h5 : p.inn.l.any aboveV = true
  · rw [if_pos (.inl h5)] at hR
    subst hR
    simp only [h5]
    simp [sims_fits_rv, flatT]
  simp only [Bool.not_eq_true] at h5
  simp only [h5]
  simp
  refine callK_fresh e5 rfl ?_
  by_cases h6 : p.st.l.any aboveV = true
  · rw [if_pos (.inr h6)] at hR
    subst hR
    simp only [h6]
    simp [sims_fits_rv, flatT]
  rw [if_neg (by simp only [h5]; simp only [Bool.not_eq_true] at h6; simp [h6])] at hR
  subst hR
  simp only [Bool.not_eq_true] at h6
  simp only [h6]
  simp [sims_fits_rv, flatT]

/-- The circuit of a run: its nets lie in a region. -/
def runA (c : Cir) (id n : Nat) (cap : Option Nat) : List AV := [.t (tNodes c.nodes), .t (tNames c.names), .t (tMems c.mems), .t (tSl c.outs), .ls id 0 n cap]

theorem loadS_drop {ns vs l : List Int} {i : Nat} (h : i < ns.length) (hv : i < vs.length) : loadS (ns.drop i) (vs.drop i) l = loadS (ns.drop (i + 1)) (vs.drop (i + 1)) (l.set (ns.getD i 0).toNat (vs.getD i 0)) := by
  rw [List.drop_eq_getElem_cons h, List.drop_eq_getElem_cons hv]
  simp only [loadS]
  rw [getD_eq h, getD_eq hv]

theorem load_in {Q : AX → St → Prop} (c : Cir) (p : Pat) (ns : List Int) (cap : Option Nat) (n : Nat) (hn : n ≤ 1000000000) (hns : ns.length ≤ n) (hin : ∀ x ∈ ns, 0 ≤ x ∧ x < n) (hp : p.inn.l.length = ns.length) (R : List Int)
    (h0 : Q (.exit 0) ⟨[(2, .lp 2 0 0), (3, .t (.ip (tP p) 0)), (10, .t (.sl (ints ns) (some ns.length) none)), (11, .t (tI ns.length)), (12, .t (tI ns.length)), (13, .t (tB false))], [(2, .bx (runA c 1000000 n cap)), (1000000, .sl 73 1 (vals R))]⟩) :
    ∀ (k i : Nat) (l : List Int), k + i = ns.length → l.length = n → loadS (ns.drop i) (p.inn.l.drop i) l = R →
    run Tryd.prog Γ sims_run_load_l1 Q ⟨[(2, .lp 2 0 0), (3, .t (.ip (tP p) 0)), (10, .t (.sl (ints ns) (some ns.length) none)), (11, .t (tI ns.length)), (12, .t (tI i))], [(2, .bx (runA c 1000000 n cap)), (1000000, .sl 73 1 (vals l))]⟩
  | 0, i, l, h, hl, hR => by
    refine sims_run_load_l1_run fun K hK => ?_
    have h2 : i = ns.length := by omega
    subst h2
    rw [List.drop_length] at hR
    simp only [loadS] at hR
    subst hR
    simp
    exact h0
  | k + 1, i, l, h, hl, hR => by
    refine sims_run_load_l1_run fun K hK => ?_
    have h2 : i < ns.length := by omega
    have h3 : i < p.inn.l.length := by omega
    rw [loadS_drop h2 h3] at hR
    have ih := load_in c p ns cap n hn hns hin hp R h0 k (i + 1) _ (by omega) (by simp [hl]) hR
    have e1 := ge1 (f := tI) h2
    have e2 := ge1 (f := tK) h3
    have hx := hin (ns.getD i 0) (by rw [getD_eq h2]; exact List.getElem_mem h2)
    have hs : ∀ (j : Nat) (v : Int), (vals l).set j [tK v] = vals (l.set j v) := fun j v => enc1_set
    generalize ns.getD i 0 = x at *
    generalize p.inn.l.getD i 0 = v at *
    have hx2 : x.toNat < n := by omega
    simp (disch := omega) [h2, h3, enc1_len, enc1_wid, e1, e2, wrap_i64, hx, hx2, hl, runA, tP, tV, hs, hp]
    rw [hK]
    simpa [runA, tP, tV] using ih

theorem load_st {Q : AX → St → Prop} (c : Cir) (p : Pat) (ns : List Int) (cap : Option Nat) (n : Nat) (hn : n ≤ 1000000000) (hns : ns.length ≤ n) (hin : ∀ x ∈ ns, 0 ≤ x ∧ x < n) (hp : p.st.l.length = ns.length) (R : List Int)
    (h0 : Q (.exit 2) ⟨[(2, .lp 2 0 0), (3, .t (.ip (tP p) 0)), (29, .t (.sl (ints ns) (some ns.length) none)), (30, .t (tI ns.length)), (31, .t (tI ns.length)), (32, .t (tB false))], [(2, .bx (runA c 1000000 n cap)), (1000000, .sl 73 1 (vals R))]⟩) :
    ∀ (k i : Nat) (l : List Int), k + i = ns.length → l.length = n → loadS (ns.drop i) (p.st.l.drop i) l = R →
    run Tryd.prog Γ sims_run_load_l3 Q ⟨[(2, .lp 2 0 0), (3, .t (.ip (tP p) 0)), (29, .t (.sl (ints ns) (some ns.length) none)), (30, .t (tI ns.length)), (31, .t (tI i))], [(2, .bx (runA c 1000000 n cap)), (1000000, .sl 73 1 (vals l))]⟩
  | 0, i, l, h, hl, hR => by
    refine sims_run_load_l3_run fun K hK => ?_
    have h2 : i = ns.length := by omega
    subst h2
    rw [List.drop_length] at hR
    simp only [loadS] at hR
    subst hR
    simp
    exact h0
  | k + 1, i, l, h, hl, hR => by
    refine sims_run_load_l3_run fun K hK => ?_
    have h2 : i < ns.length := by omega
    have h3 : i < p.st.l.length := by omega
    rw [loadS_drop h2 h3] at hR
    have ih := load_st c p ns cap n hn hns hin hp R h0 k (i + 1) _ (by omega) (by simp [hl]) hR
    have e1 := ge1 (f := tI) h2
    have e2 := ge1 (f := tK) h3
    have hx := hin (ns.getD i 0) (by rw [getD_eq h2]; exact List.getElem_mem h2)
    have hs : ∀ (j : Nat) (v : Int), (vals l).set j [tK v] = vals (l.set j v) := fun j v => enc1_set
    generalize ns.getD i 0 = x at *
    generalize p.st.l.getD i 0 = v at *
    have hx2 : x.toNat < n := by omega
    simp (disch := omega) [h2, h3, enc1_len, enc1_wid, e1, e2, wrap_i64, hx, hx2, hl, runA, tP, tV, hs, hp]
    rw [hK]
    simpa [runA, tP, tV] using ih

theorem load_h (c : Cir) (hc : COk c) (p : Pat) (cap : Option Nat) (l : List Int) (hl : l.length = c.nodes.l.length) (h1 : p.inn.l.length = (inputs c).length) (h2 : p.st.l.length = (states c).length) :
    HCalls Tryd.prog Γ 54 [(1000000, .sl 73 1 (vals l))] [.ag (runA c 1000000 c.nodes.l.length cap), .t (.agg (tP p))] (.t (.tup [])) [(1000000, .sl 73 1 (vals (loadS (states c) p.st.l (loadS (inputs c) p.inn.l l))))] := by
  refine run_handQ sims_run_load_chk rfl ?_
  have hn := hc.nodes
  have g1 := fun Q h0 => load_in (Γ := Γ) (Q := Q) c p (inputs c) cap c.nodes.l.length hn (inputs_len c) (fun x hx => ⟨(ofL_in x hx).1, (ofL_in x hx).2.1⟩) h1 _ h0 (inputs c).length 0 l (by omega) hl rfl
  have g2 := fun Q h0 => load_st (Γ := Γ) (Q := Q) c p (states c) cap c.nodes.l.length hn (states_len' c) (fun x hx => ⟨(ofL_in x hx).1, (ofL_in x hx).2.1⟩) h2 _ h0 (states c).length 0 (loadS (inputs c) p.inn.l l) (by omega) (by rw [loadS_len]; exact hl) rfl
  simp only [List.drop_zero] at g1 g2
  simp [sims_run_load_ic, runA, tP, tV, tNodes, tNames, tMems, tSl]
  refine callK_pure (inputs_spec c hc) rfl ?_
  simp [enc1_len]
  refine g1 _ ?_
  simp [runA, tNodes, tNames, tMems, tSl]
  refine callK_pure (states_spec c hc) rfl ?_
  simp [enc1_len]
  refine g2 _ ?_
  simp [sims_run_load_rv]
end Go.Lg
