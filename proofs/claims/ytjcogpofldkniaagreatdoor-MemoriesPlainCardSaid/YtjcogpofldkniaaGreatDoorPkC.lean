/- THE LOGIC, part 25: regions whose order is drawn are sound. Conditions: none. -/
import Derived.Test.YtjcogpofldkniaaGreatDoorPkB
import Derived.Orders
import Derived.Scope
import Derived.ChangeArms
import Derived.DataReads
import Derived.OpenShut
import Derived.Carry
import Derived.Handed
import Derived.Lib.LaidTab
set_option linter.unusedSimpArgs false
set_option linter.unusedVariables false
namespace Go.Lg
open Go
def q03 (o : Oper) : List Nat := o.after.toList.filterMap fun e => if Region.binds .any e then some e.on else none
def qAP (ms : List Nat) (es : List Nat) : Nat := es.foldl (fun m k => m ||| 2 ^ k ||| ms.getD k 0) 0
def q0a : List Oper → List Nat → List Nat
 | [], ms => ms
 | o :: os, ms => q0a os (ms ++ [qAP ms (q03 o)])
structure Pt where
 i : Nat
 ro : RO
 m : Nat
def pts : Nat → List RO → List Nat → List Pt
 | i, ro :: ros, m :: ms => ⟨i, ro, m⟩ :: pts (i + 1) ros ms
 | _, _, _ => []
def q5f : List Pt → Bool
 | [] => true
 | p :: l => (l.all fun q => q.m.testBit p.i || qAM p.ro q.ro) && q5f l
def q5g : Nat → List Oper → Bool
 | _, [] => true
 | i, o :: os => (q03 o).all (· < i) && q5g (i + 1) os
def qAQ (ros : List RO) (ops : List Oper) : Bool := q5g 0 ops && q5f (pts 0 ros (q0a ops []))
def qAR (ops : List Oper) (listed : Nat → Bool) : Prop := ∀ (k : Nat) (o : Oper), listed k = true → ops[k]? = some o → ∀ e ∈ q03 o, listed e = true
def q6A (ops : List Oper) (es : List Nat) (m : Nat) : Prop := ∀ listed, qAR ops listed → (∀ e ∈ es, listed e = true) → ∀ i, m.testBit i = true → listed i = true
theorem qCH {ops : List Oper} {ms : List Nat} (hms : ∀ (k m : Nat) (o : Oper), ms[k]? = some m → ops[k]? = some o → q6A ops (q03 o) m) (hlen : ms.length ≤ ops.length) {es : List Nat} : q6A ops es (qAP ms es) := by
 have key : ∀ (es : List Nat) (m0 : Nat) listed, qAR ops listed → (∀ e ∈ es, listed e = true) → (∀ i, m0.testBit i = true → listed i = true) → ∀ i, (es.foldl (fun m k => m ||| 2 ^ k ||| ms.getD k 0) m0).testBit i = true → listed i = true := by
  intro es
  induction es with
  | nil => intro m0 listed _ _ h0 i hi; exact h0 i hi
  | cons k es ih =>
   intro m0 listed hc he h0 i hi
   rw [List.foldl_cons] at hi
   refine ih _ listed hc (fun e h => he e (List.mem_cons_of_mem _ h)) (fun i hi => ?_) i hi
   simp only [Nat.testBit_or, Bool.or_eq_true] at hi
   rcases hi with (hi | hi) | hi
   ·exact h0 i hi
   ·rw [Nat.testBit_two_pow] at hi
    simp at hi; subst hi; exact he _ List.mem_cons_self
   ·cases hk : ms[k]? with
    | none => simp [List.getD, hk] at hi
    | some m =>
     simp only [List.getD, hk, Option.getD_some] at hi
     have hlt : k < ops.length := Nat.lt_of_lt_of_le (List.getElem?_eq_some_iff.1 hk).1 hlen
     exact hms k m _ hk (List.getElem?_eq_getElem hlt) listed hc (fun e he' => hc k _ (he k List.mem_cons_self) (List.getElem?_eq_getElem hlt) e he') i hi
 intro listed hc he i hi
 exact key es 0 listed hc he (by simp) i hi
theorem q95 {ops : List Oper} : ∀ {os : List Oper} {ms : List Nat} {done : List Oper}, ops = done ++ os → ms.length = done.length → (∀ (k m : Nat) (o : Oper), ms[k]? = some m → ops[k]? = some o → q6A ops (q03 o) m) →
  (q0a os ms).length = ops.length ∧ ∀ (k m : Nat) (o : Oper), (q0a os ms)[k]? = some m → ops[k]? = some o → q6A ops (q03 o) m
 | [], ms, done, h1, h2, h3 => ⟨by simp [q0a, h1, h2], h3⟩
 | o :: os, ms, done, h1, h2, h3 => by
  refine q95 (os := os) (ms := ms ++ [qAP ms (q03 o)]) (done := done ++ [o]) (by simp [h1]) (by simp [h2]) ?_
  intro k m o' hm ho
  rw [List.getElem?_append] at hm
  split at hm
  ·exact h3 k m o' hm ho
  ·rename_i hk
   have hk' : k = ms.length := by
    have := (List.getElem?_eq_some_iff.1 hm).1
    simp at this; omega
   subst hk'
   simp only [Nat.sub_self, List.getElem?_cons_zero, Option.some.injEq] at hm
   subst hm
   have : o' = o := by
    rw [h1, h2] at ho
    simpa using ho.symm
   subst this
   exact qCH h3 (by simp [h1, h2])
theorem q6B : ∀ {os : List Oper} {i : Nat}, q5g i os = true → ∀ (k : Nat) (o : Oper), os[k]? = some o → ∀ e ∈ q03 o, e < i + k
 | [], i, _, k, o, hk => by simp at hk
 | o :: os, i, h, k, o', hk => by
  simp only [q5g, Bool.and_eq_true, List.all_eq_true, decide_eq_true_eq] at h
  cases k with
  | zero => simp only [List.getElem?_cons_zero, Option.some.injEq] at hk; subst hk; exact h.1
  | succ k =>
   intro e he
   have := q6B h.2 k o' (by simpa using hk) e he
   omega
theorem q6C : ∀ {l : List Pt}, q5f l = true → l.Pairwise fun p q => q.m.testBit p.i = true ∨ qAM p.ro q.ro = true
 | [], _ => .nil
 | p :: l, h => by
  simp only [q5f, Bool.and_eq_true, List.all_eq_true, Bool.or_eq_true] at h
  exact .cons h.1 (q6C h.2)
theorem qBR : ∀ {ros : List RO} {ms : List Nat} {i : Nat}, ros.length = ms.length → (pts i ros ms).map (·.ro) = ros ∧ (pts i ros ms).map (·.i) = List.range' i ros.length ∧
  ∀ p ∈ pts i ros ms, i ≤ p.i ∧ ms[p.i - i]? = some p.m ∧ ros[p.i - i]? = some p.ro
 | [], [], i, _ => by simp [pts]
 | [], _ :: _, i, h => by simp at h
 | _ :: _, [], i, h => by simp at h
 | ro :: ros, m :: ms, i, h => by
  obtain ⟨h1, h2, h3⟩ := qBR (ros := ros) (ms := ms) (i := i + 1) (by simpa using h)
  refine ⟨by simp [pts, h1], by simp [pts, h2, List.range'_succ], ?_⟩
  intro p hp
  simp only [pts, List.mem_cons] at hp
  rcases hp with rfl | hp
  ·simp
  ·obtain ⟨h4, h5, h6⟩ := h3 p hp
   have : p.i - i = (p.i - (i + 1)) + 1 := by omega
   exact ⟨by omega, by rw [this]; simpa using h5, by rw [this]; simpa using h6⟩
theorem q7V {P : Program} {N : Nat} {ops : List Oper} : ∀ {ros : List RO} {os : List Oper}, q0W P N ops ros os = true → ros.length = os.length ∧ ∀ (k : Nat) (ro : RO) (o : Oper), ros[k]? = some ro → os[k]? = some o → q8C P N ops ro o = true
 | [], [], _ => by simp
 | [], _ :: _, h => by simp [q0W] at h
 | _ :: _, [], h => by simp [q0W] at h
 | ro :: ros, o :: os, h => by
  simp only [q0W, Bool.and_eq_true] at h
  obtain ⟨h1, h2⟩ := q7V h.2
  refine ⟨by simp [h1], fun k ro' o' h3 h4 => ?_⟩
  cases k with
  | zero => simp at h3 h4; subst h3; subst h4; exact h.1
  | succ k => exact h2 k ro' o' (by simpa using h3) (by simpa using h4)
theorem F7.symm {a b : St} (h : F7 a b) : F7 b a := ⟨fun k => (h.1 k).symm, fun k => (h.2 k).symm⟩
section
variable {P : Program} {Γ : Tables} {w0 : World} {B : Nat} {κ : D3} {X0 X : Nat → Prop} {st st1 : St} {N : Nat} {a : Act} {w : World} {Q : Exit → Act → World → Prop}
theorem Inv.alike (h : Inv Γ w0 B κ X0 N st a w) (hl : F7 st st1) : Inv Γ w0 B κ X0 N st1 a w := by
 obtain ⟨X, μ, h1, h2⟩ := h
 exact ⟨X, μ, h1.alike hl, h2⟩
theorem qEl {ops : List Oper} (hN : N ≤ 1000000) (hlt : ∀ (k : Nat) (o : Oper), ops[k]? = some o → ∀ e ∈ q03 o, e < k) :
  ∀ (fuel : Nat) (listed : Array Bool) (ps : List Pt) (st s : St) (a : Act) (w : World), Inv Γ w0 B κ X0 N st a w → (ps.Pairwise fun p q => p.i < q.i) → (∀ i, listed.getD i true = false ↔ ∃ p ∈ ps, p.i = i) → listed.size = ops.length →
   qAR ops (fun i => listed.getD i false) → (ps.Pairwise fun p q => q.m.testBit p.i = true ∨ qAM p.ro q.ro = true) → (∀ p ∈ ps, ∃ o, ops[p.i]? = some o ∧ q8C P N ops p.ro o = true ∧ q6A ops (q03 o) p.m) → ps.length ≤ fuel →
   O0 P Γ (ps.map (·.ro)) st s → (∀ a' w', Inv Γ w0 B κ X0 N s a' w' → Q .normal a' w') → wpAny P .any ops.toArray Q fuel listed a w := by
 intro fuel
 induction fuel with
 | zero =>
  intro listed ps st s a w hI hsort hun hsz hcl hpr hps hlen hst hQ
  have : ps = [] := List.eq_nil_of_length_eq_zero (by omega)
  subst this
  refine ⟨List.eq_nil_iff_forall_not_mem.2 fun j hj => ?_, ?_⟩
  ·have := (hun j).1 (mem_ready.1 hj).1
   simp at this
  ·simp only [List.map_nil, O0] at hst; subst hst
   exact hQ a w hI
 | succ fuel ih =>
  intro listed ps st s a w hI hsort hun hsz hcl hpr hps hlen hst hQ
  have hedge : ∀ {o : Oper} {e : Edge}, e ∈ o.after → Region.binds .any e = true → e.on ∈ q03 o := by
   intro o e he hb
   exact List.mem_filterMap.2 ⟨e, by simpa using he, by rw [if_pos hb]⟩
  have hedge' : ∀ {o : Oper} {k : Nat}, k ∈ q03 o → ∃ e ∈ o.after, Region.binds .any e = true ∧ e.on = k := by
   intro o k hk
   obtain ⟨e, he, hb⟩ := List.mem_filterMap.1 hk
   split at hb
   ·exact ⟨e, by simpa using he, by assumption, by simpa using hb⟩
   ·cases hb
  refine ⟨fun hnil => ?_, fun i hi => ?_⟩
  ·cases ps with
   | nil => simp only [List.map_nil, O0] at hst; subst hst; exact hQ a w hI
   | cons p ps =>
    exfalso
    obtain ⟨o, ho, _, _⟩ := hps p List.mem_cons_self
    have : p.i ∈ Region.ready .any ops.toArray listed := by
     refine mem_ready.2 ⟨(hun p.i).2 ⟨p, List.mem_cons_self, rfl⟩, o, by simpa using ho, fun e he hb => ?_⟩
     have h1 := hlt p.i o ho e.on (hedge he hb)
     have h2 : p.i < ops.length := (List.getElem?_eq_some_iff.1 ho).1
     have h3 : listed.getD e.on true = true := by
      cases hq : listed.getD e.on true with
      | true => rfl
      | false =>
       obtain ⟨q, hq, hqi⟩ := (hun e.on).1 hq
       rcases List.mem_cons.1 hq with rfl | hq
       ·omega
       ·have := (List.pairwise_cons.1 hsort).1 q hq
        omega
     have h4 : e.on < listed.size := by omega
     simpa [Array.getD, h4] using h3
    rw [hnil] at this; cases this
  ·obtain ⟨hi0, o, ho, hall⟩ := mem_ready.1 hi
   have ho' : ops[i]? = some o := by simpa using ho
   obtain ⟨p, hp, rfl⟩ := (hun i).1 hi0
   obtain ⟨l1, l2, rfl⟩ := List.append_of_mem hp
   obtain ⟨o2, ho2, hch, hmk⟩ := hps p hp
   rw [ho'] at ho2; cases ho2
   have hdone : ∀ i, p.m.testBit i = true → listed.getD i false = true := hmk _ hcl (fun e he => by
    obtain ⟨e', he', hb, rfl⟩ := hedge' he
    exact hall e' he' hb)
   have hsort' := List.pairwise_append.1 hsort
   have hpr' := List.pairwise_append.1 hpr
   have hcm : ∀ x ∈ l1.map (·.ro), qAM x p.ro = true := by
    intro x hx
    obtain ⟨q, hq, rfl⟩ := List.mem_map.1 hx
    rcases hpr'.2.2 q hq p List.mem_cons_self with hb | hb
    ·have h1 := hdone _ hb
     have h2 : listed.getD q.i true = false := (hun q.i).2 ⟨q, List.mem_append_left _ hq, rfl⟩
     have : q.i < listed.size := by
      rcases Nat.lt_or_ge q.i listed.size with h' | h'
      ·exact h'
      ·rw [Array.getD_eq_getD_getElem?, Array.getElem?_eq_none h'] at h2; simp at h2
     rw [Array.getD_eq_getD_getElem?, Array.getElem?_eq_getElem this] at h1 h2
     simp only [Option.getD_some] at h1 h2
     rw [h1] at h2; cases h2
    ·exact hb
   rw [List.map_append, List.map_cons] at hst
   obtain ⟨s', ⟨t, hs1, hs2⟩, hl⟩ := qDE hcm hst
   unfold wpOp
   simp only [ho]
   refine q67 hI hN hch hs1 fun a' w' hI' => ?_
   have hne : ∀ q ∈ l1 ++ l2, q.i ≠ p.i := by
    intro q hq
    rcases List.mem_append.1 hq with hq | hq
    ·have := hsort'.2.2 q hq p List.mem_cons_self; omega
    ·have := (List.pairwise_cons.1 hsort'.2.1).1 q hq; omega
   have hsub : (l1 ++ l2).Sublist (l1 ++ p :: l2) := List.Sublist.append_left (List.sublist_cons_self _ _) _
   have hpi : p.i < listed.size := by rw [hsz]; exact (List.getElem?_eq_some_iff.1 ho').1
   refine ih (listed.setIfInBounds p.i true) (l1 ++ l2) t s' a' w' hI' (hsort.sublist hsub) ?_ (by simpa using hsz) ?_ (hpr.sublist hsub) (fun q hq => hps q (hsub.subset hq)) (by simp at hlen ⊢; omega) (by rw [List.map_append]; exact hs2) (fun a' w' h => hQ a' w' (h.alike hl.symm))
   ·intro j
    by_cases hj : p.i = j
    ·subst hj
     refine ⟨fun h => ?_, fun ⟨q, hq, he⟩ => absurd he (hne q hq)⟩
     simp [Array.getD, hpi] at h
    ·rw [getD_set_ne true hj, hun j]
     constructor
     ·rintro ⟨q, hq, rfl⟩
      refine ⟨q, ?_, rfl⟩
      rcases List.mem_append.1 hq with hq | hq
      ·exact List.mem_append_left _ hq
      ·rcases List.mem_cons.1 hq with rfl | hq
       ·exact absurd rfl hj
       ·exact List.mem_append_right _ hq
     ·rintro ⟨q, hq, rfl⟩
      exact ⟨q, hsub.subset hq, rfl⟩
   ·intro k ok hk hok e he
    by_cases hkp : p.i = k
    ·subst hkp
     rw [ho'] at hok; cases hok
     obtain ⟨e', he', hb, rfl⟩ := hedge' he
     exact getD_set_true (hall e' he' hb)
    ·have hk2 : listed.getD k false = true := by
      have : (listed.setIfInBounds p.i true).getD k false = true := hk
      rwa [getD_set_ne false hkp] at this
     exact getD_set_true (hcl k ok hk2 hok e he)
theorem qAS {ops : List Oper} {ros : List RO} {s : St} (hN : N ≤ 1000000) (hI : Inv Γ w0 B κ X0 N st a w) (hc : q0W P N ops ros ops = true) (hd : qAQ ros ops = true) (hs : O0 P Γ ros st s)
  (hQ : ∀ a' w', Inv Γ w0 B κ X0 N s a' w' → Q .normal a' w') : wpAny P .any ops.toArray Q ops.toArray.size (Array.replicate ops.toArray.size false) a w := by
 simp only [qAQ, Bool.and_eq_true] at hd
 obtain ⟨hlen, hch⟩ := q7V hc
 obtain ⟨hml, hmk⟩ := q95 (ops := ops) (os := ops) (ms := []) (done := []) rfl rfl (by simp)
 obtain ⟨h1, h2, h3⟩ := qBR (ros := ros) (ms := q0a ops []) (i := 0) (by rw [hml, hlen])
 have hmem : ∀ p ∈ pts 0 ros (q0a ops []), p.i < ops.length := by
  intro p hp
  have := (List.getElem?_eq_some_iff.1 (h3 p hp).2.2).1
  omega
 refine qEl hN (fun k o ho e he => by have := q6B hd.1 k o ho e he; omega) _ _ (pts 0 ros (q0a ops [])) st s a w hI ?_ ?_ (by simp) ?_ (q6C hd.2) ?_ ?_ (by rw [h1]; exact hs) hQ
 ·have : ((pts 0 ros (q0a ops [])).map (·.i)).Pairwise (· < ·) := by rw [h2]; exact List.pairwise_lt_range'
  exact List.pairwise_map.1 this
 ·intro i
  constructor
  ·intro h
   have hi : i < ops.length := by
    rcases Nat.lt_or_ge i ops.length with h' | h'
    ·exact h'
    ·simp [Array.getD, Nat.not_lt.2 h'] at h
   have : i ∈ (pts 0 ros (q0a ops [])).map (·.i) := by rw [h2, List.mem_range'_1]; omega
   obtain ⟨p, hp, he⟩ := List.mem_map.1 this
   exact ⟨p, hp, he⟩
  ·rintro ⟨p, hp, rfl⟩
   simp [Array.getD, hmem p hp]
 ·intro k o hk
  exfalso
  simp only [Array.getD] at hk
  split at hk <;> simp at hk
 ·intro p hp
  obtain ⟨_, h5, h6⟩ := h3 p hp
  have hlt := hmem p hp
  exact ⟨ops[p.i], List.getElem?_eq_getElem hlt, hch _ _ _ h6 (List.getElem?_eq_getElem hlt), hmk _ _ _ h5 (List.getElem?_eq_getElem hlt)⟩
 ·have : (pts 0 ros (q0a ops [])).length = ros.length := by
   have := congrArg List.length h1
   simpa using this
  simp [this, hlen]
end
end Go.Lg
namespace Go.Lg
open Go
def B0.closed : B0 → Bool
 | .bx cs => cs.all fun | .t _ => true | _ => false
 | _ => true
def frz0 (id : Nat) (r : B0) : AV → AV
 | .ls i off len cap => if i = id then (match Ag [(id, r)] 4 (.ls id off len cap) with | some t => .t t | none => .dead) else .ls i off len cap
 | .lp i a k => if i = id then (match Ag [(id, r)] 4 (.lp id a k) with | some t => .t t | none => .dead) else .lp i a k
 | .lm i => if i = id then (match Ag [(id, r)] 4 (.lm id) with | some t => .t t | none => .dead) else .lm i
 | .lb i m => if i = id then (match Ag [(id, r)] 4 (.lb id m) with | some t => .t t | none => .dead) else .lb i m
 | .li i => if i = id then .dead else .li i
 | .fn f [] => .fn f []
 | .fn _ (_ :: _) => .dead
 | a => a
def frz1 (id : Nat) (r : B0) : AV → AV
 | .fn f cs => if cs.all C7 then .fn f (cs.map (frz0 id r)) else .dead
 | a => frz0 id r a
def Dl (id : Nat) (r : B0) : AV → AV
 | .ag cs => .ag (cs.map (frz1 id r))
 | .tu cs => .tu (cs.map (frz1 id r))
 | a => frz1 id r a
def Im (id : Nat) (r : B0) : B0 → B0
 | .bx cs => .bx (cs.map (Dl id r))
 | q => q
def St.freeze (id : Nat) (st : St) : St := match A2 st.hp id with
 | some r => if r.closed then ⟨st.env.map fun p => (p.1, Dl id r p.2), (del id st.hp).map fun p => (p.1, Im id r p.2)⟩ else st
 | none => st
section
variable {P : Program} {Γ : Tables} {w0 : World} {B : Nat} {κ : D3} {X : Nat → Prop} {μ : D3} {st : St} {tm : Array Value} {w : World} {id : Nat} {r : B0}
theorem Bq.lone (h : Bq w0 B κ X μ st tm w) (hl : A2 st.hp id = some r) (hc : r.closed = true) : Bq w0 B κ X μ ⟨[], [(id, r)]⟩ tm w := by
 have hsh : ∀ i, St.sh ⟨[], [(id, r)]⟩ i ≠ none → i = id ∧ st.sh i ≠ none := by
  intro i hi
  by_cases e : i = id
  ·subst e; exact ⟨rfl, by simp [F5 hl]⟩
  ·simp [St.sh, A2, Ne.symm e] at hi
 refine ⟨fun t a ht => by simp [A2] at ht, ?_, fun i j g n n' hi hj => h.inj i j g n n' (hsh i hi).2 (hsh j hj).2, fun i g n hi => h.loc i g n (hsh i hi).2, fun i hk hi => h.kap i hk (hsh i hi).2, h.kbig, h.xlt, h.os, h.tape, h.output, h.size, h.fr⟩
 intro i q hq
 simp only [A2] at hq
 split at hq
 ·rename_i e; subst e
  simp only [Option.some.injEq] at hq; subst hq
  have := h.reg id _ hl
  cases r with
  | sl ty s es => exact this
  | mp es => exact this
  | it s pos => exact this
  | bx cs =>
   obtain ⟨h1, g, arr, ty, hm, hg, hle, hr⟩ := this
   refine ⟨h1, g, arr, ty, hm, hg, hle, fun k a x ha hx => ?_⟩
   have := List.all_eq_true.1 hc a (List.mem_of_getElem? ha)
   have h2 := hr k a x ha hx
   cases a <;> simp at this
   exact .t _ _ h2.t_inv
 ·cases hq
variable {sh' : Nat → Option Sh}
theorem AR.frz0 (h : Bq w0 B κ X μ st tm w) (hl : A2 st.hp id = some r) (hc : r.closed = true) (hsh : ∀ i q, i ≠ id → st.sh i = some q → sh' i = some q) {a : AV} {x : Value} (ha : AR w X μ st.sh a x) (hna : C7 a = true) :
  AR w (fun b => X b ∨ ∃ n, μ id = some (b, n)) μ sh' (frz0 id r a) x := by
 have hX : ∀ b, X b → X b ∨ ∃ n, μ id = some (b, n) := fun b hb => .inl hb
 have hS : Same X w w := fun _ _ => rfl
 have hlone := h.lone hl hc
 have hshid : St.sh ⟨[], [(id, r)]⟩ id = st.sh id := by rw [F5 hl]; simp [St.sh, A2]
 have conv : ∀ {a : AV} {x : Value} {t : T}, AR w X μ (St.sh ⟨[], [(id, r)]⟩) a x → Ag [(id, r)] 4 a = some t → TR w (fun b => X b ∨ ∃ n, μ id = some (b, n)) t x := by
  intro a x t ha hr
  refine (q64 hlone 4 ha hr).mono (fun _ _ => rfl) (fun b hb => ?_)
  rcases hb with hb | ⟨i, n, hi, hm⟩
  ·exact .inl hb
  ·have : i = id := by
    by_cases e : i = id
    ·exact e
    ·simp [St.sh, A2, Ne.symm e] at hi
   subst this; exact .inr ⟨n, hm⟩
 cases ha with
 | t y v hy => exact .t _ _ (hy.mono hS hX)
 | lsnil i s n hs hm oa cap hq =>
  simp only [Lg.frz0]; split
  ·rename_i e; subst e
   split
   ·rename_i t ht; exact .t _ _ (conv (.lsnil i s n (hshid.trans hs) hm oa cap hq) ht)
   ·exact .dead _ rfl
  ·rename_i hne; exact .lsnil i s n (hsh _ _ hne hs) hm oa cap hq
 | ls i off len s n g m c cap hs hm hle hlc hcm hfit hfull hq ad had =>
  simp only [Lg.frz0]; split
  ·rename_i e; subst e
   split
   ·rename_i t ht; exact .t _ _ (conv (.ls i off len s n g m c cap (hshid.trans hs) hm hle hlc hcm hfit hfull hq ad had) ht)
   ·exact .dead _ rfl
  ·rename_i hne; exact .ls i off len s n g m c cap (hsh _ _ hne hs) hm hle hlc hcm hfit hfull hq ad had
 | lpsl i j k s n g m hs hm =>
  simp only [Lg.frz0]; split
  ·rename_i e; subst e
   split
   ·rename_i t ht; exact .t _ _ (conv (.lpsl i j k s n g m (hshid.trans hs) hm) ht)
   ·exact .dead _ rfl
  ·rename_i hne; exact .lpsl i j k s n g m (hsh _ _ hne hs) hm
 | lpbx i k g m hs hm =>
  simp only [Lg.frz0]; split
  ·rename_i e; subst e
   split
   ·rename_i t ht; exact .t _ _ (conv (.lpbx i k g m (hshid.trans hs) hm) ht)
   ·exact .dead _ rfl
  ·rename_i hne; exact .lpbx i k g m (hsh _ _ hne hs) hm
 | lm i g m hs hm =>
  simp only [Lg.frz0]; split
  ·rename_i e; subst e
   split
   ·rename_i t ht; exact .t _ _ (conv (.lm i g m (hshid.trans hs) hm) ht)
   ·exact .dead _ rfl
  ·rename_i hne; exact .lm i g m (hsh _ _ hne hs) hm
 | lb i g m hs hm hle =>
  simp only [Lg.frz0]; split
  ·rename_i e; subst e
   split
   ·rename_i t ht; exact .t _ _ (conv (.lb i g m (hshid.trans hs) hm hle) ht)
   ·exact .dead _ rfl
  ·rename_i hne; exact .lb i g m (hsh _ _ hne hs) hm hle
 | li i g m hs hm =>
  simp only [Lg.frz0]; split
  ·exact .dead _ rfl
  ·rename_i hne; exact .li i g m (hsh _ _ hne hs) hm
 | fn f cs xs hlen hrel =>
  cases cs with
  | nil => exact .fn f [] xs hlen (fun k a x h => by simp at h)
  | cons c cs => exact .dead _ rfl
 | dead v h => exact .dead _ h
 | un => exact .un
 | ag => simp [C7] at hna
 | tu => simp [C7] at hna
theorem AR.frz1 (h : Bq w0 B κ X μ st tm w) (hl : A2 st.hp id = some r) (hc : r.closed = true) (hsh : ∀ i q, i ≠ id → st.sh i = some q → sh' i = some q) {a : AV} {x : Value} (ha : AR w X μ st.sh a x) (hna : C7 a = true) :
  AR w (fun b => X b ∨ ∃ n, μ id = some (b, n)) μ sh' (frz1 id r a) x := by
 by_cases hf : ∃ f cs, a = .fn f cs
 ·obtain ⟨f, cs, rfl⟩ := hf
  simp only [Lg.frz1]
  split
  ·rename_i hall
   cases ha with
   | fn f cs xs hlen hrel =>
    refine .fn f _ xs (by simpa using hlen) fun k a x ha hx => ?_
    simp only [List.getElem?_map, Option.map_eq_some_iff] at ha
    obtain ⟨b, hb, rfl⟩ := ha
    exact (hrel k b x hb hx).frz0 h hl hc hsh (List.all_eq_true.1 hall b (List.mem_of_getElem? hb))
  ·cases ha; exact .dead _ rfl
 ·have e : Lg.frz1 id r a = Lg.frz0 id r a := by cases a <;> first | rfl | exact absurd ⟨_, _, rfl⟩ hf
  rw [e]; exact ha.frz0 h hl hc hsh hna
theorem q0b {a : AV} (h : a.one = true) : (frz0 id r a).one = true := by
 have key : ∀ a : AV, a.one = true → (∀ x, a ≠ .t x) → (match Ag [(id, r)] 4 a with | some t => AV.t t | none => .dead).one = true := by
  intro a h1 _
  split
  ·rename_i t ht; exact q7R h1 ht
  ·rfl
 cases a with
 | fn f cs => cases cs <;> rfl
 | ag cs => simp [AV.one] at h
 | tu cs => simp [AV.one] at h
 | un => simp [AV.one] at h
 | t x => exact h
 | dead => rfl
 | ls i off len cap => simp only [frz0]; split; exact key (.ls id off len cap) rfl (by simp); rfl
 | lp i j k => simp only [frz0]; split; exact key (.lp id j k) rfl (by simp); rfl
 | lm i => simp only [frz0]; split; exact key (.lm id) rfl (by simp); rfl
 | lb i m => simp only [frz0]; split; exact key (.lb id m) rfl (by simp); rfl
 | li i => simp only [frz0]; split <;> rfl
theorem q96 {a : AV} (h : a.one = true) : (frz1 id r a).one = true := by
 cases a with
 | fn f cs => simp only [frz1]; split <;> rfl
 | ag cs => simp [AV.one] at h
 | tu cs => simp [AV.one] at h
 | un => simp [AV.one] at h
 | t x => exact h
 | dead => rfl
 | ls i off len cap => exact q0b (a := .ls i off len cap) rfl
 | lp i j k => exact q0b (a := .lp i j k) rfl
 | lm i => exact q0b (a := .lm i) rfl
 | lb i m => exact q0b (a := .lb i m) rfl
 | li i => exact q0b (id := id) (r := r) (a := .li i) rfl
theorem qAT {a : AV} (h : a.one = true) : (Dl id r a).one = true := by
 have e : Dl id r a = frz1 id r a := by cases a <;> first | rfl | simp [AV.one] at h
 rw [e]; exact q96 h
theorem qAU {a : AV} (h : C7 a = true) : C7 (frz0 id r a) = true := by
 have key : ∀ b : AV, C7 (match Ag [(id, r)] 4 b with | some t => AV.t t | none => .dead) = true := by
  intro b; split <;> rfl
 cases a with
 | ag => simp [C7] at h
 | tu => simp [C7] at h
 | fn f cs => cases cs <;> rfl
 | t | dead | un => rfl
 | li i => simp only [frz0]; split <;> rfl
 | _ => simp only [frz0]; split <;> first | exact key _ | rfl
theorem qAV {a : AV} (h : C7 a = true) : C7 (frz1 id r a) = true := by
 by_cases hf : ∃ f cs, a = .fn f cs
 ·obtain ⟨f, cs, rfl⟩ := hf
  simp only [Lg.frz1]; split <;> rfl
 ·have e : Lg.frz1 id r a = Lg.frz0 id r a := by cases a <;> first | rfl | exact absurd ⟨_, _, rfl⟩ hf
  rw [e]; exact qAU h
theorem AR.frz (h : Bq w0 B κ X μ st tm w) (hl : A2 st.hp id = some r) (hc : r.closed = true) (hsh : ∀ i q, i ≠ id → st.sh i = some q → sh' i = some q) {a : AV} {x : Value} (ha : AR w X μ st.sh a x) :
  AR w (fun b => X b ∨ ∃ n, μ id = some (b, n)) μ sh' (Dl id r a) x := by
 by_cases hg : C7 a = true
 ·have e : Dl id r a = Lg.frz1 id r a := by cases a <;> first | rfl | simp [C7] at hg
  rw [e]; exact ha.frz1 h hl hc hsh hg
 ·cases a with
  | ag cs =>
   obtain ⟨xs, rfl, h1, hr⟩ := ha.ag_inv
   refine AR.mk_ag (List.all_eq_true.2 fun b hb => ?_) ⟨by simpa using hr.1, fun k b y hb hy => ?_⟩
   ·obtain ⟨c, hc, rfl⟩ := List.mem_map.1 hb
    exact q96 (List.all_eq_true.1 h1 c hc)
   ·simp only [List.getElem?_map, Option.map_eq_some_iff] at hb
    obtain ⟨c, hc', rfl⟩ := hb
    exact (hr.2 k c y hc' hy).frz1 h hl hc hsh (q1S (Um h1 hc'))
  | tu cs =>
   obtain ⟨xs, rfl, h1, hr⟩ := ha.tu_inv
   refine AR.mk_tu (fun k b hb => ?_) ⟨by simpa using hr.1, fun k b y hb hy => ?_⟩
   ·simp only [List.getElem?_map, Option.map_eq_some_iff] at hb
    obtain ⟨c, hc', rfl⟩ := hb
    exact qAV (h1 k c hc')
   ·simp only [List.getElem?_map, Option.map_eq_some_iff] at hb
    obtain ⟨c, hc', rfl⟩ := hb
    exact (hr.2 k c y hc' hy).frz1 h hl hc hsh (h1 k c hc')
  | _ => exact absurd rfl hg
theorem qCI (q : B0) : (Im id r q).sh = q.sh := by cases q <;> rfl
theorem Bq.freeze (h : Bq w0 B κ X μ st tm w) (hl : A2 st.hp id = some r) (hc : r.closed = true) :
  Bq w0 B κ (fun b => X b ∨ ∃ n, μ id = some (b, n)) μ ⟨st.env.map fun p => (p.1, Dl id r p.2), (del id st.hp).map fun p => (p.1, Im id r p.2)⟩ tm w := by
 have hlook : ∀ t, A2 ((del id st.hp).map fun p => (p.1, Im id r p.2)) t = if t = id then none else (A2 st.hp t).map (Im id r) := by
  intro t
  rw [H4 (Im id r), q5p]
  split <;> rfl
 have hs : ∀ t, St.sh ⟨st.env.map fun p => (p.1, Dl id r p.2), (del id st.hp).map fun p => (p.1, Im id r p.2)⟩ t = if t = id then none else st.sh t := by
  intro t
  simp only [St.sh, hlook]
  split
  ·rfl
  ·cases A2 st.hp t <;> simp [qCI]
 have hsh : ∀ i q, i ≠ id → st.sh i = some q → St.sh ⟨st.env.map fun p => (p.1, Dl id r p.2), (del id st.hp).map fun p => (p.1, Im id r p.2)⟩ i = some q := fun i q hi hq => by rw [hs, if_neg hi]; exact hq
 have hback : ∀ i, St.sh ⟨st.env.map fun p => (p.1, Dl id r p.2), (del id st.hp).map fun p => (p.1, Im id r p.2)⟩ i ≠ none → i ≠ id ∧ st.sh i ≠ none := fun i hi => by
  rw [hs] at hi
  split at hi
  ·exact absurd rfl hi
  ·rename_i hne; exact ⟨hne, hi⟩
 have hid : st.sh id ≠ none := by simp [F5 hl]
 refine ⟨?_, ?_, fun a b g n n' ha hb => h.inj a b g n n' (hback a ha).2 (hback b hb).2, ?_, fun a hk ha => h.kap a hk (hback a ha).2, h.kbig, ?_, h.os, h.tape, h.output, h.size, h.fr⟩
 ·intro t a ht
  have h1 : A2 (st.env.map fun p => (p.1, Dl id r p.2)) t = (A2 st.env t).map (Dl id r) := H4 _ _ _
  simp only [h1, Option.map_eq_some_iff] at ht
  obtain ⟨b, hb, rfl⟩ := ht
  exact (h.env t b hb).frz h hl hc hsh
 ·intro i q hq
  simp only [hlook] at hq
  split at hq
  ·cases hq
  ·rename_i hne
   rw [Option.map_eq_some_iff] at hq
   obtain ⟨q, hq, rfl⟩ := hq
   have := h.reg i q hq
   cases q with
   | sl ty s es =>
    refine ⟨this.1, this.2.imp (fun h => h) fun ⟨g, arr, hm, hg, hle, hr⟩ => ⟨g, arr, hm, hg, hle, fun i k e t x h1 h2 h3 => (hr i k e t x h1 h2 h3).mono (fun _ _ => rfl) (fun _ hb => .inl hb)⟩⟩
   | it s pos => exact this
   | mp es =>
    obtain ⟨g, n, clock, ms, hm, hg, hle, hr⟩ := this
    exact ⟨g, n, clock, ms, hm, hg, hle, fun i e m h1 h2 => ⟨(hr i e m h1 h2).1, (hr i e m h1 h2).2.mono (fun _ _ => rfl) (fun _ hb => .inl hb)⟩⟩
   | bx cs =>
    obtain ⟨h1, g, arr, ty, hm, hg, hle, hr⟩ := this
    refine ⟨fun k a ha => ?_, g, arr, ty, hm, hg, by simpa using hle, fun k a x ha hx => ?_⟩
    ·simp only [List.getElem?_map, Option.map_eq_some_iff] at ha
     obtain ⟨b, hb, rfl⟩ := ha
     exact qAT (h1 k b hb)
    ·simp only [List.getElem?_map, Option.map_eq_some_iff] at ha
     obtain ⟨b, hb, rfl⟩ := ha
     exact (hr k b x hb hx).frz h hl hc hsh
 ·intro i g n hi hm
  obtain ⟨h1, h2⟩ := h.loc i g n (hback i hi).2 hm
  refine ⟨fun hx => ?_, h2⟩
  rcases hx with hx | ⟨n', hx⟩
  ·exact h1 hx
  ·exact (hback i hi).1 (h.inj i id g n n' (hback i hi).2 hid hm hx)
 ·intro b hb
  rcases hb with hb | ⟨n, hb⟩
  ·exact h.xlt b hb
  ·exact (h.loc id b n hid hb).2.1
end
end Go.Lg
namespace Go.Lg
open Go
inductive Gh where
 | keep (ks rs : List Nat)
 | frz (id : Nat)
 | nl (slot id ty s : Nat)
 | nlb (rid k id ty s : Nat)
 | ren (a b : Nat)
 | renS (a base slot : Nat)
 | keepB (ks rs : List Nat) (base N : Nat)
 | frzs (base n : Nat)
def Hu : List Nat → St → St
 | [], st => st
 | id :: ids, st => Hu ids (st.kill id)
def H8 (a b i : Nat) : Option Nat := if i = a then some b else some i
def Wa (a b : Nat) : List (Nat × B0) → List (Nat × B0)
 | [] => []
 | (k, r) :: l => (if k = a then b else k, Ce (H8 a b) r) :: Wa a b l
def qAW (base : Nat) : Nat → St → St
 | 0, st => st
 | n + 1, st => qAW base n (st.freeze (base + n))
def q3O (a b : Nat) (st : St) : St := if (A2 st.hp b).isNone && (A2 st.hp a).isSome && decide (a < 1000000) && decide (b < 1000000) then ⟨st.env.map fun p => (p.1, Bm (H8 a b) p.2), Wa a b st.hp⟩ else st
def q5h (ks rs : List Nat) (base N : Nat) (st : St) : St :=
 let s1 := Hu ((st.hp.map (·.1)).filter fun id => !rs.contains id && !(decide (base ≤ id) && decide (id < base + N))) ⟨Lg.keep ks st.env, st.hp⟩
 ⟨s1.env, Lg.keep rs s1.hp ++ Lg.keep (List.range' base N) s1.hp⟩
def Gh.run : Gh → St → St
 | .renS a base slot, st => match A2 st.env slot with
  | some (.t (.v (.int _ n))) => q3O a (base + n.toNat) st
  | _ => st
 | .keepB ks rs base N, st => q5h ks rs base N st
 | .ren a b, st => q3O a b st
 | .frzs base n, st => qAW base n st
 | .keep ks rs, st =>
  let s1 := Hu ((st.hp.map (·.1)).filter fun id => !rs.contains id) ⟨Lg.keep ks st.env, st.hp⟩
  ⟨s1.env, Lg.keep rs s1.hp⟩
 | .frz id, st => st.freeze id
 | .nl slot id ty s, st => match A2 st.env slot with
  | some (.t (.sl [] (some 0) _)) => if (A2 st.hp id).isNone && decide (id < 1000000) then ⟨(slot, .ls id 0 0 none) :: st.env, (id, .sl ty s []) :: st.hp⟩ else st
  | _ => st
 | .nlb rid k id ty s, st => match A2 st.hp rid with
  | some (.bx cs) => match cs[k]? with
   | some (.t (.sl [] (some 0) _)) => if (A2 st.hp id).isNone && decide (id < 1000000) then ⟨st.env, (id, .sl ty s []) :: G9 rid (.bx (cs.set k (.ls id 0 0 none))) st.hp⟩ else st
   | _ => st
  | _ => st
inductive IC where
 | skip
 | reg (ros : List RO) (gs : List Gh)
 | seq (a b : IC)
 | cond (c : Operand) (a b : IC)
 | block (id : Nat) (a : IC)
 | loop (a : IC)
 | exit (id : Nat)
 | ret
 | scope (a : IC)
 | gh (a : IC) (gs : List Gh)
 | dead
inductive AX where
 | normal
 | exit (id : Nat)
 | ret
def Xs (P : Program) (N : Nat) : IC → Code → Bool
 | .skip, .skip => true
 | .skip, .label _ => true
 | .reg ros _, .region _ ops dr => q0W P N ops.toList ros ops.toList && (!dr || qAQ ros ops.toList)
 | .seq a b, .seq c d => Xs P N a c && Xs P N b d
 | .cond x a b, .cond y c d => Bt x y && Ai x && Xs P N a c && Xs P N b d
 | .block i a, .block j c => i == j && Xs P N a c
 | .loop a, .loop c => Xs P N a c
 | .exit i, .exit j => i == j
 | .ret, .ret => true
 | .scope a, .scope c => Xs P N a c
 | .gh a _, c => Xs P N a c
 | .dead, _ => true
 | _, _ => false
def Aq (n : St → Prop) (Q : AX → St → Prop) : AX → St → Prop
 | .normal, s => n s
 | e, s => Q e s
def Kv (id : Nat) (Q : AX → St → Prop) : AX → St → Prop
 | .exit i, s => if i = id then Q .normal s else Q (.exit i) s
 | e, s => Q e s
def qDF (F : (AX → St → Prop) → St → Prop) (Q : AX → St → Prop) : Nat → St → Prop
 | 0, _ => False
 | n + 1, s => F (Aq (qDF F Q n) Q) s
def awp (P : Program) (Γ : Tables) : IC → (AX → St → Prop) → St → Prop
 | .skip, Q, s => Q .normal s
 | .reg ros gs, Q, s => ∃ s1, O0 P Γ ros s s1 ∧ Q .normal (gs.foldl (fun s g => g.run s) s1)
 | .seq a b, Q, s => awp P Γ a (Aq (awp P Γ b Q) Q) s
 | .cond c a b, Q, s => ∃ t, ev Γ s.env c = some (.t (.v (.bool t))) ∧ (t = true → awp P Γ a Q s) ∧ (t = false → awp P Γ b Q s)
 | .block id a, Q, s => awp P Γ a (Kv id Q) s
 | .loop a, Q, s => ∃ n, qDF (awp P Γ a) Q n s
 | .exit i, Q, s => Q (.exit i) s
 | .ret, Q, s => Q .ret s
 | .scope a, Q, s => awp P Γ a Q s
 | .gh a gs, Q, s => awp P Γ a (Aq (fun s => Q .normal (gs.foldl (fun s g => g.run s) s)) Q) s
 | .dead, _, _ => False
def AX.to : AX → Exit
 | .normal => .normal
 | .exit i => .exit i
 | .ret => .ret
section
variable {P : Program} {Γ : Tables} {w0 : World} {B : Nat} {κ : D3} {X0 X : Nat → Prop} {st st1 : St} {N : Nat} {a : Act} {w : World}
theorem Bg : ∀ {c : IC} {Q Q' : AX → St → Prop} {s : St}, awp P Γ c Q s → (∀ e s, Q e s → Q' e s) → awp P Γ c Q' s
 | .skip, _, _, _, h, hq => hq _ _ h
 | .reg _ _, _, _, _, ⟨s1, h1, h2⟩, hq => ⟨s1, h1, hq _ _ h2⟩
 | .seq a b, Q, Q', s, h, hq => Bg (c := a) h fun e s h => by
  cases e with
  | normal => exact Bg (c := b) h hq
  | exit i => exact hq _ _ h
  | ret => exact hq _ _ h
 | .cond _ a b, _, _, _, ⟨t, h1, h2, h3⟩, hq => ⟨t, h1, fun e => Bg (c := a) (h2 e) hq, fun e => Bg (c := b) (h3 e) hq⟩
 | .block id a, Q, Q', s, h, hq => Bg (c := a) h fun e s h => by
  cases e with
  | normal => exact hq _ _ h
  | exit i => simp only [Kv] at h ⊢; split <;> rename_i hi <;> simp only [hi, if_true, if_false] at h <;> exact hq _ _ h
  | ret => exact hq _ _ h
 | .loop a, Q, Q', s, ⟨n, h⟩, hq => by
  refine ⟨n, ?_⟩
  induction n generalizing s with
  | zero => exact h
  | succ n ih =>
   refine Bg (c := a) h fun e s h => ?_
   cases e with
   | normal => exact ih _ h
   | exit i => exact hq _ _ h
   | ret => exact hq _ _ h
 | .exit _, _, _, _, h, hq => hq _ _ h
 | .ret, _, _, _, h, hq => hq _ _ h
 | .scope a, _, _, _, h, hq => Bg (c := a) h hq
 | .gh a gs, _, _, _, h, hq => Bg (c := a) h fun e s h => by
  cases e with
  | normal => exact hq _ _ h
  | exit i => exact hq _ _ h
  | ret => exact hq _ _ h
 | .dead, _, _, _, h, _ => h.elim
theorem I7 : ∀ {c : IC} {Q : AX → St → Prop} {s : St}, awp P Γ c Q s → ∃ e s', Q e s' ∧ awp P Γ c (fun e2 s2 => e2 = e ∧ s2 = s') s
 | .skip, _, _, h => ⟨_, _, h, rfl, rfl⟩
 | .reg _ _, _, _, ⟨s1, h1, h2⟩ => ⟨_, _, h2, s1, h1, rfl, rfl⟩
 | .seq a b, Q, s, h => by
  obtain ⟨e, s1, h1, h2⟩ := I7 (c := a) h
  cases e with
  | normal =>
   obtain ⟨e2, s2, h3, h4⟩ := I7 (c := b) h1
   exact ⟨e2, s2, h3, Bg (c := a) h2 fun e s ⟨he, hs⟩ => by subst he; subst hs; exact h4⟩
  | exit i => exact ⟨_, _, h1, Bg (c := a) h2 fun e s ⟨he, hs⟩ => by subst he; subst hs; exact ⟨rfl, rfl⟩⟩
  | ret => exact ⟨_, _, h1, Bg (c := a) h2 fun e s ⟨he, hs⟩ => by subst he; subst hs; exact ⟨rfl, rfl⟩⟩
 | .cond c a b, Q, s, ⟨t, h1, h2, h3⟩ => by
  cases t with
  | true =>
   obtain ⟨e, s1, h4, h5⟩ := I7 (c := a) (h2 rfl)
   exact ⟨e, s1, h4, true, h1, fun _ => h5, fun h => by cases h⟩
  | false =>
   obtain ⟨e, s1, h4, h5⟩ := I7 (c := b) (h3 rfl)
   exact ⟨e, s1, h4, false, h1, (fun h => by cases h), fun _ => h5⟩
 | .block id a, Q, s, h => by
  obtain ⟨e, s1, h1, h2⟩ := I7 (c := a) h
  cases e with
  | normal => exact ⟨_, _, h1, Bg (c := a) h2 fun e s ⟨he, hs⟩ => by subst he; subst hs; exact ⟨rfl, rfl⟩⟩
  | ret => exact ⟨_, _, h1, Bg (c := a) h2 fun e s ⟨he, hs⟩ => by subst he; subst hs; exact ⟨rfl, rfl⟩⟩
  | exit i =>
   by_cases hi : i = id
   ·simp only [Kv, hi, if_true] at h1
    exact ⟨_, _, h1, Bg (c := a) h2 fun e s ⟨he, hs⟩ => by subst he; subst hs; simp [Kv, hi]⟩
   ·simp only [Kv, hi, if_false] at h1
    exact ⟨_, _, h1, Bg (c := a) h2 fun e s ⟨he, hs⟩ => by subst he; subst hs; simp [Kv, hi]⟩
 | .loop a, Q, s, ⟨n, h⟩ => by
  induction n generalizing s with
  | zero => exact h.elim
  | succ n ih =>
   obtain ⟨e, s1, h1, h2⟩ := I7 (c := a) h
   cases e with
   | normal =>
    obtain ⟨e2, s2, h3, m, h4⟩ := ih _ h1
    exact ⟨e2, s2, h3, m + 1, Bg (c := a) h2 fun e s ⟨he, hs⟩ => by subst he; subst hs; exact h4⟩
   | exit i => exact ⟨_, _, h1, 1, Bg (c := a) h2 fun e s ⟨he, hs⟩ => by subst he; subst hs; exact ⟨rfl, rfl⟩⟩
   | ret => exact ⟨_, _, h1, 1, Bg (c := a) h2 fun e s ⟨he, hs⟩ => by subst he; subst hs; exact ⟨rfl, rfl⟩⟩
 | .exit _, _, _, h => ⟨_, _, h, rfl, rfl⟩
 | .ret, _, _, h => ⟨_, _, h, rfl, rfl⟩
 | .scope a, Q, s, h => I7 (c := a) h
 | .gh a gs, Q, s, h => by
  obtain ⟨e, s1, h1, h2⟩ := I7 (c := a) h
  cases e with
  | normal => exact ⟨_, _, h1, Bg (c := a) h2 fun e s ⟨he, hs⟩ => by subst he; subst hs; exact ⟨rfl, rfl⟩⟩
  | exit i => exact ⟨_, _, h1, Bg (c := a) h2 fun e s ⟨he, hs⟩ => by subst he; subst hs; exact ⟨rfl, rfl⟩⟩
  | ret => exact ⟨_, _, h1, Bg (c := a) h2 fun e s ⟨he, hs⟩ => by subst he; subst hs; exact ⟨rfl, rfl⟩⟩
 | .dead, _, _, h => h.elim
theorem qDG {c : IC} {Q : AX → St → Prop} {s : St} (h : awp P Γ c (Aq (awp P Γ (.loop c) Q) Q) s) : awp P Γ (.loop c) Q s := by
 obtain ⟨e, s1, h1, h2⟩ := I7 h
 cases e with
 | normal =>
  obtain ⟨n, h1⟩ := h1
  exact ⟨n + 1, Bg h2 fun e s ⟨he, hs⟩ => by subst he; subst hs; exact h1⟩
 | exit i => exact ⟨1, Bg h2 fun e s ⟨he, hs⟩ => by subst he; subst hs; exact h1⟩
 | ret => exact ⟨1, Bg h2 fun e s ⟨he, hs⟩ => by subst he; subst hs; exact h1⟩
theorem q2h : ∀ {ids : List Nat} {st : St} {X : Nat → Prop} {μ : D3} {tm : Array Value}, Bq w0 B κ X μ st tm w → Bq w0 B κ X μ (Hu ids st) tm w
 | [], _, _, _, _, h => h
 | id :: ids, _, _, _, _, h => q2h (ids := ids) (h.kill id)
theorem Zh : ∀ {ids : List Nat} {st : St} {t : Nat}, A2 (Hu ids st).hp t ≠ none → t ∉ ids ∧ A2 st.hp t ≠ none
 | [], _, _, h => ⟨by simp, h⟩
 | id :: ids, st, t, h => by
  obtain ⟨h1, h2⟩ := Zh (ids := ids) h
  rw [Uo] at h2
  split at h2
  ·exact absurd rfl h2
  ·rename_i hne
   refine ⟨by simp [hne, h1], fun e => h2 (by rw [e]; rfl)⟩
theorem q6D {α : Type} : ∀ {l : List (Nat × α)} {t : Nat}, A2 l t ≠ none → t ∈ l.map (·.1)
 | [], _, h => absurd rfl h
 | (k, v) :: l, t, h => by
  simp only [A2] at h
  split at h
  ·rename_i e; simp [e]
  ·exact List.mem_cons_of_mem _ (q6D h)
theorem q2i {α : Type} {ks : List Nat} {l : List (Nat × α)} {t : Nat} (h : A2 l t ≠ none → t ∈ ks) : A2 (Lg.keep ks l) t = A2 l t := by
 cases hq : A2 (Lg.keep ks l) t with
 | some a => exact ((Y4 ks l t a hq).1).symm
 | none =>
  cases hl : A2 l t with
  | none => rfl
  | some a =>
   exfalso
   have hm := h (by rw [hl]; simp)
   clear h
   induction ks with
   | nil => cases hm
   | cons k ks ih =>
    unfold Lg.keep at hq ih
    rw [List.filterMap_cons] at hq
    cases hk : A2 l k with
    | none =>
     rw [hk] at hq
     rcases List.mem_cons.1 hm with rfl | hm
     ·rw [hl] at hk; cases hk
     ·exact ih hq hm
    | some v =>
     rw [hk] at hq
     simp only [Option.map_some, A2] at hq
     split at hq
     ·cases hq
     ·rename_i hne
      rcases List.mem_cons.1 hm with rfl | hm
      ·exact hne rfl
      ·exact ih hq hm
theorem Bq.hpc {X : Nat → Prop} {μ : D3} {tm : Array Value} {hp : List (Nat × B0)} (h : Bq w0 B κ X μ st tm w) (hl : ∀ t, A2 hp t = A2 st.hp t) : Bq w0 B κ X μ ⟨st.env, hp⟩ tm w := by
 have hs : St.sh ⟨st.env, hp⟩ = st.sh := funext fun t => by simp only [St.sh, hl]
 refine ⟨fun t a ht => ?_, fun id r hr => ?_, ?_, ?_, ?_, h.kbig, h.xlt, h.os, h.tape, h.output, h.size, h.fr⟩
 ·rw [hs]; exact h.env t a ht
 ·rw [hs]; exact h.reg id r (by rw [← hl]; exact hr)
 ·rw [hs]; exact h.inj
 ·rw [hs]; exact h.loc
 ·rw [hs]; exact h.kap
theorem Bq.slot {X : Nat → Prop} {μ : D3} {tm : Array Value} {t : Nat} {b : AV} (h : Bq w0 B κ X μ st tm w) (hb : AR w X μ st.sh b (tm.getD t undef)) : Bq w0 B κ X μ ⟨(t, b) :: st.env, st.hp⟩ tm w := by
 refine ⟨fun u a ha => ?_, h.reg, h.inj, h.loc, h.kap, h.kbig, h.xlt, h.os, h.tape, h.output, h.size, h.fr⟩
 simp only [A2] at ha
 split at ha
 ·rename_i e; subst e; simp only [Option.some.injEq] at ha; subst ha; exact hb
 ·exact h.env u a ha
theorem TR.nil_inv {X : Nat → Prop} {nl : Option Bool} {v : Value} (h : TR w X (.sl [] (some 0) nl) v) : ∃ a, v = .slice a 0 0 := by
 cases h with
 | nil cap nl a c hc hn hz => exact ⟨a, by rw [hc 0 rfl]⟩
 | sl es cap nl s b off c f hcell hlen hrel hone hx hle hc hn => exact ⟨_, by rw [hc 0 rfl]; rfl⟩
theorem Bq.addNil {X : Nat → Prop} {μ : D3} {tm : Array Value} {id : Nat} (h : Bq w0 B κ X μ st tm w) (hi : A2 st.hp id = none) (hlt : id < 1000000) (ty s : Nat) : Bq w0 B κ X (μ.set id none) ⟨st.env, (id, .sl ty s []) :: st.hp⟩ tm w := by
 refine h.addReg hi hlt (.sl ty s []) none (fun g n e => by cases e) ⟨fun i e h => by simp at h, .inl ⟨rfl, by simp [D3.set]⟩⟩
theorem q2j {a b t : Nat} : ∀ {hp : List (Nat × B0)}, A2 hp b = none → a ≠ b → A2 (Wa a b hp) t = if t = b then (A2 hp a).map (Ce (H8 a b)) else if t = a then none else (A2 hp t).map (Ce (H8 a b))
 | [], _, _ => by simp [Wa, A2]
 | (k, r) :: l, hb, hab => by
  simp only [A2] at hb
  split at hb
  ·cases hb
  rename_i hkb
  have ih := q2j (t := t) hb hab
  simp only [Wa, A2, ih]
  by_cases hka : k = a
  ·subst hka
   by_cases htb : t = b
   ·subst htb; simp
   ·simp [htb, Ne.symm htb]
    by_cases hta : t = k
    ·simp [hta]
    ·simp [hta, Ne.symm hta]
  ·simp only [hka, if_false]
   by_cases htb : t = b
   ·subst htb; simp [hkb]
   ·by_cases hkt : k = t
    ·subst hkt; simp [htb, hka]
    ·simp [hkt, htb]
theorem Bq.rename {X : Nat → Prop} {μ : D3} {tm : Array Value} (h : Bq w0 B κ X μ st tm w) {x y : Nat} (hb : A2 st.hp y = none) (ha : A2 st.hp x ≠ none) (hx : x < 1000000) (hy : y < 1000000) :
  Bq w0 B κ X (fun i => if i = y then μ x else μ i) ⟨st.env.map fun p => (p.1, Bm (H8 x y) p.2), Wa x y st.hp⟩ tm w := by
 have hne : x ≠ y := fun e => ha (e ▸ hb)
 have hl := fun t => q2j (t := t) hb hne
 have hsh : ∀ t, St.sh ⟨st.env.map fun p => (p.1, Bm (H8 x y) p.2), Wa x y st.hp⟩ t = if t = y then st.sh x else if t = x then none else st.sh t := by
  intro t
  simp only [St.sh, hl]
  split
  ·cases A2 st.hp x <;> simp [N5]
  ·split
   ·rfl
   ·cases A2 st.hp t <;> simp [N5]
 have hyn : st.sh y = none := St.sh_none.2 hb
 have hφ : ∀ i j q, H8 x y i = some j → st.sh i = some q → St.sh ⟨st.env.map fun p => (p.1, Bm (H8 x y) p.2), Wa x y st.hp⟩ j = some q ∧ (if j = y then μ x else μ j) = μ i := by
  intro i j q hj hq
  rw [hsh]
  simp only [H8] at hj
  split at hj <;> simp only [Option.some.injEq] at hj <;> subst hj
  ·rename_i e; subst e; simp [hq]
  ·rename_i e
   have : i ≠ y := fun e => by rw [e, hyn] at hq; cases hq
   simp [this, e, hq]
 -- the elder name
 have hback : ∀ t, St.sh ⟨st.env.map fun p => (p.1, Bm (H8 x y) p.2), Wa x y st.hp⟩ t ≠ none → ∃ u, st.sh u ≠ none ∧ (if t = y then μ x else μ t) = μ u ∧ (t = y ∧ u = x ∨ t ≠ y ∧ t ≠ x ∧ u = t) := by
  intro t ht
  rw [hsh] at ht
  by_cases e : t = y
  ·exact ⟨x, by simpa [e] using ht, by simp [e], .inl ⟨e, rfl⟩⟩
  ·by_cases f : t = x
   ·rw [if_neg e, if_pos f] at ht
    exact absurd rfl ht
   ·exact ⟨t, by simpa [e, f] using ht, by simp [e], .inr ⟨e, f, rfl⟩⟩
 refine ⟨?_, ?_, ?_, ?_, ?_, h.kbig, h.xlt, h.os, h.tape, h.output, h.size, h.fr⟩
 ·intro t a ht
  have h1 : A2 (st.env.map fun p => (p.1, Bm (H8 x y) p.2)) t = (A2 st.env t).map (Bm (H8 x y)) := H4 _ _ _
  have ht' : A2 (st.env.map fun p => (p.1, Bm (H8 x y) p.2)) t = some a := ht
  rw [h1, Option.map_eq_some_iff] at ht'
  obtain ⟨b, hb, rfl⟩ := ht'
  exact (h.env t b hb).ren hφ
 ·intro t r hr
  have hr' : A2 (Wa x y st.hp) t = some r := hr
  rw [hl] at hr'
  split at hr'
  ·rename_i e; subst e
   rw [Option.map_eq_some_iff] at hr'
   obtain ⟨q, hq, rfl⟩ := hr'
   exact (h.reg x q hq).ren hφ (by simp)
  ·rename_i e
   split at hr'
   ·cases hr'
   ·rw [Option.map_eq_some_iff] at hr'
    obtain ⟨q, hq, rfl⟩ := hr'
    exact (h.reg t q hq).ren hφ (by simp [e])
 ·intro a b g n n' ha' hb' hma hmb
  obtain ⟨u, h1, h2, h3⟩ := hback a ha'
  obtain ⟨v, h4, h5, h6⟩ := hback b hb'
  have := h.inj u v g n n' h1 h4 (h2 ▸ hma) (h5 ▸ hmb)
  subst this
  rcases h3 with ⟨h3, h3'⟩ | ⟨h3, h3', h3''⟩ <;> rcases h6 with ⟨h6, h6'⟩ | ⟨h6, h6', h6''⟩
  ·rw [h3, h6]
  ·exact absurd (h6''.symm.trans h3') h6'
  ·exact absurd (h3''.symm.trans h6') h3'
  ·rw [← h3'', ← h6'']
 ·intro t g n ht hm
  obtain ⟨u, h1, h2, _⟩ := hback t ht
  exact h.loc u g n h1 (h2 ▸ hm)
 ·intro t hbig ht
  obtain ⟨u, h1, h2, h3⟩ := hback t ht
  rcases h3 with ⟨h3, _⟩ | ⟨_, _, h3⟩
  ·omega
  ·subst h3
   exact h2.trans (h.kap u hbig h1)
theorem Inv.freeze (hI : Inv Γ w0 B κ X0 N st a w) (id : Nat) : Inv Γ w0 B κ X0 N (st.freeze id) a w := by
 obtain ⟨X, μ, hsim, hg, h0, hbd, hsz, hds⟩ := hI
 simp only [St.freeze]
 split
 ·rename_i r hl
  split
  ·rename_i hc
   refine ⟨_, μ, hsim.freeze hl hc, hg.mono (fun _ _ => rfl) (fun _ hb => .inl hb), fun b hb => .inl (h0 b hb), fun b hb => ?_, hsz, hds⟩
   rcases hb with hb | ⟨n, hb⟩
   ·exact hbd b hb
   ·rcases Nat.lt_or_ge b B with hlt | hge
    ·obtain ⟨id', n', hk⟩ := (hsim.loc id b n (by simp [F5 hl]) hb).2.2 hlt
     exact .inr (.inr ⟨id', n', hk⟩)
    ·exact .inr (.inl hge)
  ·exact ⟨X, μ, hsim, hg, h0, hbd, hsz, hds⟩
 ·exact ⟨X, μ, hsim, hg, h0, hbd, hsz, hds⟩
theorem qBS {base : Nat} : ∀ {n : Nat} {st : St}, Inv Γ w0 B κ X0 N st a w → Inv Γ w0 B κ X0 N (qAW base n st) a w
 | 0, _, h => h
 | n + 1, _, h => qBS (n := n) (h.freeze (base + n))
theorem q97 (x y : Nat) (hI : Inv Γ w0 B κ X0 N st a w) : Inv Γ w0 B κ X0 N (q3O x y st) a w := by
 obtain ⟨X, μ, hsim, hg, h0, hbd, hsz, hds⟩ := hI
 simp only [q3O]
 split
 ·rename_i hc
  simp only [Bool.and_eq_true, Option.isNone_iff_eq_none, decide_eq_true_eq, Option.isSome_iff_ne_none] at hc
  exact ⟨X, _, hsim.rename hc.1.1.1 hc.1.1.2 hc.1.2 hc.2, hg, h0, hbd, hsz, hds⟩
 ·exact ⟨X, μ, hsim, hg, h0, hbd, hsz, hds⟩
theorem Gh.run_ok (g : Gh) (hI : Inv Γ w0 B κ X0 N st a w) : Inv Γ w0 B κ X0 N (g.run st) a w := by
 obtain ⟨X, μ, hsim, hg, h0, hbd, hsz, hds⟩ := hI
 cases g with
 | keep ks rs =>
  have h1 : Bq w0 B κ X μ ⟨Lg.keep ks st.env, st.hp⟩ a.tmps w := hsim.sub _ fun t b ht => (Y4 ks _ t b ht).1
  have h2 := q2h (ids := (st.hp.map (·.1)).filter fun id => !rs.contains id) h1
  refine ⟨X, μ, h2.hpc fun t => q2i fun hne => ?_, hg, h0, hbd, hsz, hds⟩
  obtain ⟨h3, h4⟩ := Zh hne
  have h5 := q6D h4
  simp only [List.mem_filter, not_and, Bool.not_eq_true', Bool.not_eq_true] at h3
  have := h3 h5
  simpa using this
 | frz id => exact Inv.freeze ⟨X, μ, hsim, hg, h0, hbd, hsz, hds⟩ id
 | frzs base n => exact qBS ⟨X, μ, hsim, hg, h0, hbd, hsz, hds⟩
 | ren x y => exact q97 x y ⟨X, μ, hsim, hg, h0, hbd, hsz, hds⟩
 | renS x base slot =>
  simp only [Gh.run]
  split
  ·exact q97 _ _ ⟨X, μ, hsim, hg, h0, hbd, hsz, hds⟩
  ·exact ⟨X, μ, hsim, hg, h0, hbd, hsz, hds⟩
 | keepB ks rs base n =>
  have h1 : Bq w0 B κ X μ ⟨Lg.keep ks st.env, st.hp⟩ a.tmps w := hsim.sub _ fun t b ht => (Y4 ks _ t b ht).1
  have h2 := q2h (ids := (st.hp.map (·.1)).filter fun id => !rs.contains id && !(decide (base ≤ id) && decide (id < base + n))) h1
  refine ⟨X, μ, h2.hpc fun t => ?_, hg, h0, hbd, hsz, hds⟩
  rw [Dt]
  by_cases ht : t ∈ rs
  ·rw [q2i (fun _ => ht)]
   cases hl : A2 (Hu ((st.hp.map (·.1)).filter fun id => !rs.contains id && !(decide (base ≤ id) && decide (id < base + n))) ⟨Lg.keep ks st.env, st.hp⟩).hp t with
   | some r => rfl
   | none =>
    simp only [Option.none_or]
    cases hk : A2 (Lg.keep (List.range' base n) (Hu ((st.hp.map (·.1)).filter fun id => !rs.contains id && !(decide (base ≤ id) && decide (id < base + n))) ⟨Lg.keep ks st.env, st.hp⟩).hp) t with
    | none => rfl
    | some r => have := (Y4 _ _ t r hk).1; rw [hl] at this; cases this
  ·have e : A2 (Lg.keep rs (Hu ((st.hp.map (·.1)).filter fun id => !rs.contains id && !(decide (base ≤ id) && decide (id < base + n))) ⟨Lg.keep ks st.env, st.hp⟩).hp) t = none := by
    cases hk : A2 (Lg.keep rs (Hu ((st.hp.map (·.1)).filter fun id => !rs.contains id && !(decide (base ≤ id) && decide (id < base + n))) ⟨Lg.keep ks st.env, st.hp⟩).hp) t with
    | none => rfl
    | some r => exact absurd (Y4 _ _ t r hk).2 ht
   rw [e, Option.none_or]
   refine q2i fun hne => ?_
   obtain ⟨h3, h4⟩ := Zh hne
   have h5 := q6D h4
   simp only [List.mem_filter, not_and, Bool.not_eq_true', Bool.not_eq_true] at h3
   have := h3 h5
   simp [ht] at this
   rw [List.mem_range'_1]; omega
 | nl slot id ty s =>
  simp only [Gh.run]
  split
  ·rename_i nl hl
   split
   ·rename_i hc
    simp only [Bool.and_eq_true, Option.isNone_iff_eq_none, decide_eq_true_eq] at hc
    have h1 := hsim.addNil hc.1 hc.2 ty s
    obtain ⟨ad, hv⟩ := (hsim.env slot _ hl).t_inv.nil_inv
    refine ⟨X, μ.set id none, h1.slot ?_, hg, h0, hbd, hsz, hds⟩
    rw [hv]
    exact .lsnil id s 0 (by simp [St.sh, A2, B0.sh]) (by simp [D3.set]) ad none (fun q h => by cases h)
   ·exact ⟨X, μ, hsim, hg, h0, hbd, hsz, hds⟩
  ·exact ⟨X, μ, hsim, hg, h0, hbd, hsz, hds⟩
 | nlb rid k id ty s =>
  simp only [Gh.run]
  split
  ·rename_i cs hl
   split
   ·rename_i nl hk
    split
    ·rename_i hc
     simp only [Bool.and_eq_true, Option.isNone_iff_eq_none, decide_eq_true_eq] at hc
     have h1 := hsim.addNil hc.1 hc.2 ty s
     have hne : rid ≠ id := fun e => by rw [e, hc.1] at hl; cases hl
     have hlk : ∀ t, A2 ((id, B0.sl ty s []) :: G9 rid (.bx (cs.set k (.ls id 0 0 none))) st.hp) t = if t = rid then some (.bx (cs.set k (.ls id 0 0 none))) else A2 ((id, B0.sl ty s []) :: st.hp) t := by
      intro t
      simp only [A2]
      by_cases e : id = t
      ·subst e; simp [Ne.symm hne]
      ·simp only [e, if_false]
       rw [Ei, hl]; rfl
     have hsh : ∀ t, St.sh ⟨st.env, (id, B0.sl ty s []) :: G9 rid (.bx (cs.set k (.ls id 0 0 none))) st.hp⟩ t = St.sh ⟨st.env, (id, B0.sl ty s []) :: st.hp⟩ t := by
      intro t
      simp only [St.sh, hlk]
      split
      ·rename_i e; subst e; simp [A2, Ne.symm hne, hl, B0.sh]
      ·rfl
     have hsf : St.sh ⟨st.env, (id, B0.sl ty s []) :: G9 rid (.bx (cs.set k (.ls id 0 0 none))) st.hp⟩ = St.sh ⟨st.env, (id, B0.sl ty s []) :: st.hp⟩ := funext hsh
     refine ⟨X, μ.set id none, ⟨fun t b hb => ?_, fun t r hr => ?_, ?_, ?_, ?_, h1.kbig, h1.xlt, h1.os, h1.tape, h1.output, h1.size, h1.fr⟩, hg, h0, hbd, hsz, hds⟩
     ·rw [hsf]; exact h1.env t b hb
     ·rw [hsf]
      simp only [hlk] at hr
      split at hr
      ·rename_i e; subst e
       simp only [Option.some.injEq] at hr; subst hr
       obtain ⟨h2, g, arr, ty', hm, hg', hle, hrel⟩ := h1.reg t (.bx cs) (by simp [A2, Ne.symm hne, hl])
       obtain ⟨ad, hv⟩ : ∃ ad, arr[k]? = some (.slice ad 0 0) := by
        have hklt := (List.getElem?_eq_some_iff.1 hk).1
        have hka : k < arr.size := by rw [← hle]; exact hklt
        have h3 := hrel k _ arr[k] hk (by simp [hka])
        obtain ⟨ad, e⟩ := h3.t_inv.nil_inv
        exact ⟨ad, by simp [hka, e]⟩
       refine ⟨fun j b hb => ?_, g, arr, ty', hm, hg', by simpa using hle, fun j b x hb hx => ?_⟩
       ·rw [List.getElem?_set] at hb
        split at hb
        ·split at hb
         ·simp only [Option.some.injEq] at hb; subst hb; rfl
         ·cases hb
        ·exact h2 j b hb
       ·rw [List.getElem?_set] at hb
        split at hb
        ·rename_i e; subst e
         split at hb
         ·simp only [Option.some.injEq] at hb; subst hb
          rw [hv] at hx; cases hx
          exact .lsnil id s 0 (by simp [St.sh, A2, B0.sh]) (by simp [D3.set]) ad none (fun q h => by cases h)
         ·cases hb
        ·exact hrel j b x hb hx
      ·exact h1.reg t r hr
     ·rw [hsf]; exact h1.inj
     ·rw [hsf]; exact h1.loc
     ·rw [hsf]; exact h1.kap
    ·exact ⟨X, μ, hsim, hg, h0, hbd, hsz, hds⟩
   ·exact ⟨X, μ, hsim, hg, h0, hbd, hsz, hds⟩
  ·exact ⟨X, μ, hsim, hg, h0, hbd, hsz, hds⟩
theorem qAX : ∀ {gs : List Gh} {st : St}, Inv Γ w0 B κ X0 N st a w → Inv Γ w0 B κ X0 N (gs.foldl (fun s g => g.run s) st) a w
 | [], _, h => h
 | g :: gs, _, h => qAX (gs := gs) (Gh.run_ok g h)
def post (Γ : Tables) (w0 : World) (B : Nat) (κ : D3) (X0 : Nat → Prop) (N : Nat) (Q : AX → St → Prop) : Exit → Act → World → Prop := fun e a w => ∃ x s, e = x.to ∧ Inv Γ w0 B κ X0 N s a w ∧ Q x s
theorem Inv.drawn (h : Inv Γ w0 B κ X0 N st a w) (n : Nat) : Inv Γ w0 B κ X0 N st a { w with drawn := n } := by
 have hb : RowKit.Below w.heap.size w { w with drawn := n } := by constructor <;> simp
 obtain ⟨X, μ, hsim, hg, h0, hbd, hsz, hds⟩ := h
 have hs : Same X w { w with drawn := n } := fun _ _ => rfl
 exact ⟨X, μ, hsim.grow hb (fun _ hb => hb) (fun _ hb => .inl hb), hg.mono hs (fun _ hb => hb), h0, hbd, hsz, hds⟩
theorem Fo (hN : N ≤ 1000000) (hm : P.follows .mixedOrders = true) : ∀ {c : IC} {d : Code} {Q : AX → St → Prop} {st : St} {a : Act} {w : World}, Xs P N c d = true → Inv Γ w0 B κ X0 N st a w → awp P Γ c Q st → d.wp P (post Γ w0 B κ X0 N Q) a w
 | .skip, d, Q, st, a, w, hc, hI, h => by
  cases d <;> simp [Xs] at hc
  ·exact wp_skip ⟨.normal, st, rfl, hI, h⟩
  ·exact wp_label ⟨.normal, st, rfl, hI, h⟩
 | .reg ros gs, d, Q, st, a, w, hc, hI, h => by
  cases d <;> simp only [Xs, Bool.false_eq_true] at hc
  rename_i id ops dr
  simp only [Bool.and_eq_true, Bool.or_eq_true, Bool.not_eq_true'] at hc
  obtain ⟨s1, h1, h2⟩ := h
  have fin : ∀ a' w', Inv Γ w0 B κ X0 N s1 a' w' → post Γ w0 B κ X0 N Q .normal a' w' := fun a' w' hI' => ⟨.normal, _, rfl, qAX hI', h2⟩
  cases dr with
  | false =>
   refine wp_region_list ?_
   have := q4t (Q := post Γ w0 B κ X0 N Q) (ops := ops.toList) hN hI hc.1 h1 fin
   rwa [Array.toArray_toList] at this
  | true =>
   have hd := hc.2.resolve_left (by simp)
   refine wp_region_any hm ?_
   have := qAS (Q := post Γ w0 B κ X0 N Q) (ops := ops.toList) hN (hI.drawn (w.drawn + 1)) hc.1 hd h1 fin
   rwa [Array.toArray_toList] at this
 | .seq x y, d, Q, st, a, w, hc, hI, h => by
  cases d <;> simp only [Xs, Bool.false_eq_true] at hc
  simp only [Bool.and_eq_true] at hc
  refine wp_seq (wp_mono (Fo hN hm (c := x) hc.1 hI h) ?_)
  rintro e a w ⟨x, s, rfl, hI, hq⟩
  cases x with
  | normal => exact Fo hN hm (c := y) hc.2 hI hq
  | exit i => exact ⟨_, s, rfl, hI, hq⟩
  | ret => exact ⟨_, s, rfl, hI, hq⟩
 | .cond o x y, d, Q, st, a, w, hc, hI, h => by
  cases d <;> simp only [Xs, Bool.false_eq_true] at hc
  simp only [Bool.and_eq_true] at hc
  obtain ⟨⟨⟨h1, h2⟩, h3⟩, h4⟩ := hc
  have := Ah h1; subst this
  obtain ⟨t, h5, h6, h7⟩ := h
  obtain ⟨X, μ, hsim, hg, h0, hbd, hsz, hds⟩ := id hI
  have hev := (Au (ds := a.defers) hsim hg h5 h2).t_inv.v_inv
  refine wp_cond_split (t := t) hev (fun e => Fo hN hm (c := x) h3 hI (h6 e)) (fun e => Fo hN hm (c := y) h4 hI (h7 e))
 | .block i x, d, Q, st, a, w, hc, hI, h => by
  cases d <;> simp only [Xs, Bool.false_eq_true] at hc
  simp only [Bool.and_eq_true, beq_iff_eq] at hc
  obtain ⟨rfl, hc⟩ := hc
  refine wp_block (wp_mono (Fo hN hm (c := x) hc hI h) ?_)
  rintro e a w ⟨x, s, rfl, hI, hq⟩
  cases x with
  | normal => exact ⟨.normal, s, rfl, hI, hq⟩
  | ret => exact ⟨.ret, s, rfl, hI, hq⟩
  | exit j =>
   simp only [Kv] at hq
   simp only [AX.to, Exit.inBlock]
   split
   ·rename_i hj; rw [if_pos hj] at hq; exact ⟨.normal, s, rfl, hI, hq⟩
   ·rename_i hj; rw [if_neg hj] at hq; exact ⟨.exit j, s, rfl, hI, hq⟩
 | .loop x, d, Q, st, a, w, hc, hI, h => by
  cases d <;> simp only [Xs, Bool.false_eq_true] at hc
  rename_i y
  have least : ∀ p : Nat → Prop, (∃ n, p n) → ∃ n, p n ∧ ∀ m, p m → n ≤ m := by
   intro p ⟨n, hn⟩
   induction n using Nat.strongRecOn with
   | _ n ih =>
    by_cases hlt : ∃ m, m < n ∧ p m
    ·obtain ⟨m, hm, hp⟩ := hlt; exact ih m hm hp
    ·exact ⟨n, hn, fun m hm => by rcases Nat.lt_or_ge m n with h | h; exact absurd ⟨m, h, hm⟩ hlt; exact h⟩
  let p : Act → World → Nat → Prop := fun a w n => ∃ s, Inv Γ w0 B κ X0 N s a w ∧ qDF (awp P Γ x) Q n s
  classical
  refine wp_loop (fun a w => ∃ n, p a w n) (fun a w => if hp : ∃ n, p a w n then Classical.choose (least _ hp) else 0) ?_ ?_
  ·obtain ⟨n, h⟩ := h; exact ⟨n, st, hI, h⟩
  ·intro a w hp
   have hn := Classical.choose_spec (least _ hp)
   generalize hnn : Classical.choose (least _ hp) = n at hn
   obtain ⟨⟨s, hI, hl⟩, hmin⟩ := hn
   cases n with
   | zero => exact hl.elim
   | succ n =>
    refine wp_mono (Fo hN hm (c := x) hc hI hl) ?_
    rintro e a' w' ⟨x', s', rfl, hI', hq⟩
    cases x' with
    | normal =>
     have hp' : ∃ n, p a' w' n := ⟨n, s', hI', hq⟩
     refine ⟨hp', ?_⟩
     show (if hp : ∃ n, p a' w' n then Classical.choose (least _ hp) else 0) < (if hp : ∃ n, p a w n then Classical.choose (least _ hp) else 0)
     rw [dif_pos hp', dif_pos hp, hnn]
     have := (Classical.choose_spec (least _ hp')).2 n ⟨s', hI', hq⟩
     omega
    | exit i => exact ⟨_, s', rfl, hI', hq⟩
    | ret => exact ⟨_, s', rfl, hI', hq⟩
 | .exit i, d, Q, st, a, w, hc, hI, h => by
  cases d <;> simp only [Xs, Bool.false_eq_true, beq_iff_eq] at hc
  subst hc
  exact wp_exit ⟨.exit i, st, rfl, hI, h⟩
 | .ret, d, Q, st, a, w, hc, hI, h => by
  cases d <;> simp [Xs] at hc
  exact wp_ret ⟨.ret, st, rfl, hI, h⟩
 | .scope x, d, Q, st, a, w, hc, hI, h => by
  cases d <;> simp only [Xs, Bool.false_eq_true] at hc
  refine wp_scope_straight (wp_mono (Fo hN hm (c := x) hc hI h) ?_)
  rintro e a w ⟨x, s, rfl, hI, hq⟩
  cases x with
  | normal => exact ⟨.normal, s, rfl, hI, hq⟩
  | exit i => exact ⟨.exit i, s, rfl, hI, hq⟩
  | ret => exact ⟨.ret, s, rfl, hI, hq⟩
 | .gh x gs, d, Q, st, a, w, hc, hI, h => by
  have hc' : Xs P N x d = true := by cases d <;> simpa only [Xs] using hc
  refine wp_mono (Fo hN hm (c := x) hc' hI h) ?_
  rintro e a w ⟨x, s, rfl, hI, hq⟩
  cases x with
  | normal => exact ⟨.normal, _, rfl, qAX hI, hq⟩
  | exit i => exact ⟨.exit i, s, rfl, hI, hq⟩
  | ret => exact ⟨.ret, s, rfl, hI, hq⟩
 | .dead, d, Q, st, a, w, hc, hI, h => h.elim
end
end Go.Lg
namespace Go.Lg
open Go
inductive RV where
 | tmp (t : Nat)
 | cell (t n : Nat) (g : Bool)
def q98 (P : Program) : RV → ResultVar → Bool
 | .tmp t, .tmp u => t == u
 | .cell t n g, .cell u ty => t == u && N2 P ty == some n && q0F P ty == some g && (g || n == 1)
 | _, _ => false
def Dz (P : Program) : List RV → List ResultVar → Bool
 | [], [] => true
 | a :: as, b :: bs => q98 P a b && Dz P as bs
 | _, _ => false
def q99 (s : St) : RV → Option (Prop × AV)
 | .tmp t => (A2 s.env t).map fun a => (True, a)
 | .cell t n g => match A2 s.env t with
  | some (.lp id _ k) => match A2 s.hp id with
   | some (.bx cs) => some (k + n ≤ cs.length, W7 g ((cs.drop k).take n))
   | _ => none
  | _ => none
def q4N (s : St) (rv : RV) : Option (Prop × T) := (q99 s rv).bind fun q => (Ag s.hp 4 q.2).map fun t => (q.1, t)
def q04 (s : St) : List RV → Option (Prop × T)
 | [] => some (True, .tup [])
 | [a] => q4N s a
 | [a, b] => (q4N s a).bind fun p => (q4N s b).map fun q => (p.1 ∧ q.1, .tup [p.2, q.2])
 | [a, b, c] => (q4N s a).bind fun p => (q4N s b).bind fun q => (q4N s c).map fun r => (p.1 ∧ q.1 ∧ r.1, .tup [p.2, q.2, r.2])
 | [a, b, c, d] => (q4N s a).bind fun p => (q4N s b).bind fun q => (q4N s c).bind fun r => (q4N s d).map fun u => (p.1 ∧ q.1 ∧ r.1 ∧ u.1, .tup [p.2, q.2, r.2, u.2])
 | _ => none
def As (P : Program) (f : FuncId) (ic : IC) (N n : Nat) (rvs : List RV) : Bool := match P.funcs[f]? with
 | some fn => (match fn.body with | some c => Xs P N ic c | none => false) && !(fn.name == "runtime.NumGoroutine") && fn.ntmps == N && decide (N ≤ 1000000) && decide (n ≤ N) && Dz P rvs fn.results.toList && P.follows .mixedOrders
 | none => false
def params : Nat → List T → List (Nat × AV)
 | _, [] => []
 | k, t :: ts => (k, .t t) :: params (k + 1) ts
theorem q9A {ts : List T} : ∀ {k i : Nat} {a : AV}, A2 (params k ts) i = some a → k ≤ i ∧ ∃ t, ts[i - k]? = some t ∧ a = .t t := by
 induction ts with
 | nil => intro k i a h; simp [params, A2] at h
 | cons t ts ih =>
  intro k i a h
  simp only [params, A2] at h
  split at h
  ·rename_i e; subst e; simp only [Option.some.injEq] at h; subst h; exact ⟨Nat.le_refl _, t, by simp, rfl⟩
  ·obtain ⟨h1, u, h2, h3⟩ := ih h
   refine ⟨by omega, u, ?_, h3⟩
   have : i - k = i - (k + 1) + 1 := by omega
   rw [this]; simpa using h2
def qI9 (rvs : List RV) (res : T) : AX → St → Prop
 | .exit _, _ => False
 | _, s => ∃ c, q04 s rvs = some (c, res) ∧ c
section
variable {P : Program} {Γ : Tables} {w0 : World} {B : Nat} {κ : D3} {X0 X : Nat → Prop} {μ : D3} {st : St} {N : Nat} {a : Act} {w : World} {tm : Array Value}
def q7W (tm : Array Value) : ResultVar → Go.Sem Value
 | .tmp t => pure (tm.getD t undef)
 | .cell a t => do loadVar t (← asAddr (tm.getD a undef))
theorem q5i (h : Bq w0 B κ X μ st tm w) {rv : RV} {r : ResultVar} (hc : q98 P rv r = true) {c : Prop} {x : AV} (hr : q99 st rv = some (c, x)) (hcc : c) : ∃ v, (q7W tm r).run P w = .ok v w ∧ AR w X μ st.sh x v := by
 cases rv with
 | tmp t =>
  cases r <;> simp [q98] at hc
  subst hc
  simp only [q99, Option.map_eq_some_iff, Prod.mk.injEq] at hr
  obtain ⟨b, hb, _, rfl⟩ := hr
  exact ⟨_, rfl, h.env t b hb⟩
 | cell t n g =>
  cases r <;> simp [q98] at hc
  rename_i u ty
  obtain ⟨⟨⟨rfl, hz⟩, ha⟩, hn⟩ := hc
  have hn : (g || n == 1) = true := by simpa using hn
  simp only [q99] at hr
  split at hr
  ·rename_i id i k hl0
   split at hr
   ·rename_i cs hl
    simp only [Option.some.injEq, Prod.mk.injEq] at hr
    obtain ⟨rfl, rfl⟩ := hr
    obtain ⟨gb, m, hm, hp⟩ := (h.env t _ hl0).lp_inv
    rcases hp with ⟨s, q, hs, _⟩ | ⟨hs, rfl, he⟩
    ·rw [F5 hl] at hs; cases hs
    obtain ⟨h1, g', arr, ty', hm', hheap, hsz, hr⟩ := h.reg id _ hl
    rw [hm] at hm'; cases hm'
    have hr : Jb w X μ st.sh cs arr.toList := ⟨by simp [hsz], fun k a x h2 h3 => hr k a x h2 (by simpa using h3)⟩
    have h1 : Cd cs = true := List.all_eq_true.2 fun t ht => by obtain ⟨j, hj, rfl⟩ := List.getElem_of_mem ht; exact h1 j _ (by simp [hj])
    have hlen : ((arr.toList.drop k).take n).length = n := by simp; omega
    refine ⟨if g then .agg ((arr.toList.drop k).take n).toArray else ((arr.toList.drop k).take n).headD undef, ?_, q3F ((hr.drop k).take n) (q1V h1 k n) (by rw [hlen]; exact hn)⟩
    have hrun := Z8 (P := P) (w := w) hz ha hn (b := gb) (off := k) hlen (fun j x hj => by
     rw [List.getElem?_take] at hj
     split at hj
     ·rw [List.getElem?_drop] at hj
      rw [cell_of_row w gb _ arr ty' (0, 0) hheap]; simpa using hj
     ·cases hj)
    have e : q7W tm (.cell t ty) = (Instr.loadAt ty (.pointer (some ⟨gb, k, none⟩))) := by
     simp only [q7W, he, asAddr, Instr.loadAt, Instr.sureAddr]
    rw [e]; exact hrun
   ·cases hr
  ·cases hr
theorem Qr (h : Bq w0 B κ X μ st tm w) {rv : RV} {r : ResultVar} (hc : q98 P rv r = true) {c : Prop} {t : T} (hr : q4N st rv = some (c, t)) (hcc : c) : ∃ v, (q7W tm r).run P w = .ok v w ∧ TR w (fun b => X b ∨ q8B st μ b) t v := by
 simp only [q4N, Option.bind_eq_some_iff, Option.map_eq_some_iff, Prod.mk.injEq] at hr
 obtain ⟨⟨c', x⟩, hq, t', ht, rfl, rfl⟩ := hr
 obtain ⟨v, h1, h2⟩ := q5i h hc hq hcc
 exact ⟨v, h1, q64 h 4 h2 ht⟩
theorem q9B (h : Bq w0 B κ X μ st tm w) {fn : Func} {rvs : List RV} (hc : Dz P rvs fn.results.toList = true) {c : Prop} {res : T} (hr : q04 st rvs = some (c, res)) (hcc : c) :
  ∃ v, (results fn tm).run P w = .ok v w ∧ TR w (fun b => X b ∨ q8B st μ b) res v := by
 have hres : results fn tm = (do let vs ← fn.results.mapM (q7W tm); pure (if h : vs.size = 1 then vs[0] else .tuple vs)) := rfl
 have hfr : fn.results = fn.results.toList.toArray := by simp
 generalize hl : fn.results.toList = l at hc hfr
 match rvs, l, hc with
 | [], [], _ =>
  simp only [q04, Option.some.injEq, Prod.mk.injEq] at hr
  obtain ⟨rfl, rfl⟩ := hr
  exact ⟨.tuple #[], by rw [hres, hfr]; simp, TR.mk_tup (Eh.nil _ _)⟩
 | [a], [x], hc =>
  simp only [Dz, Bool.and_eq_true] at hc
  obtain ⟨v, h1, h2⟩ := Qr h hc.1 hr hcc
  exact ⟨v, by rw [hres, hfr]; simp [h1], h2⟩
 | [a, b], [x, y], hc =>
  simp only [Dz, Bool.and_eq_true] at hc
  simp only [q04, Option.bind_eq_some_iff, Option.map_eq_some_iff, Prod.mk.injEq] at hr
  obtain ⟨p, hp, q, hq, rfl, rfl⟩ := hr
  obtain ⟨v, h1, h2⟩ := Qr h hc.1 hp hcc.1
  obtain ⟨u, h3, h4⟩ := Qr h hc.2.1 hq hcc.2
  exact ⟨.tuple #[v, u], by rw [hres, hfr]; simp [h1, h3], TR.mk_tup (Eh.cons h2 (Eh.cons h4 (Eh.nil _ _)))⟩
 | [a, b, d], [x, y, z], hc =>
  simp only [Dz, Bool.and_eq_true] at hc
  simp only [q04, Option.bind_eq_some_iff, Option.map_eq_some_iff, Prod.mk.injEq] at hr
  obtain ⟨p, hp, q, hq, r, hr, rfl, rfl⟩ := hr
  obtain ⟨v, h1, h2⟩ := Qr h hc.1 hp hcc.1
  obtain ⟨u, h3, h4⟩ := Qr h hc.2.1 hq hcc.2.1
  obtain ⟨z, h5, h6⟩ := Qr h hc.2.2.1 hr hcc.2.2
  exact ⟨.tuple #[v, u, z], by rw [hres, hfr]; simp [h1, h3, h5], TR.mk_tup (Eh.cons h2 (Eh.cons h4 (Eh.cons h6 (Eh.nil _ _))))⟩
 | [a, b, d, e], [x, y, z, u], hc =>
  simp only [Dz, Bool.and_eq_true] at hc
  simp only [q04, Option.bind_eq_some_iff, Option.map_eq_some_iff, Prod.mk.injEq] at hr
  obtain ⟨p, hp, q, hq, r, hr, u, hu, rfl, rfl⟩ := hr
  obtain ⟨v, h1, h2⟩ := Qr h hc.1 hp hcc.1
  obtain ⟨u, h3, h4⟩ := Qr h hc.2.1 hq hcc.2.1
  obtain ⟨z, h5, h6⟩ := Qr h hc.2.2.1 hr hcc.2.2.1
  obtain ⟨y, h7, h8⟩ := Qr h hc.2.2.2.1 hu hcc.2.2.2
  exact ⟨.tuple #[v, u, z, y], by rw [hres, hfr]; simp [h1, h3, h5, h7], TR.mk_tup (Eh.cons h2 (Eh.cons h4 (Eh.cons h6 (Eh.cons h8 (Eh.nil _ _)))))⟩
 | _ :: _ :: _ :: _ :: _ :: _, _, _ => simp [q04] at hr
 | [_, _, _, _], [_], hc => simp [Dz] at hc
 | [_, _, _, _], [_, _], hc => simp [Dz] at hc
 | [_, _, _, _], [_, _, _], hc => simp [Dz] at hc
 | [_, _, _, _], _ :: _ :: _ :: _ :: _ :: _, hc => simp [Dz] at hc
 | [], _ :: _, hc => simp [Dz] at hc
 | _ :: _, [], hc => simp [Dz] at hc
 | [_], _ :: _ :: _, hc => simp [Dz] at hc
 | [_, _], [_], hc => simp [Dz] at hc
 | [_, _], _ :: _ :: _ :: _, hc => simp [Dz] at hc
 | [_, _, _], [_], hc => simp [Dz] at hc
 | [_, _, _], [_, _], hc => simp [Dz] at hc
 | [_, _, _], _ :: _ :: _ :: _ :: _, hc => simp [Dz] at hc
theorem q3P {f : FuncId} {ic : IC} {n : Nat} {rvs : List RV} (hc : As P f ic N n rvs = true) (vs : Array Value) : (callFunc f vs).run P w = .ok (.enter f vs) w := by
 unfold As at hc
 split at hc
 ·rename_i fn hf
  simp only [Bool.and_eq_true, Bool.not_eq_true'] at hc
  obtain ⟨⟨⟨⟨⟨⟨h1, h2⟩, h3⟩, h4⟩, h5⟩, h6⟩, h7⟩ := hc
  cases hb : fn.body with
  | none => rw [hb] at h1; cases h1
  | some c =>
   have h2' : ¬ fn.name = "runtime.NumGoroutine" := by simpa using h2
   simp [callFunc, hf, h2', hb]
 ·cases hc
theorem Inv.start {ts : List T} {vs : List Value} (hg : Gl Γ w X) (hx : ∀ b, X b → b < w.heap.size) (hts : Eh w X ts vs) (hn : vs.length ≤ N) :
  Inv Γ w w.heap.size (fun _ => none) X N ⟨params 0 ts, []⟩ { tmps := vs.toArray ++ Array.replicate (N - vs.toArray.size) undef, defers := [] } w := by
 refine ⟨X, fun _ => none, ⟨?_, fun id r h => by simp [A2] at h, fun _ _ _ _ _ _ _ h => (by cases h), fun _ _ _ _ h => (by cases h), fun _ _ _ => rfl, fun _ _ h => (by cases h), hx, rfl, rfl, rfl, Nat.le_refl _, fun _ _ _ => rfl⟩, hg, fun _ h => h, fun _ h => .inl h, ?_, rfl⟩
 ·intro t a ht
  obtain ⟨_, u, hu, rfl⟩ := q9A ht
  obtain ⟨x, h1, h2⟩ := hts.get hu
  simp only [Nat.sub_zero] at h1
  have hlt : t < vs.length := (List.getElem?_eq_some_iff.1 h1).1
  have : (vs.toArray ++ Array.replicate (N - vs.toArray.size) undef).getD t undef = x := by
   rw [Array.getD_eq_getD_getElem?, Array.getElem?_append_left (by simpa using hlt)]
   simp [h1]
  rw [this]; exact .t _ _ h2
 ·simp; omega
theorem qAY {f : FuncId} {ic : IC} {n : Nat} {rvs : List RV} {args : List T} {res : T} (hc : As P f ic N n rvs = true) (hn : args.length = n) (h : awp P Γ ic (qI9 rvs res) ⟨params 0 args, []⟩) : Ae P Γ f args res := by
 intro w X vs hg hx hts
 refine .inl ⟨q3P hc _, ?_⟩
 unfold As at hc
 split at hc
 case h_2 => cases hc
 rename_i fn hf
 simp only [Bool.and_eq_true, Bool.not_eq_true', decide_eq_true_eq, beq_iff_eq] at hc
 obtain ⟨⟨⟨⟨⟨⟨h1, h2⟩, h3⟩, h4⟩, h5⟩, h6⟩, h7⟩ := hc
 cases hb : fn.body with
 | none => rw [hb] at h1; cases h1
 | some c =>
  rw [hb] at h1
  subst h3
  refine calls_of_wp hf hb ?_
  have hI := Inv.start (N := fn.ntmps) hg hx hts (by rw [← hts.1, hn]; exact h5)
  refine wp_mono (Fo h4 h7 h1 hI h) ?_
  rintro e a w' ⟨x, s, rfl, ⟨X', μ, hsim, hg', h0, hbd, hsz, hds⟩, hq⟩
  have fin : ∀ c, q04 s rvs = some (c, res) → c → a.defers = [] ∧ ∃ v, (results fn a.tmps).run P w' = .ok v w' ∧ ∃ u, Ending.returned v = .returned u ∧ RowKit.Below w.heap.size w w' ∧ TR w' (fun b => X b ∨ (w.heap.size ≤ b ∧ b < w'.heap.size)) res u := by
   intro c hr hcc
   obtain ⟨v, h8, h9⟩ := q9B hsim h6 hr hcc
   refine ⟨hds, v, h8, v, rfl, ⟨hsim.os, hsim.tape, hsim.output, hsim.size, fun k hk => hsim.fr k hk (fun id n h => by cases h)⟩, h9.mono (fun _ _ => rfl) fun b hb => ?_⟩
   rcases hb with hb | ⟨id, n, hi, hm⟩
   ·rcases hbd b hb with h | h | ⟨_, _, h⟩
    ·exact .inl h
    ·exact .inr ⟨h, hsim.xlt b hb⟩
    ·cases h
   ·obtain ⟨_, h10, h11⟩ := hsim.loc id b n hi hm
    refine .inr ⟨?_, h10⟩
    rcases Nat.lt_or_ge b w.heap.size with h | h
    ·obtain ⟨_, _, h⟩ := h11 h; cases h
    ·exact h
  cases x with
  | normal => obtain ⟨c, hr, hcc⟩ := hq; exact fin c hr hcc
  | ret => obtain ⟨c, hr, hcc⟩ := hq; exact fin c hr hcc
  | exit i => exact hq.elim
def F8 : AV → Prop
 | .t x => Am x = true
 | .ag cs => ∀ c ∈ cs, match c with
  | .t x => Am x = true
  | .fn _ cs => cs = []
  | _ => True
 | .fn _ cs => cs = []
 | .tu cs => ∀ c ∈ cs, match c with
  | .t x => Am x = true
  | .fn _ cs => cs = []
  | _ => True
 | _ => True
def Qs : B0 → Prop
 | .sl _ _ es => ∀ e ∈ es, ∀ t ∈ e, Am t = true
 | .bx cs => ∀ c ∈ cs, F8 c
 | .mp es => ∀ e ∈ es, Am e.2 = true
 | .it _ _ => True
def F9 {α : Type} (p : α → Prop) : List (Nat × α) → Prop
 | [] => True
 | x :: l => p x.2 ∧ F9 p l
theorem q2k {α : Type} {p : α → Prop} : ∀ {l : List (Nat × α)} {t : Nat} {a : α}, F9 p l → A2 l t = some a → p a
 | [], _, _, _, h => by simp [A2] at h
 | (k, v) :: l, t, a, h, hl => by
  simp only [A2] at hl
  split at hl
  ·simp only [Option.some.injEq] at hl; subst hl; exact h.1
  ·exact q2k h.2 hl
def D7 (s : St) : Prop := F9 F8 s.env ∧ F9 Qs s.hp
theorem q9C {sh : Nat → Option Sh} {a : AV} {x : Value} {Y : Nat → Prop} (h : AR w X μ sh a x) (hf : F8 a) : AR w Y μ sh a x := by
 have key : ∀ {c : AV} {y : Value}, AR w X μ sh c y → C7 c = true → (match c with | .t x => Am x = true | .fn _ cs => cs = [] | _ => True) → AR w Y μ sh c y := by
  intro c y h hna hf
  cases h with
  | t y v hy => exact .t _ _ (q63 hy hf)
  | fn f cs xs hlen hrel => simp only at hf; subst hf; exact .fn f [] xs hlen (fun k a x h => by simp at h)
  | ag => simp [C7] at hna
  | tu => simp [C7] at hna
  | lsnil i s n hs hm oa cap hq => exact .lsnil i s n hs hm oa cap hq
  | ls i off len s n g m c cap hs hm hle hlc hcm hfit hfull hq ad had => exact .ls i off len s n g m c cap hs hm hle hlc hcm hfit hfull hq ad had
  | lpsl i j k s n g m hs hm => exact .lpsl i j k s n g m hs hm
  | lpbx i k g m hs hm => exact .lpbx i k g m hs hm
  | lm i g m hs hm => exact .lm i g m hs hm
  | lb i g m hs hm hle => exact .lb i g m hs hm hle
  | li i g m hs hm => exact .li i g m hs hm
  | dead v h => exact .dead _ h
  | un => exact .un
 by_cases hg : C7 a = true
 ·refine key h hg ?_
  cases a <;> first | exact hf | exact True.intro | simp [C7] at hg
 ·cases a with
  | ag cs =>
   obtain ⟨xs, rfl, h1, hr⟩ := h.ag_inv
   exact AR.mk_ag h1 ⟨hr.1, fun k c y hc hy => key (hr.2 k c y hc hy) (q1S (Um h1 hc)) (hf c (List.mem_of_getElem? hc))⟩
  | tu cs =>
   obtain ⟨xs, rfl, h1, hr⟩ := h.tu_inv
   exact AR.mk_tu h1 ⟨hr.1, fun k c y hc hy => key (hr.2 k c y hc hy) (h1 k c hc) (hf c (List.mem_of_getElem? hc))⟩
  | _ => exact absurd rfl hg
theorem Bq.flat (h : Bq w0 B κ X μ st tm w) (hf : D7 st) : Bq w0 B κ (fun _ => False) μ st tm w := by
 refine ⟨fun t a ht => q9C (h.env t a ht) (q2k hf.1 ht), ?_, h.inj, fun id g n hi hm => ⟨fun h => h, (h.loc id g n hi hm).2⟩, h.kap, h.kbig, fun _ h => h.elim, h.os, h.tape, h.output, h.size, h.fr⟩
 intro id r hr
 have hfr := q2k hf.2 hr
 have := h.reg id r hr
 cases r with
 | sl ty s es =>
  refine ⟨this.1, this.2.imp (fun h => h) fun ⟨g, arr, hm, hg, hle, hr⟩ => ⟨g, arr, hm, hg, hle, fun i k e t x h1 h2 h3 => q63 (hr i k e t x h1 h2 h3) (hfr e (List.mem_of_getElem? h1) t (List.mem_of_getElem? h2))⟩⟩
 | it s pos => exact this
 | mp es =>
  obtain ⟨g, n, clock, ms, hm, hg, hle, hr⟩ := this
  exact ⟨g, n, clock, ms, hm, hg, hle, fun i e m h1 h2 => ⟨(hr i e m h1 h2).1, q63 (hr i e m h1 h2).2 (hfr e (List.mem_of_getElem? h1))⟩⟩
 | bx cs =>
  obtain ⟨h1, g, arr, ty, hm, hg, hle, hr⟩ := this
  exact ⟨h1, g, arr, ty, hm, hg, hle, fun k a x ha hx => q9C (hr k a x ha hx) (hfr a (List.mem_of_getElem? ha))⟩
def qFN (rvs : List RV) (res : T) : AX → St → Prop
 | .exit _, _ => False
 | _, s => ∃ c, q04 s rvs = some (c, res) ∧ c ∧ D7 s
theorem q9D {f : FuncId} {ic : IC} {n : Nat} {rvs : List RV} {args : List T} {res : T} (hc : As P f ic N n rvs = true) (hn : args.length = n) (h : awp P Γ ic (qFN rvs res) ⟨params 0 args, []⟩) : A3 P Γ f args res := by
 intro w X vs hg hx hts
 refine .inl ⟨q3P hc _, ?_⟩
 unfold As at hc
 split at hc
 case h_2 => cases hc
 rename_i fn hf
 simp only [Bool.and_eq_true, Bool.not_eq_true', decide_eq_true_eq, beq_iff_eq] at hc
 obtain ⟨⟨⟨⟨⟨⟨h1, h2⟩, h3⟩, h4⟩, h5⟩, h6⟩, h7⟩ := hc
 cases hb : fn.body with
 | none => rw [hb] at h1; cases h1
 | some c =>
  rw [hb] at h1
  subst h3
  refine calls_of_wp hf hb ?_
  have hI := Inv.start (N := fn.ntmps) hg hx hts (by rw [← hts.1, hn]; exact h5)
  refine wp_mono (Fo h4 h7 h1 hI h) ?_
  rintro e a w' ⟨x, s, rfl, ⟨X', μ, hsim, hg', h0, hbd, hsz, hds⟩, hq⟩
  have fin : ∀ c, q04 s rvs = some (c, res) → c → D7 s → a.defers = [] ∧ ∃ v, (results fn a.tmps).run P w' = .ok v w' ∧ ∃ u, Ending.returned v = .returned u ∧ RowKit.Below w.heap.size w w' ∧ TR w' (fun b => w.heap.size ≤ b ∧ b < w'.heap.size) res u := by
   intro c hr hcc hfl
   obtain ⟨v, h8, h9⟩ := q9B (hsim.flat hfl) h6 hr hcc
   refine ⟨hds, v, h8, v, rfl, ⟨hsim.os, hsim.tape, hsim.output, hsim.size, fun k hk => hsim.fr k hk (fun id n h => by cases h)⟩, h9.mono (fun _ _ => rfl) fun b hb => ?_⟩
   rcases hb with hb | ⟨id, n, hi, hm⟩
   ·exact hb.elim
   ·obtain ⟨_, h10, h11⟩ := hsim.loc id b n hi hm
    refine ⟨?_, h10⟩
    rcases Nat.lt_or_ge b w.heap.size with h | h
    ·obtain ⟨_, _, h⟩ := h11 h; cases h
    ·exact h
  cases x with
  | normal => obtain ⟨c, hr, hcc, hfl⟩ := hq; exact fin c hr hcc hfl
  | ret => obtain ⟨c, hr, hcc, hfl⟩ := hq; exact fin c hr hcc hfl
  | exit i => exact hq.elim
def q8F : Nat → List AV → List (Nat × AV)
 | _, [] => []
 | k, a :: as => (k, a) :: q8F (k + 1) as
theorem qCJ {ts : List AV} : ∀ {k i : Nat} {a : AV}, A2 (q8F k ts) i = some a → k ≤ i ∧ ts[i - k]? = some a := by
 induction ts with
 | nil => intro k i a h; simp [q8F, A2] at h
 | cons t ts ih =>
  intro k i a h
  simp only [q8F, A2] at h
  split at h
  ·rename_i e; subst e; simp only [Option.some.injEq] at h; subst h; exact ⟨Nat.le_refl _, by simp⟩
  ·obtain ⟨h1, h2⟩ := ih h
   refine ⟨by omega, ?_⟩
   have : i - k = i - (k + 1) + 1 := by omega
   rw [this]; simpa using h2
def toN (a : AV) : AV := match toT a with
 | some x => .t x
 | none => a
theorem qDH {Y : Nat → Prop} {μ : D3} {sh : Nat → Option Sh} {w : World} {p : AV} {v : Value} (hp : AR w Y μ sh p v) : AR w Y μ sh (toN p) v := by
 unfold toN
 split
 ·rename_i x hx; exact .t _ _ (q61 hp hx)
 ·exact hp
def qEm (p q : AV) : Option AV := match toT p, toT q with
 | some x, some y => some (.t (.tup [x, y]))
 | _, _ => if C7 (toN p) && C7 (toN q) then some (.tu [toN p, toN q]) else none
theorem qEn {Y : Nat → Prop} {μ : D3} {sh : Nat → Option Sh} {w : World} {p q r : AV} {v u : Value} (hp : AR w Y μ sh p v) (hq : AR w Y μ sh q u) (hr : qEm p q = some r) : AR w Y μ sh r (.tuple #[v, u]) := by
 unfold qEm at hr
 split at hr
 ·rename_i x y hx hy
  simp only [Option.some.injEq] at hr; subst hr
  exact .t _ _ (TR.mk_tup (Eh.cons (q61 hp hx) (Eh.cons (q61 hq hy) (Eh.nil _ _))))
 ·split at hr
  ·rename_i h
   simp only [Bool.and_eq_true] at h
   simp only [Option.some.injEq] at hr; subst hr
   refine AR.mk_tu (cs := [toN p, toN q]) (xs := [v, u]) (fun k a ha => ?_) ⟨rfl, fun k a x ha hx => ?_⟩
   ·rcases k with _ | _ | k
    ·simp at ha; subst ha; exact h.1
    ·simp at ha; subst ha; exact h.2
    ·simp at ha
   ·rcases k with _ | _ | k
    ·simp at ha hx; subst ha; subst hx; exact qDH hp
    ·simp at ha hx; subst ha; subst hx; exact qDH hq
    ·simp at ha
  ·cases hr
def q76 (s : St) : List RV → Option (Prop × AV)
 | [] => some (True, .t (.tup []))
 | [a] => q99 s a
 | [a, b] => (q99 s a).bind fun p => (q99 s b).bind fun q => (qEm p.2 q.2).map fun r => (p.1 ∧ q.1, r)
 | _ => none
def qFO (rvs : List RV) (res : AV) (hp' : List (Nat × B0)) : AX → St → Prop
 | .exit _, _ => False
 | _, s => ∃ c, q76 s rvs = some (c, res) ∧ c ∧ s.hp = hp'
theorem qEo (h : Bq w0 B κ X μ st tm w) {fn : Func} {rvs : List RV} (hc : Dz P rvs fn.results.toList = true) {c : Prop} {res : AV} (hr : q76 st rvs = some (c, res)) (hcc : c) :
  ∃ v, (results fn tm).run P w = .ok v w ∧ AR w X μ st.sh res v := by
 have hres : results fn tm = (do let vs ← fn.results.mapM (q7W tm); pure (if h : vs.size = 1 then vs[0] else .tuple vs)) := rfl
 have hfr : fn.results = fn.results.toList.toArray := by simp
 generalize hl : fn.results.toList = l at hc hfr
 match rvs, l, hc with
 | [], [], _ =>
  simp only [q76, Option.some.injEq, Prod.mk.injEq] at hr
  obtain ⟨rfl, rfl⟩ := hr
  exact ⟨.tuple #[], by rw [hres, hfr]; simp, .t _ _ (TR.mk_tup (Eh.nil _ _))⟩
 | [a], [x], hc =>
  simp only [Dz, Bool.and_eq_true] at hc
  obtain ⟨v, h1, h2⟩ := q5i h hc.1 hr hcc
  exact ⟨v, by rw [hres, hfr]; simp [h1], h2⟩
 | [a, b], [x, y], hc =>
  simp only [Dz, Bool.and_eq_true] at hc
  simp only [q76, Option.bind_eq_some_iff, Option.map_eq_some_iff, Prod.mk.injEq] at hr
  obtain ⟨p, hp, q, hq, r', hr', rfl, rfl⟩ := hr
  obtain ⟨v, h1, h2⟩ := q5i h hc.1 hp hcc.1
  obtain ⟨u, h3, h4⟩ := q5i h hc.2.1 hq hcc.2
  exact ⟨.tuple #[v, u], by rw [hres, hfr]; simp [h1, h3], qEn h2 h4 hr'⟩
 | _ :: _ :: _ :: _, _, _ => simp [q76] at hr
 | [], _ :: _, hc => simp [Dz] at hc
 | _ :: _, [], hc => simp [Dz] at hc
 | [_], _ :: _ :: _, hc => simp [Dz] at hc
 | [_, _], [_], hc => simp [Dz] at hc
 | [_, _], _ :: _ :: _ :: _, hc => simp [Dz] at hc
theorem qEp {f : FuncId} {ic : IC} {n : Nat} {rvs : List RV} {args : List AV} {hp hp' : List (Nat × B0)} {res : AV} (hc : As P f ic N n rvs = true) (hn : args.length = n) (h : awp P Γ ic (qFO rvs res hp') ⟨q8F 0 args, hp⟩) : Ge P Γ f hp args res hp' := by
 intro w X κ vs hg hk hs hts
 refine .inl ⟨q3P hc _, ?_⟩
 unfold As at hc
 split at hc
 case h_2 => cases hc
 rename_i fn hf
 simp only [Bool.and_eq_true, Bool.not_eq_true', decide_eq_true_eq, beq_iff_eq] at hc
 obtain ⟨⟨⟨⟨⟨⟨h1, h2⟩, h3⟩, h4⟩, h5⟩, h6⟩, h7⟩ := hc
 cases hb : fn.body with
 | none => rw [hb] at h1; cases h1
 | some c =>
  rw [hb] at h1
  subst h3
  refine calls_of_wp hf hb ?_
  have hlen : vs.length ≤ fn.ntmps := by rw [← hts.1, hn]; exact h5
  have hI : Inv Γ w w.heap.size κ X fn.ntmps ⟨q8F 0 args, hp⟩ { tmps := vs.toArray ++ Array.replicate (fn.ntmps - vs.toArray.size) undef, defers := [] } w := by
   refine ⟨X, κ, ⟨?_, hs.reg, hs.inj, hs.loc, hs.kap, hs.kbig, hs.xlt, rfl, rfl, rfl, Nat.le_refl _, fun _ _ _ => rfl⟩, hg, fun _ h => h, fun _ h => .inl h, ?_, rfl⟩
   ·intro t a ht
    obtain ⟨_, hu⟩ := qCJ ht
    obtain ⟨x, h1, h2⟩ := hts.get hu
    simp only [Nat.sub_zero] at h1
    have hlt : t < vs.length := (List.getElem?_eq_some_iff.1 h1).1
    have : (vs.toArray ++ Array.replicate (fn.ntmps - vs.toArray.size) undef).getD t undef = x := by
     rw [Array.getD_eq_getD_getElem?, Array.getElem?_append_left (by simpa using hlt)]
     simp [h1]
    rw [this]; exact h2
   ·simp; omega
  refine wp_mono (Fo h4 h7 h1 hI h) ?_
  rintro e a w' ⟨x, s, rfl, ⟨X', μ', hsim, hg', h0, hbd, hsz, hds⟩, hq⟩
  have fin : ∀ c, q76 s rvs = some (c, res) → c → s.hp = hp' → a.defers = [] ∧ ∃ v, (results fn a.tmps).run P w' = .ok v w' ∧ ∃ u, Ending.returned v = .returned u ∧
    ∃ X' μ', Bq w w.heap.size κ X' μ' ⟨[], hp'⟩ #[] w' ∧ AR w' X' μ' (St.sh ⟨[], hp'⟩) res u ∧ (∀ b, X b → X' b) ∧ (∀ b, X' b → X b ∨ w.heap.size ≤ b ∨ ∃ id n, κ id = some (b, n)) := by
   intro c hr hcc hh
   obtain ⟨v, h8, h9⟩ := qEo hsim h6 hr hcc
   subst hh
   exact ⟨hds, v, h8, v, rfl, X', μ', ⟨fun t a ht => by simp [A2] at ht, hsim.reg, hsim.inj, hsim.loc, hsim.kap, hsim.kbig, hsim.xlt, hsim.os, hsim.tape, hsim.output, hsim.size, hsim.fr⟩, h9, h0, hbd⟩
  cases x with
  | normal => obtain ⟨c, hr, hcc, hh⟩ := hq; exact fin c hr hcc hh
  | ret => obtain ⟨c, hr, hcc, hh⟩ := hq; exact fin c hr hcc hh
  | exit i => exact hq.elim
end
end Go.Lg
namespace Go.Lg
open Go
def sV (l : List UInt8) : Value := .string ⟨l.toArray⟩
structure Tag {α : Sort _} (a : α) : Type where
def B6 (A : Prop) (_ : Tag A) : Prop := A
def E5 (x : Option (Prop × AV × St)) (K : AV → St → Prop) (_ : Tag K) : Prop := match x with
 | some (c, r, st1) => c ∧ K r st1
 | none => False
def asK (x : Option (List AV)) (K : List AV → Prop) (_ : Tag K) : Prop := match x with
 | some as => K as
 | none => False
def fnK (x : Option (FuncId × List AV)) (K : FuncId → List AV → Prop) (_ : Tag K) : Prop := match x with
 | some p => K p.1 p.2
 | none => False
def q4v (x : Option AV) (A B : Prop) (_ : Tag A) (_ : Tag B) : Prop := match x with
 | some (.t (.v (.bool t))) => (t = true → A) ∧ (t = false → B)
 | _ => False
def q3Q (P : Program) (Γ : Tables) (hp : List (Nat × B0)) (f : FuncId) (as : List AV) (K : T → Prop) (_ : Tag K) : Prop := ∃ res, q2f P Γ hp f as res ∧ K res
def qDI (P : Program) (Γ : Tables) (st : St) (f : FuncId) (rs : List Nat) (base : Nat) (hp : List (Nat × B0)) (as : List AV) (K : AV → St → Prop) (_ : Tag K) : Prop :=
 ∃ res hp', Ge P Γ f hp as res hp' ∧ okB rs base st.hp hp' ∧ K (Bm (fun i => some (bwd rs base i)) res) (N6 rs base hp' st)
def qDJ (P : Program) (Γ : Tables) (st : St) (f : FuncId) (base : Nat) (as : List AV) (K : AV → St → Prop) (_ : Tag K) : Prop :=
 ∃ res hp', Ge P Γ f [] as res hp' ∧ okB [] base st.hp hp' ∧ K (Bm (fun i => some (bwd [] base i)) res) ⟨st.env, Ko [] base hp' ++ st.hp⟩
def qAZ (P : Program) (Γ : Tables) (f : FuncId) (as : List AV) (K : T → Prop) (_ : Tag K) : Prop := ∃ ts res, Ak (as.map toT) = some ts ∧ (Ae P Γ f ts res ∨ A3 P Γ f ts res) ∧ K res
def qDK (P : Program) (Γ : Tables) (st : St) (f : FuncId) (rs : List Nat) (hp : List (Nat × B0)) (as : List AV) (K : AV → St → Prop) (_ : Tag K) : Prop :=
 ∃ res, Ge P Γ f hp as res hp ∧ K (Bm (fun i => some (bwd rs 0 i)) res) st
def Az (P : Program) (Γ : Tables) (d : Nat) (io : Cf) (st : St) (K : AV → St → Prop) : Prop := match io with
 | .call f args => asK (evs Γ st.env args) (fun as => q3Q P Γ st.hp f as (fun res => K (.t res) st) ⟨⟩) ⟨⟩
 | .callv x args => fnK ((ev Γ st.env x).bind qD4) (fun f cs => asK (evs Γ st.env args) (fun as => q3Q P Γ st.hp f (as ++ cs) (fun res => K (.t res) st) ⟨⟩) ⟨⟩) ⟨⟩
 | .hcall f args rs base => asK (evs Γ st.env args) (fun as => rs.Nodup ∧ qDI P Γ st f rs base (Hm rs st.hp) (as.map (Bm (fwd rs))) K ⟨⟩) ⟨⟩
 | .ncall f args base => asK (evs Γ st.env args) (fun as => qDJ P Γ st f base (as.map (Bm (fwd []))) K ⟨⟩) ⟨⟩
 | .callT f args => asK (evs Γ st.env args) (fun as => qAZ P Γ f as (fun res => K (.t res) st) ⟨⟩) ⟨⟩
 | .rcall f args rs => asK (evs Γ st.env args) (fun as => rs.Nodup ∧ (∀ i ∈ rs, ∃ ty s es, A2 st.hp i = some (.sl ty s es)) ∧ qDK P Γ st f rs (Hm rs st.hp) (as.map (Bm (fwd rs))) K ⟨⟩) ⟨⟩
 | io => E5 (Aj Γ d io st) K ⟨⟩
def q6E (x : Option Bool) (A B : Prop) (_ : Tag A) (_ : Tag B) : Prop := match x with
 | some true => A
 | some false => B
 | none => False
def qFP (P : Program) (Γ : Tables) (ro : RO) (st : St) (K : St → Prop) : Prop := q6E (H7 st.env ro.guard) (Az P Γ ro.d ro.op st fun r st1 => K (st1.put ro.dst r)) (K (st.put ro.dst .un)) ⟨⟩ ⟨⟩
def Gf (P : Program) (Γ : Tables) : (ros : List RO) → (st : St) → (K : St → Prop) → Tag K → Prop
 | [], st, K, _ => K st
 | ro :: ros, st, K, t => qFP P Γ ro st fun st1 => Gf P Γ ros st1 K t
theorem qDL {P : Program} {Γ : Tables} {d : Nat} {io : Cf} {st : St} {K : AV → St → Prop} (h : Az P Γ d io st K) : ∃ r st1, F6 P Γ d io st r st1 ∧ K r st1 := by
 have gen : E5 (Aj Γ d io st) K ⟨⟩ → ∃ r st1, (∃ c, Aj Γ d io st = some (c, r, st1) ∧ c) ∧ K r st1 := by
  intro h
  unfold E5 at h
  split at h
  ·rename_i c r st1 hs; exact ⟨r, st1, ⟨c, hs, h.1⟩, h.2⟩
  ·exact h.elim
 cases io with
 | call f args =>
  simp only [Az, asK] at h
  split at h
  ·rename_i as has; obtain ⟨res, h1, h2⟩ := h; exact ⟨_, _, ⟨as, res, has, h1, rfl, rfl⟩, h2⟩
  ·exact h.elim
 | callv x args =>
  simp only [Az, fnK] at h
  split at h
  ·rename_i p hp
   obtain ⟨a, ha, hf⟩ := Option.bind_eq_some_iff.1 hp
   simp only [asK] at h
   split at h
   ·rename_i as has; obtain ⟨res, h1, h2⟩ := h; exact ⟨_, _, ⟨a, p.1, p.2, as, res, ha, hf, has, h1, rfl, rfl⟩, h2⟩
   ·exact h.elim
  ·exact h.elim
 | hcall f args rs base =>
  simp only [Az, asK] at h
  split at h
  ·rename_i as has; obtain ⟨hnd, res, hp', h1, h2, h3⟩ := h; exact ⟨_, _, ⟨as, res, hp', has, hnd, h1, h2, rfl, rfl⟩, h3⟩
  ·exact h.elim
 | ncall f args base =>
  simp only [Az, asK] at h
  split at h
  ·rename_i as has; obtain ⟨res, hp', h1, h2, h3⟩ := h; exact ⟨_, _, ⟨as, res, hp', has, h1, h2, rfl, rfl⟩, h3⟩
  ·exact h.elim
 | callT f args =>
  simp only [Az, asK] at h
  split at h
  ·rename_i as has; obtain ⟨ts, res, h1, h2, h3⟩ := h; exact ⟨_, _, ⟨as, ts, res, has, h1, h2, rfl, rfl⟩, h3⟩
  ·exact h.elim
 | rcall f args rs =>
  simp only [Az, asK] at h
  split at h
  ·rename_i as has; obtain ⟨hnd, hsl, res, h1, h2⟩ := h; exact ⟨_, _, ⟨as, res, has, hnd, hsl, h1, rfl, rfl⟩, h2⟩
  ·exact h.elim
 | _ => exact gen h
theorem q4O {P : Program} {Γ : Tables} : ∀ {ros : List RO} {st : St} {K : St → Prop}, Gf P Γ ros st K ⟨⟩ → ∃ s1, O0 P Γ ros st s1 ∧ K s1
 | [], st, K, h => ⟨st, rfl, h⟩
 | ro :: ros, st, K, h => by
  simp only [Gf, qFP, q6E] at h
  split at h
  ·rename_i hw
   obtain ⟨r, st1, h1, h2⟩ := qDL h
   obtain ⟨s1, h3, h4⟩ := q4O (ros := ros) h2
   exact ⟨s1, ⟨_, .inl ⟨hw, r, st1, h1, rfl⟩, h3⟩, h4⟩
  ·rename_i hw
   obtain ⟨s1, h3, h4⟩ := q4O (ros := ros) h
   exact ⟨s1, ⟨_, .inr ⟨hw, rfl⟩, h3⟩, h4⟩
  ·exact h.elim
def ghs (gs : List Gh) (s : St) : St := gs.foldl (fun s g => g.run s) s
def run (P : Program) (Γ : Tables) : IC → (AX → St → Prop) → St → Prop
 | .skip, Q, s => Q .normal s
 | .reg ros gs, Q, s => Gf P Γ ros s (fun s1 => Q .normal (ghs gs s1)) ⟨⟩
 | .seq a b, Q, s => run P Γ a (Aq (run P Γ b Q) Q) s
 | .cond c a b, Q, s => q4v (ev Γ s.env c) (run P Γ a Q s) (run P Γ b Q s) ⟨⟩ ⟨⟩
 | .block id a, Q, s => run P Γ a (Kv id Q) s
 | .loop a, Q, s => awp P Γ (.loop a) Q s
 | .exit i, Q, s => Q (.exit i) s
 | .ret, Q, s => Q .ret s
 | .scope a, Q, s => run P Γ a Q s
 | .gh a gs, Q, s => run P Γ a (Aq (fun s => Q .normal (ghs gs s)) Q) s
 | .dead, _, _ => False
theorem O1 {P : Program} {Γ : Tables} : ∀ {c : IC} {Q : AX → St → Prop} {s : St}, run P Γ c Q s → awp P Γ c Q s
 | .skip, _, _, h => h
 | .reg ros gs, _, _, h => q4O h
 | .seq a b, Q, s, h => Bg (c := a) (O1 (c := a) h) fun e s h => by
  cases e with
  | normal => exact O1 (c := b) h
  | exit i => exact h
  | ret => exact h
 | .cond c a b, Q, s, h => by
  simp only [run, q4v] at h
  split at h
  ·rename_i t ht; exact ⟨t, ht, fun e => O1 (c := a) (h.1 e), fun e => O1 (c := b) (h.2 e)⟩
  ·exact h.elim
 | .block id a, Q, s, h => O1 (c := a) h
 | .loop a, Q, s, h => h
 | .exit _, _, _, h => h
 | .ret, _, _, h => h
 | .scope a, Q, s, h => O1 (c := a) h
 | .gh a gs, Q, s, h => Bg (c := a) (O1 (c := a) h) fun e s h => by
  cases e with
  | normal => exact h
  | exit i => exact h
  | ret => exact h
 | .dead, _, _, h => h.elim
def ret (fl : Bool) (rvs : List RV) (R : T → Prop) : AX → St → Prop
 | .exit _, _ => False
 | .normal, s | .ret, s => (match q04 s rvs with | some (c, r) => c ∧ R r | none => False) ∧ (fl = true → D7 s)
theorem qFQ {rvs : List RV} {R : T → Prop} {e : AX} {s : St} {fl : Bool} (h : ret fl rvs R e s) : ∃ res, R res ∧ (if fl then qFN rvs res e s else qI9 rvs res e s) := by
 cases e with
 | exit i => exact h.elim
 | normal =>
  obtain ⟨h, hf⟩ := h
  split at h
  ·rename_i c r hr
   refine ⟨r, h.2, ?_⟩
   cases fl
   ·exact ⟨c, hr, h.1⟩
   ·exact ⟨c, hr, h.1, hf rfl⟩
  ·exact h.elim
 | ret =>
  obtain ⟨h, hf⟩ := h
  split at h
  ·rename_i c r hr
   refine ⟨r, h.2, ?_⟩
   cases fl
   ·exact ⟨c, hr, h.1⟩
   ·exact ⟨c, hr, h.1, hf rfl⟩
  ·exact h.elim
theorem run_pure {P : Program} {Γ : Tables} {f : FuncId} {ic : IC} {N n : Nat} {rvs : List RV} {args : List T} {R : T → Prop} (hc : As P f ic N n rvs = true) (hn : args.length = n) (h : run P Γ ic (ret false rvs R) ⟨params 0 args, []⟩) : ∃ res, Ae P Γ f args res ∧ R res := by
 obtain ⟨e, s, h1, h2⟩ := I7 (O1 h)
 obtain ⟨res, hR, hq⟩ := qFQ h1
 exact ⟨res, qAY hc hn (Bg h2 fun e s ⟨he, hs⟩ => by subst he; subst hs; exact hq), hR⟩
theorem q7X {P : Program} {Γ : Tables} {f : FuncId} {ic : IC} {N n : Nat} {rvs : List RV} {args : List T} {R : T → Prop} (hc : As P f ic N n rvs = true) (hn : args.length = n) (h : run P Γ ic (ret true rvs R) ⟨params 0 args, []⟩) : ∃ res, A3 P Γ f args res ∧ R res := by
 obtain ⟨e, s, h1, h2⟩ := I7 (O1 h)
 obtain ⟨res, hR, hq⟩ := qFQ h1
 exact ⟨res, q9D hc hn (Bg h2 fun e s ⟨he, hs⟩ => by subst he; subst hs; exact hq), hR⟩
def qCK (rvs : List RV) (R : AV → List (Nat × B0) → Prop) : AX → St → Prop
 | .exit _, _ => False
 | .normal, s | .ret, s => match q76 s rvs with | some (c, r) => c ∧ R r s.hp | none => False
theorem qGH {rvs : List RV} {R : AV → List (Nat × B0) → Prop} {e : AX} {s : St} (h : qCK rvs R e s) : ∃ res hp', R res hp' ∧ qFO rvs res hp' e s := by
 have key : ∀ s : St, (match q76 s rvs with | some (c, r) => c ∧ R r s.hp | none => False) → ∃ res hp', R res hp' ∧ ∃ c, q76 s rvs = some (c, res) ∧ c ∧ s.hp = hp' := by
  intro s h
  split at h
  ·rename_i c r hr; exact ⟨r, s.hp, h.2, c, hr, h.1, rfl⟩
  ·exact h.elim
 cases e with
 | exit i => exact h.elim
 | normal => exact key s h
 | ret => exact key s h
theorem qDM {P : Program} {Γ : Tables} {f : FuncId} {ic : IC} {N n : Nat} {rvs : List RV} {hp : List (Nat × B0)} {args : List AV} {R : AV → List (Nat × B0) → Prop} (hc : As P f ic N n rvs = true) (hn : args.length = n) (h : run P Γ ic (qCK rvs R) ⟨q8F 0 args, hp⟩) :
  ∃ res hp', Ge P Γ f hp args res hp' ∧ R res hp' := by
 obtain ⟨e, s, h1, h2⟩ := I7 (O1 h)
 obtain ⟨res, hp', hR, hq⟩ := qGH h1
 exact ⟨res, hp', qEp hc hn (Bg h2 fun e s ⟨he, hs⟩ => by subst he; subst hs; exact hq), hR⟩
theorem A4 {n : Int} (h1 : -9223372036854775808 ≤ n) (h2 : n ≤ 9223372036854775807) : IntKind.i64.wrap n = n := by
 simp [IntKind.wrap, IntKind.signed, IntKind.bits]
 split <;> omega
theorem B7 {n : Int} (h1 : 0 ≤ n) (h2 : n ≤ 255) : IntKind.u8.wrap n = n := by
 simp [IntKind.wrap, IntKind.signed, IntKind.bits]
 omega
section
variable {P : Program} {Γ : Tables} {Q Q' : AX → St → Prop} {s s' : St} {hp hp' : List (Nat × B0)}
theorem Ac {a : IC} (h : ∀ K : St → Prop, K = run P Γ (.loop a) Q → run P Γ a (Aq K Q) s) : run P Γ (.loop a) Q s := qDG (O1 (h _ rfl))
@[simp ↓] theorem qIn {a b : IC} : run P Γ (.seq a b) Q s = run P Γ a (Aq (run P Γ b Q) Q) s := Eq.trans rfl rfl
@[simp ↓] theorem qIo {ros : List RO} {gs : List Gh} : run P Γ (.reg ros gs) Q s = Gf P Γ ros s (fun s1 => Q .normal (ghs gs s1)) ⟨⟩ := Eq.trans rfl rfl
@[simp ↓] theorem qIA {c : Operand} {a b : IC} : run P Γ (.cond c a b) Q s = q4v (ev Γ s.env c) (run P Γ a Q s) (run P Γ b Q s) ⟨⟩ ⟨⟩ := Eq.trans rfl rfl
@[simp ↓] theorem qHC {id : Nat} {a : IC} : run P Γ (.block id a) Q s = run P Γ a (Kv id Q) s := Eq.trans rfl rfl
@[simp ↓] theorem qHD {a : IC} : run P Γ (.scope a) Q s = run P Γ a Q s := Eq.trans rfl rfl
@[simp ↓] theorem qJL {a : IC} {gs : List Gh} : run P Γ (.gh a gs) Q s = run P Γ a (Aq (fun s => Q .normal (ghs gs s)) Q) s := Eq.trans rfl rfl
@[simp ↓] theorem qIB : run P Γ .skip Q s = Q .normal s := Eq.trans rfl rfl
@[simp ↓] theorem qIC {i : Nat} : run P Γ (.exit i) Q s = Q (.exit i) s := Eq.trans rfl rfl
@[simp ↓] theorem qIp : run P Γ .ret Q s = Q .ret s := Eq.trans rfl rfl
@[simp ↓] theorem qID : run P Γ .dead Q s = False := Eq.trans rfl rfl
@[simp ↓] theorem qHE {c : Prop} {r : AV} {K : AV → St → Prop} : E5 (some (c, r, s)) K ⟨⟩ = (c ∧ K r s) := Eq.trans rfl rfl
@[simp ↓] theorem qHF {K : AV → St → Prop} : E5 none K ⟨⟩ = False := Eq.trans rfl rfl
@[simp ↓] theorem qIE {as : List AV} {K : List AV → Prop} : asK (some as) K ⟨⟩ = K as := Eq.trans rfl rfl
@[simp ↓] theorem qIF {f : FuncId} {cs : List AV} {K : FuncId → List AV → Prop} : fnK (some (f, cs)) K ⟨⟩ = K f cs := Eq.trans rfl rfl
@[simp ↓, simp] theorem qGI {A B : Prop} : q4v (some (.t (.v (.bool true)))) A B ⟨⟩ ⟨⟩ = A := by simp [q4v]
@[simp ↓, simp] theorem qFR {A B : Prop} : q4v (some (.t (.v (.bool false)))) A B ⟨⟩ ⟨⟩ = B := by simp [q4v]
@[simp low] theorem qGJ {t : Bool} {A B : Prop} : q4v (some (.t (.v (.bool t)))) A B ⟨⟩ ⟨⟩ = ((t = true → B6 A ⟨⟩) ∧ (t = false → B6 B ⟨⟩)) := Eq.trans rfl rfl
@[simp ↓] theorem qGK {A B : Prop} : q6E (some true) A B ⟨⟩ ⟨⟩ = A := Eq.trans rfl rfl
@[simp ↓] theorem qFS {A B : Prop} : q6E (some false) A B ⟨⟩ ⟨⟩ = B := Eq.trans rfl rfl
@[simp ↓, simp] theorem qGL {K : St → Prop} : Gf P Γ [] s K ⟨⟩ = K s := Eq.trans rfl rfl
@[simp ↓, simp] theorem qGM {d : Nat}  {io : Cf} {ros : List RO} {K : St → Prop} :
  Gf P Γ (⟨some d, io, none, none⟩ :: ros) s K ⟨⟩ = Az P Γ d io s fun q st1 => Gf P Γ ros ⟨(d, q) :: st1.env, st1.hp⟩ K ⟨⟩ := Eq.trans rfl rfl
@[simp ↓, simp] theorem qGN {d : Nat}  {r : Nat} {io : Cf} {ros : List RO} {K : St → Prop} :
  Gf P Γ (⟨some d, io, none, some r⟩ :: ros) s K ⟨⟩ = Az P Γ r io s fun q st1 => Gf P Γ ros ⟨(d, q) :: st1.env, st1.hp⟩ K ⟨⟩ := Eq.trans rfl rfl
@[simp ↓, simp] theorem qGO {d : Nat} {g : Nat} {b : Bool} {io : Cf} {ros : List RO} {K : St → Prop} :
  Gf P Γ (⟨some d, io, some (g, b), none⟩ :: ros) s K ⟨⟩ = q6E (H7 s.env (some (g, b))) (Az P Γ d io s fun q st1 => Gf P Γ ros ⟨(d, q) :: st1.env, st1.hp⟩ K ⟨⟩) (Gf P Γ ros ⟨(d, .un) :: s.env, s.hp⟩ K ⟨⟩) ⟨⟩ ⟨⟩ := Eq.trans rfl rfl
@[simp ↓, simp] theorem qGP {d : Nat} {g : Nat} {b : Bool} {r : Nat} {io : Cf} {ros : List RO} {K : St → Prop} :
  Gf P Γ (⟨some d, io, some (g, b), some r⟩ :: ros) s K ⟨⟩ = q6E (H7 s.env (some (g, b))) (Az P Γ r io s fun q st1 => Gf P Γ ros ⟨(d, q) :: st1.env, st1.hp⟩ K ⟨⟩) (Gf P Γ ros ⟨(d, .un) :: s.env, s.hp⟩ K ⟨⟩) ⟨⟩ ⟨⟩ := Eq.trans rfl rfl
@[simp ↓, simp] theorem qGQ   {io : Cf} {ros : List RO} {K : St → Prop} :
  Gf P Γ (⟨none, io, none, none⟩ :: ros) s K ⟨⟩ = Az P Γ 0 io s fun q st1 => Gf P Γ ros st1 K ⟨⟩ := Eq.trans rfl rfl
@[simp ↓, simp] theorem qGR  {g : Nat} {b : Bool} {io : Cf} {ros : List RO} {K : St → Prop} :
  Gf P Γ (⟨none, io, some (g, b), none⟩ :: ros) s K ⟨⟩ = q6E (H7 s.env (some (g, b))) (Az P Γ 0 io s fun q st1 => Gf P Γ ros st1 K ⟨⟩) (Gf P Γ ros s K ⟨⟩) ⟨⟩ ⟨⟩ := Eq.trans rfl rfl
@[simp ↓] theorem qEq {n : St → Prop} : Aq n Q .normal s = n s := Eq.trans rfl rfl
@[simp ↓] theorem qGS {n : St → Prop} {i : Nat} : Aq n Q (.exit i) s = Q (.exit i) s := Eq.trans rfl rfl
@[simp ↓] theorem qHG {n : St → Prop} : Aq n Q .ret s = Q .ret s := Eq.trans rfl rfl
@[simp ↓] theorem qES {id : Nat} : Kv id Q .normal s = Q .normal s := Eq.trans rfl rfl
@[simp ↓] theorem qFT {id i : Nat} : Kv id Q (.exit i) s = if i = id then Q .normal s else Q (.exit i) s := Eq.trans rfl rfl
@[simp ↓] theorem qGT {id : Nat} : Kv id Q .ret s = Q .ret s := Eq.trans rfl rfl
@[simp ↓] theorem qIq : ghs [] s = s := Eq.trans rfl rfl
theorem Ff {g : Gh} {gs : List Gh} : ghs (g :: gs) s = ghs gs (g.run s) := rfl
@[simp ↓, simp] theorem qIG {g : Gh} {gs : List Gh} {e : List (Nat × AV)} {h : List (Nat × B0)} : ghs (g :: gs) ⟨e, h⟩ = ghs gs (g.run ⟨e, h⟩) := Eq.trans rfl rfl
@[simp] theorem q6F {α : Type} {l : List (Nat × α)} : Lg.keep [] l = [] := Eq.trans rfl rfl
@[simp] theorem q4P {α : Type} {k : Nat} {ks : List Nat} {l : List (Nat × α)} : Lg.keep (k :: ks) l = match A2 l k with | some v => (k, v) :: Lg.keep ks l | none => Lg.keep ks l := by
 unfold Lg.keep
 rw [List.filterMap_cons]
 cases A2 l k <;> rfl
@[simp ↓] theorem qJM {d : Nat} {st : St} {x : Operand} : Aj Γ d (.mv x) st = (
   (ev Γ st.env x).map fun a => (True, a, st)) := Eq.trans rfl rfl
@[simp ↓] theorem qIH {d : Nat} {st : St} {K : AV → St → Prop} {x : Operand} : Az P Γ d (.mv x) st K = E5 (Aj Γ d (.mv x) st) K ⟨⟩ := Eq.trans rfl rfl
@[simp ↓] theorem qII {d : Nat} {st : St} {c : Operand} {a : Operand} {b : Operand} : Aj Γ d (.pick c a b) st = (
   match ev Γ st.env c, ev Γ st.env a, ev Γ st.env b with
    | some (.t (.v (.bool p))), some a, some b => some (True, q45 p a b, st)
    | _, _, _ => none) := Eq.trans rfl rfl
@[simp ↓] theorem qGU {d : Nat} {st : St} {K : AV → St → Prop} {c : Operand} {a : Operand} {b : Operand} : Az P Γ d (.pick c a b) st K = E5 (Aj Γ d (.pick c a b) st) K ⟨⟩ := Eq.trans rfl rfl
@[simp ↓] theorem qHH {d : Nat} {st : St} {fz : Bool} {zs : List Value} : Aj Γ d (.alloc fz zs) st = (
  if fz then some (True, .t (.ip (zs.map Bd) 0), st)
  else some (A2 st.hp d = none, .lp d 0 0, ⟨st.env, (d, .bx (zs.map fun z => .t (Bd z))) :: st.hp⟩)) := Eq.trans rfl rfl
@[simp ↓] theorem qFU {d : Nat} {st : St} {K : AV → St → Prop} {fz : Bool} {zs : List Value} : Az P Γ d (.alloc fz zs) st K = E5 (Aj Γ d (.alloc fz zs) st) K ⟨⟩ := Eq.trans rfl rfl
@[simp ↓] theorem qIr {d : Nat} {st : St} {fz : Bool} {x : Operand} : Aj Γ d (.box fz x) st = (
   (ev Γ st.env x).bind fun a =>
    if fz then (W4 a.cells).map fun ts => (C9 ts = true, .t (.ip ts 0), st)
    else some (A2 st.hp d = none ∧ Cd a.cells = true, .lp d 0 0, ⟨st.env, (d, .bx a.cells) :: st.hp⟩)) := Eq.trans rfl rfl
@[simp ↓] theorem qHI {d : Nat} {st : St} {K : AV → St → Prop} {fz : Bool} {x : Operand} : Az P Γ d (.box fz x) st K = E5 (Aj Γ d (.box fz x) st) K ⟨⟩ := Eq.trans rfl rfl
@[simp ↓] theorem qHJ {d : Nat} {st : St} {parts : List (Nat × Operand)} : Aj Γ d (.build parts) st = (
   (evs Γ st.env (parts.map (·.2))).map fun as => (as.map (·.cells.length) = parts.map (·.1) ∧ Cd (as.flatMap AV.cells) = true, .ag (as.flatMap AV.cells), st)) := Eq.trans rfl rfl
@[simp ↓] theorem qFV {d : Nat} {st : St} {K : AV → St → Prop} {parts : List (Nat × Operand)} : Az P Γ d (.build parts) st K = E5 (Aj Γ d (.build parts) st) K ⟨⟩ := Eq.trans rfl rfl
@[simp ↓] theorem qIs {d : Nat} {st : St} {fz : Bool} {ty : Nat} {s : Nat} {parts : List Operand} : Aj Γ d (.bsl fz ty s parts) st = (
   (evs Γ st.env parts).bind fun as => (Ak (as.map fun a => W4 a.cells)).map fun es =>
    if fz then ((∀ e ∈ es, e.length = s ∧ C9 e = true), .t (.sl es (some es.length) (some false)), st)
    else (A2 st.hp d = none ∧ (∀ e ∈ es, e.length = s ∧ C9 e = true), .ls d 0 es.length none, ⟨st.env, (d, .sl ty s es) :: st.hp⟩)) := Eq.trans rfl rfl
@[simp ↓] theorem qHK {d : Nat} {st : St} {K : AV → St → Prop} {fz : Bool} {ty : Nat} {s : Nat} {parts : List Operand} : Az P Γ d (.bsl fz ty s parts) st K = E5 (Aj Γ d (.bsl fz ty s parts) st) K ⟨⟩ := Eq.trans rfl rfl
@[simp ↓] theorem qIJ {d : Nat} {st : St} {n : Nat} {g : Bool} {a : Operand} : Aj Γ d (.load n g a) st = (
   match ev Γ st.env a with
    | some (.t (.ip cs k)) => some (k + n ≤ cs.length, .t (Jc g ((cs.drop k).take n)), st)
    | some (.lp id i k) => match A2 st.hp id with
      | some (.sl _ s es) => some (i < es.length ∧ k + n ≤ s, .t (Jc g (((es.getD i []).drop k).take n)), st)
      | some (.bx cs) => some (i = 0 ∧ k + n ≤ cs.length, W7 g ((cs.drop k).take n), st)
      | _ => none
    | _ => none) := Eq.trans rfl rfl
@[simp ↓] theorem qGV {d : Nat} {st : St} {K : AV → St → Prop} {n : Nat} {g : Bool} {a : Operand} : Az P Γ d (.load n g a) st K = E5 (Aj Γ d (.load n g a) st) K ⟨⟩ := Eq.trans rfl rfl
@[simp ↓] theorem qHL {d : Nat} {st : St} {n : Nat} {a : Operand} {x : Operand} : Aj Γ d (.store n a x) st = (
   (ev Γ st.env x).bind fun v => match ev Γ st.env a with
    | some (.lp id i k) => match A2 st.hp id with
      | some (.sl ty s es) => (W4 v.cells).map fun ts =>
        (i < es.length ∧ k + n ≤ s ∧ ts.length = n ∧ C9 ts = true, .un,
          ⟨st.env, G9 id (.sl ty s (es.set i (if k = 0 ∧ n = s then ts else (es.getD i []).take k ++ ts ++ (es.getD i []).drop (k + n)))) st.hp⟩)
      | some (.bx cs) => some (i = 0 ∧ k + n ≤ cs.length ∧ v.cells.length = n ∧ Cd v.cells = true, .un, ⟨st.env, G9 id (.bx (cs.take k ++ v.cells ++ cs.drop (k + n))) st.hp⟩)
      | _ => none
    | _ => none) := Eq.trans rfl rfl
@[simp ↓] theorem qFW {d : Nat} {st : St} {K : AV → St → Prop} {n : Nat} {a : Operand} {x : Operand} : Az P Γ d (.store n a x) st K = E5 (Aj Γ d (.store n a x) st) K ⟨⟩ := Eq.trans rfl rfl
@[simp ↓] theorem qIK {d : Nat} {st : St} {off : Nat} {a : Operand} : Aj Γ d (.fadr off a) st = (
   match ev Γ st.env a with
    | some (.t (.ip cs k)) => some (True, .t (.ip cs (k + off)), st)
    | some (.lp id i k) => some (True, .lp id i (k + off), st)
    | _ => none) := Eq.trans rfl rfl
@[simp ↓] theorem qGW {d : Nat} {st : St} {K : AV → St → Prop} {off : Nat} {a : Operand} : Az P Γ d (.fadr off a) st K = E5 (Aj Γ d (.fadr off a) st) K ⟨⟩ := Eq.trans rfl rfl
@[simp ↓] theorem qIt {d : Nat} {st : St} {off : Nat} {n : Nat} {g : Bool} {x : Operand} : Aj Γ d (.fld off n g x) st = (
   (ev Γ st.env x).bind fun a => match a with
    | .ag cs => some (off + n ≤ cs.length, W7 g ((cs.drop off).take n), st)
    | .t (.agg ts) => some (off + n ≤ ts.length, .t (Jc g ((ts.drop off).take n)), st)
    | _ => none) := Eq.trans rfl rfl
@[simp ↓] theorem qHM {d : Nat} {st : St} {K : AV → St → Prop} {off : Nat} {n : Nat} {g : Bool} {x : Operand} : Az P Γ d (.fld off n g x) st K = E5 (Aj Γ d (.fld off n g x) st) K ⟨⟩ := Eq.trans rfl rfl
@[simp ↓] theorem qIL {d : Nat} {st : St} {s : Nat} {x : Operand} {i : Operand} : Aj Γ d (.iadr s x i) st = (
   match ev Γ st.env x, ev Γ st.env i with
    | some (.t (.sl es _ _)), some (.t (.v (.int _ n))) => some (0 ≤ n ∧ n < es.length ∧ E4 s es, .t (.ip (es.getD n.toNat []) 0), st)
    | some (.ls id off len _), some (.t (.v (.int _ n))) => match A2 st.hp id with
      | some (.sl _ q _) => some (q = s ∧ 0 ≤ n ∧ n < len, .lp id (off + n.toNat) 0, st)
      | _ => none
    | some (.lb id m), some (.t (.v (.int _ n))) => match A2 st.hp id with
      | some (.bx _) => some (s = 1 ∧ 0 ≤ n ∧ n < m, .lp id 0 n.toNat, st)
      | _ => none
    | _, _ => none) := Eq.trans rfl rfl
@[simp ↓] theorem qGX {d : Nat} {st : St} {K : AV → St → Prop} {s : Nat} {x : Operand} {i : Operand} : Az P Γ d (.iadr s x i) st K = E5 (Aj Γ d (.iadr s x i) st) K ⟨⟩ := Eq.trans rfl rfl
@[simp ↓] theorem qIM {d : Nat} {st : St} {s : Nat} {x : Operand} {i : Operand} : Aj Γ d (.iadT s x i) st = (
   match ev Γ st.env x, ev Γ st.env i with
    | some (.t (.sl es _ _)), some (.t (.v (.int _ n))) => some (0 ≤ n ∧ n < es.length ∧ E4 s es, .t (.ip (es.getD n.toNat []) 0), st)
    | _, _ => none) := Eq.trans rfl rfl
@[simp ↓] theorem qGY {d : Nat} {st : St} {K : AV → St → Prop} {s : Nat} {x : Operand} {i : Operand} : Az P Γ d (.iadT s x i) st K = E5 (Aj Γ d (.iadT s x i) st) K ⟨⟩ := Eq.trans rfl rfl
@[simp ↓] theorem qHN {d : Nat} {st : St} {len : Nat} {s : Nat} {x : Operand} {i : Operand} : Aj Γ d (.iadrA len s x i) st = (
   match ev Γ st.env x, ev Γ st.env i with
    | some (.t (.ip cs k)), some (.t (.v (.int _ n))) => some (0 ≤ n ∧ n < len, .t (.ip cs (k + n.toNat * s)), st)
    | some (.lp id j k), some (.t (.v (.int _ n))) => some (0 ≤ n ∧ n < len, .lp id j (k + n.toNat * s), st)
    | _, _ => none) := Eq.trans rfl rfl
@[simp ↓] theorem qFX {d : Nat} {st : St} {K : AV → St → Prop} {len : Nat} {s : Nat} {x : Operand} {i : Operand} : Az P Γ d (.iadrA len s x i) st K = E5 (Aj Γ d (.iadrA len s x i) st) K ⟨⟩ := Eq.trans rfl rfl
@[simp ↓] theorem qIN {d : Nat} {st : St} {x : Operand} {i : Operand} : Aj Γ d (.idxS x i) st = (
   match ev Γ st.env x, ev Γ st.env i with
    | some (.t (.v (.string s))), some (.t (.v (.int _ n))) => some (0 ≤ n ∧ n < s.size, .t (.v (.int .u8 (s.data.getD n.toNat 0).toNat)), st)
    | _, _ => none) := Eq.trans rfl rfl
@[simp ↓] theorem qGZ {d : Nat} {st : St} {K : AV → St → Prop} {x : Operand} {i : Operand} : Az P Γ d (.idxS x i) st K = E5 (Aj Γ d (.idxS x i) st) K ⟨⟩ := Eq.trans rfl rfl
@[simp ↓] theorem qIO {d : Nat} {st : St} {len : Nat} {s : Nat} {g : Bool} {x : Operand} {i : Operand} : Aj Γ d (.idxA len s g x i) st = (
   match ev Γ st.env x, ev Γ st.env i with
    | some (.t (.agg ts)), some (.t (.v (.int _ n))) => some (0 ≤ n ∧ n < len ∧ n.toNat * s + s ≤ ts.length, .t (Jc g ((ts.drop (n.toNat * s)).take s)), st)
    | some (.ag cs), some (.t (.v (.int _ n))) => some (0 ≤ n ∧ n < len ∧ n.toNat * s + s ≤ cs.length, W7 g ((cs.drop (n.toNat * s)).take s), st)
    | _, _ => none) := Eq.trans rfl rfl
@[simp ↓] theorem qGa {d : Nat} {st : St} {K : AV → St → Prop} {len : Nat} {s : Nat} {g : Bool} {x : Operand} {i : Operand} : Az P Γ d (.idxA len s g x i) st K = E5 (Aj Γ d (.idxA len s g x i) st) K ⟨⟩ := Eq.trans rfl rfl
@[simp ↓] theorem qIu {d : Nat} {st : St} {op : BinOp} {x : Operand} {y : Operand} : Aj Γ d (.bin op x y) st = (
   match ev Γ st.env x, ev Γ st.env y with
    | some (.t (.v a)), some (.t (.v b)) => (qC1 op a b).map fun r => (r.1, .t (.v r.2), st)
    | _, _ => none) := Eq.trans rfl rfl
@[simp ↓] theorem qHO {d : Nat} {st : St} {K : AV → St → Prop} {op : BinOp} {x : Operand} {y : Operand} : Az P Γ d (.bin op x y) st K = E5 (Aj Γ d (.bin op x y) st) K ⟨⟩ := Eq.trans rfl rfl
@[simp ↓] theorem qHP {d : Nat} {st : St} {pos : Bool} {x : Operand} : Aj Γ d (.isNil pos x) st = (
   match ev Γ st.env x with
    | some (.t (.sl es _ nl)) => match nl with
      | some q => some (True, .t (.v (.bool (q == pos))), st)
      | none => some (es ≠ [], .t (.v (.bool (!pos))), st)
    | _ => none) := Eq.trans rfl rfl
@[simp ↓] theorem qFY {d : Nat} {st : St} {K : AV → St → Prop} {pos : Bool} {x : Operand} : Az P Γ d (.isNil pos x) st K = E5 (Aj Γ d (.isNil pos x) st) K ⟨⟩ := Eq.trans rfl rfl
@[simp ↓] theorem qIv {d : Nat} {st : St} {pos : Bool} {x : Operand} {y : Operand} : Aj Γ d (.eqb pos x y) st = (
   match ev Γ st.env x, ev Γ st.env y with
    | some (.t (.v (.bool a))), some (.t (.v (.bool b))) => some (True, .t (.v (.bool (if pos then a == b else a != b))), st)
    | _, _ => none) := Eq.trans rfl rfl
@[simp ↓] theorem qHQ {d : Nat} {st : St} {K : AV → St → Prop} {pos : Bool} {x : Operand} {y : Operand} : Az P Γ d (.eqb pos x y) st K = E5 (Aj Γ d (.eqb pos x y) st) K ⟨⟩ := Eq.trans rfl rfl
@[simp ↓] theorem qIw {d : Nat} {st : St} {pos : Bool} {ks : List (Option IntKind)} {x : Operand} {y : Operand} : Aj Γ d (.eqg pos ks x y) st = (
   ((ev Γ st.env x).bind q9z).bind fun as => ((ev Γ st.env y).bind q9z).map fun bs => (q0Q ks as ∧ q0Q ks bs, .t (.v (.bool (if pos then q1p as bs else !q1p as bs))), st)) := Eq.trans rfl rfl
@[simp ↓] theorem qHR {d : Nat} {st : St} {K : AV → St → Prop} {pos : Bool} {ks : List (Option IntKind)} {x : Operand} {y : Operand} : Az P Γ d (.eqg pos ks x y) st K = E5 (Aj Γ d (.eqg pos ks x y) st) K ⟨⟩ := Eq.trans rfl rfl
@[simp ↓] theorem qJN {d : Nat} {st : St} {op : UnOp} {x : Operand} : Aj Γ d (.un op x) st = (
   match ev Γ st.env x with
    | some (.t (.v a)) => (unV op a).map fun r => (True, .t (.v r), st)
    | _ => none) := Eq.trans rfl rfl
@[simp ↓] theorem qIP {d : Nat} {st : St} {K : AV → St → Prop} {op : UnOp} {x : Operand} : Az P Γ d (.un op x) st K = E5 (Aj Γ d (.un op x) st) K ⟨⟩ := Eq.trans rfl rfl
@[simp ↓] theorem qIQ {d : Nat} {st : St} {k : IntKind} {x : Operand} : Aj Γ d (.conv k x) st = (
   match ev Γ st.env x with
    | some (.t (.v (.int _ n))) => some (True, .t (.v (.int k (k.wrap n))), st)
    | _ => none) := Eq.trans rfl rfl
@[simp ↓] theorem qGb {d : Nat} {st : St} {K : AV → St → Prop} {k : IntKind} {x : Operand} : Az P Γ d (.conv k x) st K = E5 (Aj Γ d (.conv k x) st) K ⟨⟩ := Eq.trans rfl rfl
@[simp ↓] theorem qEr {d : Nat} {st : St} {x : Operand} : Aj Γ d (.bytesStr x) st = (
   ((ev Γ st.env x).bind (Bj st.hp)).bind fun es => (bytesOf es).map fun bs => (True, .t (.v (.string ⟨bs.toArray⟩)), st)) := Eq.trans rfl rfl
@[simp ↓] theorem qDN {d : Nat} {st : St} {K : AV → St → Prop} {x : Operand} : Az P Γ d (.bytesStr x) st K = E5 (Aj Γ d (.bytesStr x) st) K ⟨⟩ := Eq.trans rfl rfl
@[simp ↓] theorem qFZ {d : Nat} {st : St} {x : Operand} : Aj Γ d (.runeStr x) st = (
   match ev Γ st.env x with
    | some (.t (.v (.int _ n))) => some (True, .t (.v (.string (Utf8.encode n))), st)
    | _ => none) := Eq.trans rfl rfl
@[simp ↓] theorem qET {d : Nat} {st : St} {K : AV → St → Prop} {x : Operand} : Az P Γ d (.runeStr x) st K = E5 (Aj Γ d (.runeStr x) st) K ⟨⟩ := Eq.trans rfl rfl
@[simp ↓] theorem qIx {d : Nat} {st : St} {k : Nat} {x : Operand} : Aj Γ d (.len k x) st = (
   (ev Γ st.env x).bind fun a => if qEV k a then (lenOf st.hp a).map fun (n : Nat) => (True, .t (.v (.int .i64 (n : Int))), st) else none) := Eq.trans rfl rfl
@[simp ↓] theorem qHS {d : Nat} {st : St} {K : AV → St → Prop} {k : Nat} {x : Operand} : Az P Γ d (.len k x) st K = E5 (Aj Γ d (.len k x) st) K ⟨⟩ := Eq.trans rfl rfl
@[simp ↓] theorem qIy {d : Nat} {st : St} {x : Operand} : Aj Γ d (.cap x) st = (
   match ev Γ st.env x with
    | some (.t (.sl _ (some c) _)) => some (True, .t (.v (.int .i64 c)), st)
    | some (.ls _ _ _ (some c)) => some (True, .t (.v (.int .i64 c)), st)
    | _ => none) := Eq.trans rfl rfl
@[simp ↓] theorem qHT {d : Nat} {st : St} {K : AV → St → Prop} {x : Operand} : Az P Γ d (.cap x) st K = E5 (Aj Γ d (.cap x) st) K ⟨⟩ := Eq.trans rfl rfl
@[simp ↓] theorem qIz {d : Nat} {st : St} {mx : Bool} {xs : List Operand} : Aj Γ d (.mmx mx xs) st = (
   (evs Γ st.env xs).bind fun as => (Y5 mx as none).map fun r => (H5 r.1 as = true, .t (.v (.int r.1 r.2)), st)) := Eq.trans rfl rfl
@[simp ↓] theorem qHU {d : Nat} {st : St} {K : AV → St → Prop} {mx : Bool} {xs : List Operand} : Az P Γ d (.mmx mx xs) st K = E5 (Aj Γ d (.mmx mx xs) st) K ⟨⟩ := Eq.trans rfl rfl
@[simp ↓] theorem qJ0 {d : Nat} {st : St} {fz : Bool} {ty : Nat} {s : Nat} {b : Operand} {x : Operand} : Aj Γ d (.app fz ty s b x) st = (
   ((ev Γ st.env x).bind (Bj st.hp)).bind fun news => (ev Γ st.env b).bind fun a =>
    let fin (c0 : Prop) (es : List (List T)) (st' : St) : Option (Prop × AV × St) :=
      let c : Prop := E4 s news ∧ c0
      if fz then some (c, .t (.sl es none none), st')
      else some (c ∧ A2 st'.hp d = none, .ls d 0 es.length none, ⟨st'.env, (d, .sl ty s es) :: st'.hp⟩)
    match a with
    | .t (.sl es (some c) _) => fin (E4 s es ∧ c = es.length ∧ es.length + news.length ≤ 2147483648 ∧ (fz = true ∨ news ≠ [] ∨ es = [])) (es ++ news) st
    | .ls id off len (some c) => match A2 st.hp id with
      | some (.sl t q es) => fin (t = ty ∧ q = s ∧ c = len ∧ len + news.length ≤ 2147483648 ∧ (news ≠ [] ∨ len = 0)) ((es.drop off).take len ++ news) st
      | _ => none
    | .ls id 0 len none => match A2 st.hp id with
      | some (.sl t q es) => fin (t = ty ∧ q = s ∧ len + news.length ≤ 2147483648) (es.take len ++ news) (st.kill id)
      | _ => none
    | _ => none) := Eq.trans rfl rfl
@[simp ↓] theorem qHV {d : Nat} {st : St} {K : AV → St → Prop} {fz : Bool} {ty : Nat} {s : Nat} {b : Operand} {x : Operand} : Az P Γ d (.app fz ty s b x) st K = E5 (Aj Γ d (.app fz ty s b x) st) K ⟨⟩ := Eq.trans rfl rfl
@[simp ↓] theorem qIR {d : Nat} {st : St} {u0 : Nat} {s : Nat} {b : Operand} {x : Operand} : Aj Γ d (.appT u0 s b x) st = (
   ((ev Γ st.env x).bind (Bj st.hp)).bind fun news => match ev Γ st.env b with
    | some (.t (.sl es (some c) _)) => some (E4 s news ∧ E4 s es ∧ c = es.length ∧ es.length + news.length ≤ 2147483648, .t (.sl (es ++ news) none none), st)
    | _ => none) := Eq.trans rfl rfl
@[simp ↓] theorem qGc {d : Nat} {st : St} {K : AV → St → Prop} {u0 : Nat} {s : Nat} {b : Operand} {x : Operand} : Az P Γ d (.appT u0 s b x) st K = E5 (Aj Γ d (.appT u0 s b x) st) K ⟨⟩ := Eq.trans rfl rfl
@[simp ↓] theorem qIS {d : Nat} {st : St} {b : Operand} {x : Operand} : Aj Γ d (.appB b x) st = (
   ((ev Γ st.env x).bind (Bj st.hp)).bind fun news => match ev Γ st.env b with
    | some (.t (.sl es (some c) _)) => some (E4 1 news ∧ E4 1 es ∧ c = es.length ∧ es.length + news.length ≤ 140737488355328, .t (.sl (es ++ news) none none), st)
    | _ => none) := Eq.trans rfl rfl
@[simp ↓] theorem qGd {d : Nat} {st : St} {K : AV → St → Prop} {b : Operand} {x : Operand} : Az P Γ d (.appB b x) st K = E5 (Aj Γ d (.appB b x) st) K ⟨⟩ := Eq.trans rfl rfl
@[simp ↓] theorem qIT {d : Nat} {st : St} {fz : Bool} {i ty : Nat} {b : Operand} {x : Operand} : Aj Γ d (.appR fz i ty b x) st = (
   match ev Γ st.env x, ev Γ st.env b with
    | some (.t (.sl news _ _)), some (.ls id 0 len none) => match A2 st.hp i with
      | some (.sl t q es) =>
        if fz then some (id = i ∧ E4 1 news ∧ t = ty ∧ q = 1 ∧ len + news.length ≤ 140737488355328, .t (.sl (es.take len ++ news) none none), st.kill i)
        else some ((id = i ∧ E4 1 news ∧ t = ty ∧ q = 1 ∧ len + news.length ≤ 140737488355328) ∧ A2 (st.kill i).hp d = none, .ls d 0 (es.take len ++ news).length none, ⟨(st.kill i).env, (d, .sl ty 1 (es.take len ++ news)) :: (st.kill i).hp⟩)
      | _ => none
    | _, _ => none) := Eq.trans rfl rfl
@[simp ↓] theorem qGe {d : Nat} {st : St} {K : AV → St → Prop} {fz : Bool} {i ty : Nat} {b : Operand} {x : Operand} : Az P Γ d (.appR fz i ty b x) st K = E5 (Aj Γ d (.appR fz i ty b x) st) K ⟨⟩ := Eq.trans rfl rfl
@[simp ↓] theorem qIU {d : Nat} {st : St} {ty : Nat} {s : Nat} {zs : List Value} {b : Operand} {n : Operand} : Aj Γ d (.appZ ty s zs b n) st = (
   match ev Γ st.env b, ev Γ st.env n with
    | some (.t (.sl es (some q) _)), some (.t (.v (.int _ m))) =>
      some (A2 st.hp d = none ∧ 0 < m ∧ (E4 s es ∧ (q : Int) < es.length + m) ∧ es.length + m ≤ 2147483648, .ls d 0 (es.length + m.toNat) none, ⟨st.env, (d, .sl ty s (es ++ List.replicate m.toNat (zs.map Bd))) :: st.hp⟩)
    | _, _ => none) := Eq.trans rfl rfl
@[simp ↓] theorem qGf {d : Nat} {st : St} {K : AV → St → Prop} {ty : Nat} {s : Nat} {zs : List Value} {b : Operand} {n : Operand} : Az P Γ d (.appZ ty s zs b n) st K = E5 (Aj Γ d (.appZ ty s zs b n) st) K ⟨⟩ := Eq.trans rfl rfl
@[simp ↓] theorem qIV {d : Nat} {st : St} {ty s : Nat} {x : Operand} : Aj Γ d (.appN ty s x) st = (
   match ev Γ st.env x with
    | some (.t (.sl es _ _)) => some (A2 st.hp d = none ∧ E4 s es ∧ es.length ≤ 2147483648, .ls d 0 es.length none, ⟨st.env, (d, .sl ty s es) :: st.hp⟩)
    | _ => none) := Eq.trans rfl rfl
@[simp ↓] theorem qGg {d : Nat} {st : St} {K : AV → St → Prop} {ty s : Nat} {x : Operand} : Az P Γ d (.appN ty s x) st K = E5 (Aj Γ d (.appN ty s x) st) K ⟨⟩ := Eq.trans rfl rfl
@[simp ↓] theorem qJ1 {d : Nat} {st : St} {s : Nat} {x y : Operand} : Aj Γ d (.cpy s x y) st = (
   match ev Γ st.env x with
    | some (.ls id off len _) => match A2 st.hp id with
      | some (.sl ty q es) => ((ev Γ st.env y).bind (Bj st.hp)).map fun news =>
        (q = s ∧ E4 s news, .t (.v (.int .i64 (min len news.length : Nat))), ⟨st.env, G9 id (.sl ty s (es.take off ++ news.take (min len news.length) ++ es.drop (off + min len news.length))) st.hp⟩)
      | _ => none
    | _ => none) := Eq.trans rfl rfl
@[simp ↓] theorem qHW {d : Nat} {st : St} {K : AV → St → Prop} {s : Nat} {x y : Operand} : Az P Γ d (.cpy s x y) st K = E5 (Aj Γ d (.cpy s x y) st) K ⟨⟩ := Eq.trans rfl rfl
@[simp ↓] theorem qHX {d : Nat} {st : St} {s : Nat} {x : Operand} {lo : Option Operand} {hi : Option Operand} {mx : Option Operand} : Aj Γ d (.slice s x lo hi mx) st = (
   (ev Γ st.env x).bind fun a =>
    match a with
    | .t (.v (.string b)) => (I5 Γ st.env lo 0).bind fun l => (I5 Γ st.env hi b.size).map fun h => (s = 0 ∧ l.1 ∧ h.1 ∧ l.2 ≤ h.2 ∧ h.2 ≤ b.size, .t (.v (.string (b.extract l.2 h.2))), st)
    | .t (.sl es cap nl) => (I5 Γ st.env lo 0).bind fun l => (I5 Γ st.env hi es.length).bind fun h => match mx with
      | none => some (s ≠ 0 ∧ E4 s es ∧ l.1 ∧ h.1 ∧ l.2 ≤ h.2 ∧ h.2 ≤ es.length, .t (.sl ((es.drop l.2).take (h.2 - l.2)) (cap.map (· - l.2)) nl), st)
      | some _ => (I5 Γ st.env mx 0).map fun m => (s ≠ 0 ∧ E4 s es ∧ l.1 ∧ h.1 ∧ m.1 ∧ l.2 ≤ h.2 ∧ h.2 ≤ m.2 ∧ m.2 ≤ es.length, .t (.sl ((es.drop l.2).take (h.2 - l.2)) (some (m.2 - l.2)) nl), st)
    | .ls id off len cap => (I5 Γ st.env lo 0).bind fun l => (I5 Γ st.env hi len).bind fun h => match A2 st.hp id with
     | some (.sl _ q _) => match mx with
      | none => some (s ≠ 0 ∧ q = s ∧ l.1 ∧ h.1 ∧ l.2 ≤ h.2 ∧ h.2 ≤ len, .ls id (off + l.2) (h.2 - l.2) (cap.map (· - l.2)), st)
      | some _ => (I5 Γ st.env mx 0).map fun m => (s ≠ 0 ∧ q = s ∧ l.1 ∧ h.1 ∧ m.1 ∧ l.2 ≤ h.2 ∧ h.2 ≤ m.2 ∧ m.2 ≤ len, .ls id (off + l.2) (h.2 - l.2) (some (m.2 - l.2)), st)
     | _ => none
    | _ => none) := Eq.trans rfl rfl
@[simp ↓] theorem qFa {d : Nat} {st : St} {K : AV → St → Prop} {s : Nat} {x : Operand} {lo : Option Operand} {hi : Option Operand} {mx : Option Operand} : Az P Γ d (.slice s x lo hi mx) st K = E5 (Aj Γ d (.slice s x lo hi mx) st) K ⟨⟩ := Eq.trans rfl rfl
@[simp ↓] theorem qJO {d : Nat} {st : St} {ty : Nat} {s : Nat} {zs : List Value} {l : Operand} {c : Operand} : Aj Γ d (.mk ty s zs l c) st = (
   match ev Γ st.env l, ev Γ st.env c with
    | some (.t (.v (.int _ n))), some (.t (.v (.int _ m))) =>
      some (A2 st.hp d = none ∧ 0 ≤ n ∧ n ≤ m ∧ m ≤ 2147483648, .ls d 0 n.toNat none, ⟨st.env, (d, .sl ty s (List.replicate n.toNat (zs.map Bd))) :: st.hp⟩)
    | _, _ => none) := Eq.trans rfl rfl
@[simp ↓] theorem qIW {d : Nat} {st : St} {K : AV → St → Prop} {ty : Nat} {s : Nat} {zs : List Value} {l : Operand} {c : Operand} : Az P Γ d (.mk ty s zs l c) st K = E5 (Aj Γ d (.mk ty s zs l c) st) K ⟨⟩ := Eq.trans rfl rfl
@[simp ↓] theorem qJ2 {d : Nat} {st : St} {f : FuncId} {caps : List Operand} : Aj Γ d (.mkf f caps) st = (
   (evs Γ st.env caps).map fun as => (Cd as = true, (match W4 as with | some ts => .t (.fn f ts) | none => .fn f as), st)) := Eq.trans rfl rfl
@[simp ↓] theorem qHY {d : Nat} {st : St} {K : AV → St → Prop} {f : FuncId} {caps : List Operand} : Az P Γ d (.mkf f caps) st K = E5 (Aj Γ d (.mkf f caps) st) K ⟨⟩ := Eq.trans rfl rfl
@[simp ↓] theorem qJ3 {d : Nat} {st : St} {x : Operand} {i : Nat} : Aj Γ d (.ext x i) st = (
   match ev Γ st.env x with
    | some (.t (.tup vs)) => (vs[i]?).map fun t => (True, .t t, st)
    | some (.tu vs) => (vs[i]?).map fun t => (True, t, st)
    | _ => none) := Eq.trans rfl rfl
@[simp ↓] theorem qHZ {d : Nat} {st : St} {K : AV → St → Prop} {x : Operand} {i : Nat} : Az P Γ d (.ext x i) st K = E5 (Aj Γ d (.ext x i) st) K ⟨⟩ := Eq.trans rfl rfl
@[simp ↓] theorem qJ4 {d : Nat} {st : St} {x : Operand} : Aj Γ d (.nck x) st = (
   match ev Γ st.env x with
    | some (.t (.ip cs k)) => some (True, .t (.ip cs k), st)
    | some (.lp id i k) => some (True, .lp id i k, st)
    | some (.t (.fn f cs)) => some (True, .t (.fn f cs), st)
    | some (.fn f cs) => some (True, .fn f cs, st)
    | _ => none) := Eq.trans rfl rfl
@[simp ↓] theorem qHa {d : Nat} {st : St} {K : AV → St → Prop} {x : Operand} : Az P Γ d (.nck x) st K = E5 (Aj Γ d (.nck x) st) K ⟨⟩ := Eq.trans rfl rfl
@[simp ↓] theorem qHb {d : Nat} {st : St}  : Aj Γ d (.mkmap ) st = (
   some (A2 st.hp d = none, .lm d, ⟨st.env, (d, .mp []) :: st.hp⟩)) := Eq.trans rfl rfl
@[simp ↓] theorem qFb {d : Nat} {st : St} {K : AV → St → Prop}  : Az P Γ d (.mkmap ) st K = E5 (Aj Γ d (.mkmap ) st) K ⟨⟩ := Eq.trans rfl rfl
@[simp ↓] theorem qJ5 {d : Nat} {st : St} {u0 : Nat} {zs : List Value} {l : Operand} {c : Operand} : Aj Γ d (.mkB u0 zs l c) st = (
   match ev Γ st.env l, ev Γ st.env c with
    | some (.t (.v (.int _ n))), some (.t (.v (.int _ m))) =>
      some (A2 st.hp d = none ∧ 0 ≤ n ∧ n = m ∧ m ≤ 2147483648, .lb d n.toNat, ⟨st.env, (d, .bx (List.replicate n.toNat (.t (Bd (zs.headD undef))))) :: st.hp⟩)
    | _, _ => none) := Eq.trans rfl rfl
@[simp ↓] theorem qHc {d : Nat} {st : St} {K : AV → St → Prop} {u0 : Nat} {zs : List Value} {l : Operand} {c : Operand} : Az P Γ d (.mkB u0 zs l c) st K = E5 (Aj Γ d (.mkB u0 zs l c) st) K ⟨⟩ := Eq.trans rfl rfl
@[simp ↓] theorem qJ6 {d : Nat} {st : St} {ty : Nat} {s : Nat} {zs : List Value} {l : Operand} {c : Operand} : Aj Γ d (.mkE ty s zs l c) st = (
   match ev Γ st.env l, ev Γ st.env c with
    | some (.t (.v (.int _ n))), some (.t (.v (.int _ m))) =>
      some (A2 st.hp d = none ∧ 0 ≤ n ∧ n ≤ m ∧ m ≤ 2147483648, .ls d 0 n.toNat (some m.toNat), ⟨st.env, (d, .sl ty s (List.replicate n.toNat (zs.map Bd))) :: st.hp⟩)
    | _, _ => none) := Eq.trans rfl rfl
@[simp ↓] theorem qHd {d : Nat} {st : St} {K : AV → St → Prop} {ty : Nat} {s : Nat} {zs : List Value} {l : Operand} {c : Operand} : Az P Γ d (.mkE ty s zs l c) st K = E5 (Aj Γ d (.mkE ty s zs l c) st) K ⟨⟩ := Eq.trans rfl rfl
@[simp ↓] theorem qJ7 {d : Nat} {st : St} {x : Operand} : Aj Γ d (.rng x) st = (
   match ev Γ st.env x with
    | some (.t (.v (.string s))) => some (A2 st.hp d = none, .li d, ⟨st.env, (d, .it s 0) :: st.hp⟩)
    | _ => none) := Eq.trans rfl rfl
@[simp ↓] theorem qHe {d : Nat} {st : St} {K : AV → St → Prop} {x : Operand} : Az P Γ d (.rng x) st K = E5 (Aj Γ d (.rng x) st) K ⟨⟩ := Eq.trans rfl rfl
@[simp ↓] theorem qJ8 {d : Nat} {st : St} {x : Operand} : Aj Γ d (.nxt x) st = (
   match ev Γ st.env x with
    | some (.li id) => match A2 st.hp id with
      | some (.it s pos) => if pos < s.size then some (True, .t (.tup [.v (.bool true), .v (.int .i64 pos), .v (.int .i32 (Utf8.decode s pos).1)]), ⟨st.env, G9 id (.it s (pos + (Utf8.decode s pos).2)) st.hp⟩)
        else some (True, .t (.tup [.v (.bool false)]), st)
      | _ => none
    | _ => none) := Eq.trans rfl rfl
@[simp ↓] theorem qHf {d : Nat} {st : St} {K : AV → St → Prop} {x : Operand} : Az P Γ d (.nxt x) st K = E5 (Aj Γ d (.nxt x) st) K ⟨⟩ := Eq.trans rfl rfl
@[simp ↓] theorem qIX {d : Nat} {st : St} {kt : KT} {zv : Value} {ok : Bool} {m : Operand} {k : Operand} : Aj Γ d (.lkup kt zv ok m k) st = (
   match ev Γ st.env k with
    | some (.t (.v kv)) =>
      let out (es : List (Value × T)) : Prop × AV × St :=
        (kt.fits kv = true ∧ Lq kt es, if ok then .t (.tup [(Fj kv es).getD (Hr zv), .v (.bool (Fj kv es).isSome)]) else .t ((Fj kv es).getD (Hr zv)), st)
      match ev Γ st.env m with
      | some (.t (.mp es)) => some (out es)
      | some (.lm id) => match A2 st.hp id with
        | some (.mp es) => some (out es)
        | _ => none
      | _ => none
    | _ => none) := Eq.trans rfl rfl
@[simp ↓] theorem qGh {d : Nat} {st : St} {K : AV → St → Prop} {kt : KT} {zv : Value} {ok : Bool} {m : Operand} {k : Operand} : Az P Γ d (.lkup kt zv ok m k) st K = E5 (Aj Γ d (.lkup kt zv ok m k) st) K ⟨⟩ := Eq.trans rfl rfl
@[simp ↓] theorem qJ9 {d : Nat} {st : St} {kt : KT} {m : Operand} {k : Operand} {x : Operand} : Aj Γ d (.mup kt m k x) st = (
   match ev Γ st.env k, ev Γ st.env m with
    | some (.t (.v kv)), some (.lm id) => match A2 st.hp id with
      | some (.mp es) => ((ev Γ st.env x).bind toT).map fun t => (kt.fits kv = true ∧ Lq kt es, .un, ⟨st.env, G9 id (.mp (q46 kv t es)) st.hp⟩)
      | _ => none
    | _, _ => none) := Eq.trans rfl rfl
@[simp ↓] theorem qHg {d : Nat} {st : St} {K : AV → St → Prop} {kt : KT} {m : Operand} {k : Operand} {x : Operand} : Az P Γ d (.mup kt m k x) st K = E5 (Aj Γ d (.mup kt m k x) st) K ⟨⟩ := Eq.trans rfl rfl
@[simp ↓] theorem qJA {d : Nat} {st : St} {id : Nat} {n : Nat} {a : Operand} {x : Operand} : Aj Γ d (.stR id n a x) st = (
   if I6 id (ev Γ st.env a) then ((ev Γ st.env x).bind fun v => match ev Γ st.env a with
      | some (.lp id i k) => match A2 st.hp id with
        | some (.sl ty s es) => (W4 v.cells).map fun ts =>
          (i < es.length ∧ k + n ≤ s ∧ ts.length = n ∧ C9 ts = true, .un,
            ⟨st.env, G9 id (.sl ty s (es.set i (if k = 0 ∧ n = s then ts else (es.getD i []).take k ++ ts ++ (es.getD i []).drop (k + n)))) st.hp⟩)
        | some (.bx cs) => some (i = 0 ∧ k + n ≤ cs.length ∧ v.cells.length = n ∧ Cd v.cells = true, .un, ⟨st.env, G9 id (.bx (cs.take k ++ v.cells ++ cs.drop (k + n))) st.hp⟩)
        | _ => none
      | _ => none) else none) := Eq.trans rfl rfl
@[simp ↓] theorem qHh {d : Nat} {st : St} {K : AV → St → Prop} {id : Nat} {n : Nat} {a : Operand} {x : Operand} : Az P Γ d (.stR id n a x) st K = E5 (Aj Γ d (.stR id n a x) st) K ⟨⟩ := Eq.trans rfl rfl
@[simp ↓] theorem qJB {d : Nat} {st : St} {id : Nat} {n : Nat} {g : Bool} {a : Operand} : Aj Γ d (.ldR id n g a) st = (
   if I6 id (ev Γ st.env a) then (match ev Γ st.env a with
      | some (.t (.ip cs k)) => some (k + n ≤ cs.length, .t (Jc g ((cs.drop k).take n)), st)
      | some (.lp id i k) => match A2 st.hp id with
        | some (.sl _ s es) => some (i < es.length ∧ k + n ≤ s, .t (Jc g (((es.getD i []).drop k).take n)), st)
        | some (.bx cs) => some (i = 0 ∧ k + n ≤ cs.length, W7 g ((cs.drop k).take n), st)
        | _ => none
      | _ => none) else none) := Eq.trans rfl rfl
@[simp ↓] theorem qHi {d : Nat} {st : St} {K : AV → St → Prop} {id : Nat} {n : Nat} {g : Bool} {a : Operand} : Az P Γ d (.ldR id n g a) st K = E5 (Aj Γ d (.ldR id n g a) st) K ⟨⟩ := Eq.trans rfl rfl
@[simp ↓] theorem qJC {d : Nat} {st : St} {n : Nat} {g : Bool} {a : Operand} : Aj Γ d (.ldT n g a) st = (
   match ev Γ st.env a with
    | some (.t (.ip cs k)) => some (k + n ≤ cs.length, .t (Jc g ((cs.drop k).take n)), st)
    | _ => none) := Eq.trans rfl rfl
@[simp ↓] theorem qHj {d : Nat} {st : St} {K : AV → St → Prop} {n : Nat} {g : Bool} {a : Operand} : Az P Γ d (.ldT n g a) st K = E5 (Aj Γ d (.ldT n g a) st) K ⟨⟩ := Eq.trans rfl rfl
@[simp ↓] theorem qJD {d : Nat} {st : St} {kt : KT} {zv : Value} {ok : Bool} {m : Operand} {k : Operand} : Aj Γ d (.lkT kt zv ok m k) st = (
   match ev Γ st.env k, ev Γ st.env m with
    | some (.t (.v kv)), some (.t (.mp es)) => some (kt.fits kv = true ∧ Lq kt es, if ok then .t (.tup [(Fj kv es).getD (Hr zv), .v (.bool (Fj kv es).isSome)]) else .t ((Fj kv es).getD (Hr zv)), st)
    | _, _ => none) := Eq.trans rfl rfl
@[simp ↓] theorem qHk {d : Nat} {st : St} {K : AV → St → Prop} {kt : KT} {zv : Value} {ok : Bool} {m : Operand} {k : Operand} : Az P Γ d (.lkT kt zv ok m k) st K = E5 (Aj Γ d (.lkT kt zv ok m k) st) K ⟨⟩ := Eq.trans rfl rfl
@[simp ↓] theorem qGi {d : Nat} {st : St} {K : AV → St → Prop} {f : FuncId} {args : List Operand} : Az P Γ d (.call f args) st K = asK (evs Γ st.env args) (fun as => q3Q P Γ st.hp f as (fun res => K (.t res) st) ⟨⟩) ⟨⟩ := Eq.trans rfl rfl
@[simp ↓] theorem qFc {d : Nat} {st : St} {K : AV → St → Prop} {x : Operand} {args : List Operand} : Az P Γ d (.callv x args) st K = fnK ((ev Γ st.env x).bind qD4) (fun f cs => asK (evs Γ st.env args) (fun as => q3Q P Γ st.hp f (as ++ cs) (fun res => K (.t res) st) ⟨⟩) ⟨⟩) ⟨⟩ := Eq.trans rfl rfl
@[simp ↓] theorem qFd {d : Nat} {st : St} {K : AV → St → Prop} {f : FuncId} {args : List Operand} {rs : List Nat} {base : Nat} : Az P Γ d (.hcall f args rs base) st K = asK (evs Γ st.env args) (fun as => rs.Nodup ∧ qDI P Γ st f rs base (Hm rs st.hp) (as.map (Bm (fwd rs))) K ⟨⟩) ⟨⟩ := Eq.trans rfl rfl
@[simp ↓] theorem qFe {d : Nat} {st : St} {K : AV → St → Prop} {f : FuncId} {args : List Operand} {base : Nat} : Az P Γ d (.ncall f args base) st K = asK (evs Γ st.env args) (fun as => qDJ P Γ st f base (as.map (Bm (fwd []))) K ⟨⟩) ⟨⟩ := Eq.trans rfl rfl
@[simp ↓] theorem qFf {d : Nat} {st : St} {K : AV → St → Prop} {f : FuncId} {args : List Operand} : Az P Γ d (.callT f args) st K = asK (evs Γ st.env args) (fun as => qAZ P Γ f as (fun res => K (.t res) st) ⟨⟩) ⟨⟩ := Eq.trans rfl rfl
@[simp ↓] theorem qFg {d : Nat} {st : St} {K : AV → St → Prop} {f : FuncId} {args : List Operand} {rs : List Nat} : Az P Γ d (.rcall f args rs) st K = asK (evs Γ st.env args) (fun as => rs.Nodup ∧ (∀ i ∈ rs, ∃ ty s es, A2 st.hp i = some (.sl ty s es)) ∧ qDK P Γ st f rs (Hm rs st.hp) (as.map (Bm (fwd rs))) K ⟨⟩) ⟨⟩ := Eq.trans rfl rfl
@[simp] theorem qJP {e : List (Nat × AV)} {t : Nat} : ev Γ e (.tmp t) = A2 e t := Eq.trans rfl rfl
@[simp] theorem qIY {e : List (Nat × AV)} {v : Value} : ev Γ e (.const v) = some (q5b v) := Eq.trans rfl rfl
@[simp] theorem qHl {e : List (Nat × AV)} {g : Nat} : ev Γ e (.global g) = (Γ g).map fun cs => .t (.ip cs 0) := Eq.trans rfl rfl
@[simp] theorem qJE {e : List (Nat × AV)} {f : FuncId} : ev Γ e (.func f) = some (.t (.fn f [])) := Eq.trans rfl rfl
@[simp] theorem qJQ {e : List (Nat × AV)} {xs : List Operand} : evs Γ e xs = Ak (xs.map (ev Γ e)) := Eq.trans rfl rfl
@[simp] theorem qGj {e : List (Nat × AV)} : H7 e none = some true := Eq.trans rfl rfl
@[simp] theorem qGk {e : List (Nat × AV)} {g : Nat} {b : Bool} : H7 e (some (g, b)) = match A2 e g with
  | some (.t (.v (.bool p))) => some (p == b)
  | some .un => some false
  | _ => none := Eq.trans rfl rfl
end
attribute [simp] RO.d St.put Ak A2 params Gh.run Hu q99 q4N q04 Ag q5b Hr Bd qC1 unV Y5 H5 lenOf qEV Jc W7 AV.cells W4 toT qC0 q45 Bj I5 G9 qD4 St.kill Bi kill1 Ip del I6 q8F q76 Hm fwd bwd Ko q4H q4s N6 okB Bm ren1 ren0 Ce C7 qEm toN H8 Wa qAW B0.sh List.filter_cons
end Go.Lg
namespace Go.Lg
open Go
abbrev tm (n : Nat) : Operand := .tmp n
abbrev ki (n : Int) : Operand := .const (.int .i64 n)
abbrev ku (n : Int) : Operand := .const (.int .u8 n)
abbrev kT : Operand := .const (.bool true)
abbrev kF : Operand := .const (.bool false)
abbrev kN : Operand := .const (.slice none 0 0)
abbrev od (d : Nat) (io : Cf) : RO := ⟨some d, io, none, none⟩
abbrev on (io : Cf) : RO := ⟨none, io, none, none⟩
abbrev oz (d : Nat) (io : Cf) (r : Nat) : RO := ⟨some d, io, none, some r⟩
abbrev oT (d : Nat) (io : Cf) (g : Nat) : RO := ⟨some d, io, some (g, true), none⟩
abbrev oF (d : Nat) (io : Cf) (g : Nat) : RO := ⟨some d, io, some (g, false), none⟩
abbrev om (d x : Nat) : RO := ⟨some d, .mv (.tmp x), none, none⟩
abbrev ld (n x : Nat) : Cf := .load n false (.tmp x)
abbrev lG (n x : Nat) : Cf := .load n true (.tmp x)
abbrev ia (s x i : Nat) : Cf := .iadr s (.tmp x) (.tmp i)
abbrev fa (k x : Nat) : Cf := .fadr k (.tmp x)
abbrev le (k x : Nat) : Cf := .len k (.tmp x)
abbrev ex (x i : Nat) : Cf := .ext (.tmp x) i
abbrev kp (ks rs : List Nat) : Gh := .keep ks rs
end Go.Lg
namespace Go.Lg
open Go Go.RowKit
def Old (w : World) (b : Nat) : Prop := b < w.heap.size
def Rd (P : Program) (t : TypeId) (S : List T → Prop) : Prop :=
 ∀ (H : Type) (enc : TypeId × Value → H) (w : World) (held : Bool) (fuel : Nat) (cs : List Value) (x : DataW H × List MemPlace), DataW.trod enc P w 0 (fun _ => true) held fuel t cs = some x → ∃ ts, S ts ∧ Eh w (Old w) ts cs ∧ ∀ u ∈ ts, u.one = true
theorem qBT {w : World} {a : Addr} {v : Value} (h : w.cell? a = some v) : a.block < w.heap.size := by
 unfold World.cell? at h
 split at h
 ·rename_i hb
  have := Array.getElem?_eq_some_iff.1 hb
  exact this.1
 ·simp at h
variable {P : Program} {t e : TypeId}
theorem Eh.one1 {w : World} {X : Nat → Prop} {u : T} {v : Value} (h : TR w X u v) : Eh w X [u] [v] := Eh.cons h (Eh.nil w X)
theorem Rd.mono {S S' : List T → Prop} (h : Rd P t S) (hs : ∀ ts, S ts → S' ts) : Rd P t S' := fun H enc w held fuel cs x hx => by
 obtain ⟨ts, h1, h2, h3⟩ := h H enc w held fuel cs x hx
 exact ⟨ts, hs ts h1, h2, h3⟩
theorem qGl {k : IntKind} (ht : P.underlying t = some (.int k)) : Rd P t fun ts => ∃ n, ts = [.v (.int k n)] ∧ (Lit.int k n).wf = true := by
 intro H enc w held fuel cs x h
 obtain ⟨n, rfl, _, hw⟩ := DataW.trod_int ht h
 exact ⟨[.v (.int k n)], ⟨n, rfl, hw⟩, Eh.one1 (.v _), by intro u hu; simp at hu; subst hu; rfl⟩
theorem qBU (ht : P.underlying t = some .bool) : Rd P t fun ts => ∃ b, ts = [.v (.bool b)] := by
 intro H enc w held fuel cs x h
 obtain ⟨b, rfl, _⟩ := DataW.trod_bool ht h
 exact ⟨[.v (.bool b)], ⟨b, rfl⟩, Eh.one1 (.v _), by intro u hu; simp at hu; subst hu; rfl⟩
theorem q7Y {α : Type} {Q : Nat → α → Prop} : ∀ (n : Nat), (∀ i, i < n → ∃ a, Q i a) → ∃ l : List α, l.length = n ∧ ∀ i a, l[i]? = some a → Q i a
 | 0, _ => ⟨[], rfl, fun i a h => by simp at h⟩
 | n + 1, h => by
  obtain ⟨l, hl, hq⟩ := q7Y n fun i hi => h i (by omega)
  obtain ⟨a, ha⟩ := h n (by omega)
  refine ⟨l ++ [a], by simp [hl], fun i b hb => ?_⟩
  by_cases hi : i < n
  ·rw [List.getElem?_append_left (by omega)] at hb; exact hq i b hb
  ·have : i = n := by
    have := (List.getElem?_eq_some_iff.1 hb).1
    simp at this; omega
   subst this
   rw [List.getElem?_append_right (by omega), hl] at hb
   simp at hb; subst hb; exact ha
theorem q6G {s : Nat} {S : List T → Prop} (ht : P.underlying t = some (.slice e)) (hc : P.cellsOf e = s) (hs : 0 < s) (he : Rd P e S) :
  Rd P t fun ts => ∃ es cap nl, ts = [.sl es cap nl] ∧ es.length ≤ maxLen ∧ ∀ x ∈ es, S x ∧ x.length = s := by
 intro H enc w held fuel cs x h
 rcases DataW.trod_slice ht h with ⟨rfl, _⟩ | ⟨a, len, cap, qFk, rest, n, rfl, rfl, _, _, hlc, hcm, hel, hat, _, _⟩
 ·exact ⟨[.sl [] (some 0) (some true)], ⟨[], _, _, rfl, by simp, by simp⟩, Eh.one1 (.nil _ _ none 0 (by rintro n ⟨⟩; rfl) (by rintro b ⟨⟩; rfl) (fun _ => rfl)), by intro u hu; simp at hu; subst hu; rfl⟩
 by_cases h0 : len = 0
 ·subst h0
  exact ⟨[.sl [] none none], ⟨[], _, _, rfl, by simp, by simp⟩, Eh.one1 (.nil _ _ (some a) cap (fun _ h => by cases h) (fun _ h => by cases h) (fun h => by cases h)), by intro u hu; simp at hu; subst hu; rfl⟩
 obtain ⟨b, off, spot⟩ := a
 obtain ⟨hsp, hb⟩ : spot = none ∧ b < w.heap.size := by
  have h1 := hat 0 (by omega)
  rw [List.getElem?_eq_getElem (by omega), Option.bind_eq_some_iff] at h1
  obtain ⟨cs', h2, h3⟩ := h1
  unfold World.cells? at h2
  rw [if_pos (Nat.zero_le _)] at h2
  have hl := mapM_some_length h2
  simp only [List.length_range, hc] at hl
  have h4 := mapM_some_get h2 0 0 (by simp [hc, hs])
  rw [List.getElem?_eq_getElem (by omega)] at h4
  simp [Addr.add] at h4
  exact ⟨World.cell?_spot h4, qBT h4⟩
 subst hsp
 have hadd : ∀ k, (Addr.mk b off none).add k = ⟨b, off + k, none⟩ := fun k => by
  unfold Addr.add
  split
  ·rename_i h; subst h; rfl
  ·rfl
 have hadd2 : ∀ o k, (Addr.mk b o none).add k = ⟨b, o + k, none⟩ := fun o k => by
  unfold Addr.add
  split
  ·rename_i h; subst h; rfl
  ·rfl
 have hone : ∀ i, i < len → ∃ el : List T, S el ∧ el.length = s ∧ (∀ u ∈ el, u.one = true) ∧ ∀ k, k < s → ∃ v, w.cell? ⟨b, off + i * s + k, none⟩ = some v ∧ ∀ u, el[k]? = some u → TR w (Old w) u v := fun i hi => by
  have h1 := hat i hi
  rw [List.getElem?_eq_getElem (by omega), Option.bind_eq_some_iff] at h1
  obtain ⟨cs', h2, h3⟩ := h1
  obtain ⟨el, hS, htr, ho⟩ := he H enc w held n cs' _ h3
  unfold World.cells? at h2
  rw [if_pos (Nat.zero_le _)] at h2
  have hl := mapM_some_length h2
  simp only [List.length_range, hc] at hl
  refine ⟨el, hS, by rw [htr.1, hl], ho, fun k hk => ?_⟩
  have h4 := mapM_some_get h2 k k (by simp [hc, hk])
  rw [List.getElem?_eq_getElem (by omega), hadd, hadd2, hc] at h4
  exact ⟨cs'[k], h4, fun u hu => htr.2 k u _ hu (List.getElem?_eq_getElem (by omega))⟩
 obtain ⟨es, hlen, hes⟩ := q7Y len hone
 have hget : ∀ i (hi : i < es.length), es[i]? = some es[i] := fun i hi => List.getElem?_eq_getElem hi
 refine ⟨[.sl es none none], ⟨es, none, none, rfl, by omega, fun x hx => ?_⟩, ?_, by intro u hu; simp at hu; subst hu; rfl⟩
 ·obtain ⟨i, hi, rfl⟩ := List.getElem_of_mem hx
  have := hes i _ (hget i hi)
  exact ⟨this.1, this.2.1⟩
 ·rw [← hlen]
  refine Eh.one1 (.sl es none none s b off cap (fun i k => (w.cell? ⟨b, off + i * s + k, none⟩).getD .nilFunc) ?_ ?_ ?_ ?_ hb (by omega) (fun _ h => by cases h) (fun _ h => by cases h))
  ·intro i k hi hk
   obtain ⟨v, hv, _⟩ := (hes i _ (hget i hi)).2.2.2 k hk
   simp [hv]
  ·intro i el hi
   exact (hes i _ hi).2.1
  ·intro i k el u hi hu
   have hq := hes i _ hi
   have hk : k < s := by rw [← hq.2.1]; exact (List.getElem?_eq_some_iff.1 hu).1
   obtain ⟨v, hv, hr⟩ := hq.2.2.2 k hk
   simp only [hv, Option.getD_some]
   exact hr u hu
  ·intro i k el u hi hu
   exact (hes i _ hi).2.2.1 u (List.mem_of_getElem? hu)
def q4w : List (Nat × (List T → Prop)) → List T → Prop
 | [], ts => ts = []
 | (_, S) :: l, ts => ∃ a b, ts = a ++ b ∧ S a ∧ q4w l b
inductive qDO (P : Program) : Nat → List Field → List (Nat × (List T → Prop)) → Prop
 | nil (o : Nat) : qDO P o [] []
 | cons {o n : Nat} {f : Field} {S : List T → Prop} {fl : List Field} {l : List (Nat × (List T → Prop))} (h1 : f.offset = o) (h2 : P.cellsOf f.type = n) (h3 : Rd P f.type S) (h : qDO P (o + n) fl l) : qDO P o (f :: fl) ((n, S) :: l)
def q9E : List (Nat × (List T → Prop)) → Nat
 | [] => 0
 | (n, _) :: l => n + q9E l
theorem q7Z {H : Type} {enc : TypeId × Value → H} {w : World} {held : Bool} {m : Nat} {cs : List Value} : ∀ {fl : List Field} {l : List (Nat × (List T → Prop))} {o : Nat}, qDO P o fl l → (∀ f ∈ fl, ∃ x, DataW.trod enc P w 0 (fun _ => true) held m f.type ((cs.drop f.offset).take (P.cellsOf f.type)) = some x) → cs.length = o + q9E l →
  ∃ ts, q4w l ts ∧ Eh w (Old w) ts (cs.drop o) ∧ ∀ u ∈ ts, u.one = true
 | _, _, o, .nil _, _, hl => ⟨[], rfl, by rw [List.drop_of_length_le (by simp [q9E] at hl; omega)]; exact Eh.nil w _, by simp⟩
 | _, _, o, .cons (n := n) (f := f) (S := S) (l := l) h1 h2 h3 h, hx, hl => by
  obtain ⟨x, hx0⟩ := hx f List.mem_cons_self
  rw [h1, h2] at hx0
  obtain ⟨a, ha, hta, hoa⟩ := h3 H enc w held m _ _ hx0
  obtain ⟨b, hb, htb, hob⟩ := q7Z h (fun g hg => hx g (List.mem_cons_of_mem _ hg)) (by simp only [q9E] at hl; omega)
  refine ⟨a ++ b, ⟨a, b, rfl, ha, hb⟩, ?_, fun u hu => ?_⟩
  ·have := hta.append htb
   rwa [← List.drop_drop, List.take_append_drop] at this
  ·rcases List.mem_append.1 hu with hu | hu
   ·exact hoa u hu
   ·exact hob u hu
theorem Yc {fs : Array Field} {l : List (Nat × (List T → Prop))} (ht : P.underlying t = some (.struct fs)) (hc : P.cellsOf t = q9E l) (hf : qDO P 0 fs.toList l) : Rd P t (q4w l) := by
 intro H enc w held fuel cs x h
 obtain ⟨xs, m, rfl, rfl, hcl, hn, hat⟩ := DataW.trod_struct ht h
 have := q7Z (enc := enc) (w := w) (held := held) (m := m) (cs := cs) hf (fun f hf' => by
  obtain ⟨i, hi, rfl⟩ := List.getElem_of_mem hf'
  have := hat i fs.toList[i] (by simp at hi; simp [hi])
  rw [List.getElem?_eq_getElem (by simp at hi; omega)] at this
  exact ⟨_, this⟩) (by omega)
 simpa using this
theorem q9F {H : Type} {enc : TypeId × Value → H} {w : World} {held : Bool} {m s : Nat} {S : List T → Prop} (he : Rd P e S) (hs : P.cellsOf e = s) : ∀ (n : Nat) (cs : List Value), (∀ i, i < n → ∃ x, DataW.trod enc P w 0 (fun _ => true) held m e ((cs.drop (i * s)).take s) = some x) → cs.length = n * s →
  ∃ ts, q4w (List.replicate n (s, S)) ts ∧ Eh w (Old w) ts cs ∧ ∀ u ∈ ts, u.one = true
 | 0, cs, _, hl => ⟨[], rfl, by have h0 : cs = [] := List.eq_nil_of_length_eq_zero (by simpa using hl); rw [h0]; exact Eh.nil w _, by simp⟩
 | n + 1, cs, hx, hl => by
  obtain ⟨x, hx0⟩ := hx 0 (by omega)
  simp only [Nat.zero_mul, List.drop_zero] at hx0
  obtain ⟨a, ha, hta, hoa⟩ := he H enc w held m _ _ hx0
  have hl' : cs.length = n * s + s := by rw [hl, Nat.add_mul, Nat.one_mul]
  obtain ⟨b, hb, htb, hob⟩ := q9F he hs n (cs.drop s) (fun i hi => by
   obtain ⟨x, hx1⟩ := hx (i + 1) (by omega)
   rw [Nat.add_mul, Nat.one_mul, Nat.add_comm (i * s)] at hx1
   exact ⟨x, by rw [List.drop_drop]; exact hx1⟩) (by simp; omega)
  refine ⟨a ++ b, ⟨a, b, rfl, ha, hb⟩, ?_, fun u hu => ?_⟩
  ·have := hta.append htb
   rwa [List.take_append_drop] at this
  ·rcases List.mem_append.1 hu with hu | hu
   ·exact hoa u hu
   ·exact hob u hu
theorem q6H {n s : Nat} {S : List T → Prop} (ht : P.underlying t = some (.array n e)) (hs : P.cellsOf e = s) (hc : P.cellsOf t = n * s) (he : Rd P e S) : Rd P t (q4w (List.replicate n (s, S))) := by
 intro H enc w held fuel cs x h
 obtain ⟨xs, m, rfl, rfl, hcl, hn, hat⟩ := DataW.trod_array ht h
 refine q9F (enc := enc) (held := held) (m := m) he hs n cs (fun i hi => ?_) (by omega)
 have := hat i hi
 rw [hs, List.getElem?_eq_getElem (by omega)] at this
 exact ⟨_, this⟩
theorem qDP {w : World} {X : Nat → Prop} {ts : List T} {cs : Array Value} (h : Eh w X ts cs.toList) (ho : ∀ u ∈ ts, u.one = true) : TR w X (.agg ts) (.agg cs) := by
 have : cs = cs.toList.toArray := by simp
 rw [this]
 exact .agg ts cs.toList h.1 (fun k u hk => ho u (List.mem_of_getElem? hk)) h.2
theorem qAa {H : Type} {enc : TypeId × Value → H} {w : World} {base : Nat} {sp : Nat → Bool} {held : Bool} {fuel : Nat} {n : Nat} {q : TypeId} {k : IntKind} {cs : List Value} {l : List (Int × Int)} {p : List MemPlace}
  (ht : P.underlying t = some (.array n e)) (he : P.underlying e = some (.array 2 q)) (hq : P.underlying q = some (.int k)) (hcq : P.cellsOf q = 1) (hce : P.cellsOf e = 2) (hct : P.cellsOf t = n * 2)
  (h : DataW.trod enc P w base sp held fuel t cs = some (.agg (l.map fun x => .agg [.lit (.int k x.1), .lit (.int k x.2)]), p)) : cs = l.flatMap fun x => [.int k x.1, .int k x.2] := by
 obtain ⟨xs, m, rfl, hx, hcl, hn, hat⟩ := DataW.trod_array ht h
 simp only [Prod.mk.injEq, DataW.agg.injEq] at hx
 have hxs := hx.1
 have hl : l.length = n := by have := congrArg List.length hxs; simp at this; omega
 have hi : ∀ i (h : i < l.length), (cs.drop (i * 2)).take 2 = [.int k l[i].1, .int k l[i].2] := fun i hi => by
  have h1 := hat i (by omega)
  rw [hce, List.getElem?_eq_getElem (by omega)] at h1
  have h2 : xs[i].1 = .agg [.lit (.int k l[i].1), .lit (.int k l[i].2)] := by
   have := congrArg (fun z => z[i]?) hxs
   simp only [List.getElem?_map, List.getElem?_eq_getElem hi, List.getElem?_eq_getElem (show i < xs.length by omega), Option.map_some, Option.some.injEq] at this
   exact this.symm
  have h3 : xs[i] = (.agg [.lit (.int k l[i].1), .lit (.int k l[i].2)], xs[i].2) := by rw [← h2]
  rw [h3] at h1
  exact Lib.cells_of_tab (zs := [l[i].1, l[i].2]) he hq hcq hce h1
 have hcl' : cs.length = l.length * 2 := by omega
 clear h hat hx hxs hcl hn hct ht hl
 induction l generalizing cs with
 | nil => exact List.eq_nil_of_length_eq_zero (by simpa using hcl')
 | cons x l ih =>
  have h0 := hi 0 (by simp)
  simp only [Nat.zero_mul, List.drop_zero, List.getElem_cons_zero] at h0
  have hr := ih (cs := cs.drop 2) (fun i h => by
   have := hi (i + 1) (by simpa using h)
   rw [Nat.add_mul, Nat.one_mul, Nat.add_comm (i * 2)] at this
   simpa [List.drop_drop] using this) (by simp at hcl' ⊢; omega)
  rw [List.flatMap_cons, ← h0, ← hr, List.take_append_drop]
theorem q24 {H : Type} {enc : TypeId × Value → H} {W W' : World} (hl : laidOutB P = true) (hb : Below W.heap.size W W') : ∀ {ts : List TypeId} {vs : List Value} {ds : List (DataW H)} {p : List MemPlace}, (∀ t ∈ ts, P.readableRec t = true ∧ t < P.types.size) → DataW.TrodAll enc P W 0 (fun _ => true) true ts vs ds p → (∀ x ∈ p, x.block < W.heap.size) → DataW.TrodAll enc P W' 0 (fun b => decide (b < W.heap.size)) true ts vs ds p
 | [], [], [], _, _, h, _ => h
 | [], [], _ :: _, _, _, h, _ => h.elim
 | [], _ :: _, _, _, _, h, _ => by cases h
 | _ :: _, [], _, _, _, h, _ => by cases h
 | _ :: _, _ :: _, [], _, _, h, _ => by cases h
 | t :: ts, v :: vs, d :: ds, _, hr, h, hlt => by
  obtain ⟨p1, q1, h1, h2, rfl⟩ := h
  have hr0 := hr t List.mem_cons_self
  exact ⟨p1, q1, Below.trod hl hr0.1 hr0.2 h1 hb (fun x hx => hlt x (List.mem_append_left _ hx)), q24 hl hb (fun t' ht => hr t' (List.mem_cons_of_mem _ ht)) h2 (fun x hx => hlt x (List.mem_append_right _ hx)), rfl⟩
theorem qIZ {H : Type} {enc : TypeId × Value → H} {f : Func} {s : ChangeSpec} {W W' : World} {args : Array Value} {ds gs : List (DataW H)} {before : List MemPlace} {tb : TypeId}
  (hl : laidOutB P = true) (hr : ∀ t ∈ f.params.toList, P.readableRec t = true ∧ t < P.types.size) (hv : s.vars = []) (hres : f.resultTypes = #[tb]) (htb : P.underlying tb = some .bool)
  (hW : DataW.Whole enc P f.params.toList s.vars false W args.toList ds gs before) (hfn : (s.fn H (ds ++ gs)).results = [.lit (.bool true)]) (hfa : (s.fn H (ds ++ gs)).args = ds) (hfv : (s.fn H (ds ++ gs)).vars = []) (hb : Below W.heap.size W W') :
  s.post enc P f false true false false W args (.bool true) W' := by
 have hW' := hW
 obtain ⟨p, q, hA, hV, rfl, _, _⟩ := hW
 have hlt : ∀ x ∈ p ++ q, x.block < W.heap.size := fun x hx => by simpa using hW'.lt x hx
 have hargs := q24 hl hb hr hA (fun x hx => hlt x (List.mem_append_left _ hx))
 rw [hv] at hV
 obtain ⟨rfl, rfl⟩ := ChangeShapes.trodVars_none hV
 refine ⟨ds, [], p ++ [], [], p, [], hW', ?_, ?_, ?_, hb.frame _, fun h => by cases h⟩
 ·rw [hfn, hres]
  exact ChangeShapes.trodAll_mk1 (RowKit.shut_bool htb _)
 ·rw [hfa]; exact hargs
 ·rw [hv, hfv]; rfl
theorem qHm {Γ : Tables} {f : FuncId} {N n : Nat} {ic : IC} {rvs : List RV} {args : List T} {W : World} {vs : List Value} (hc : As P f ic N n rvs = true) (h : Ae P Γ f args (.v (.bool true))) (hg : Gl Γ W (Old W)) (ha : Eh W (Old W) args vs) :
  Calls P f vs.toArray W fun e W' => e = .returned (.bool true) ∧ Below W.heap.size W W' := by
 rcases h W (Old W) vs hg (fun b hb => hb) ha with ⟨_, h2⟩ | ⟨v, h1, _⟩
 ·refine h2.mono fun e W' ⟨v, he, hb, hr⟩ => ?_
  cases hr
  exact ⟨he, hb⟩
 ·rw [q3P hc] at h1
  cases h1
end Go.Lg
