/- THE LOGIC, part 27: code. Conditions: none. -/
import Derived.Test.YtgnomdkcimglbaaGreatDoorPkB
import Derived.Scope
import Derived.ChangeArms
import Derived.DataReads
import Derived.OpenShut
import Derived.Carry
import Derived.Handed
import Derived.Lib.LaidTab
set_option linter.unusedSimpArgs false
set_option linter.unusedVariables false
namespace Go.Lg
open Go
inductive Gh where
  | keep (ks rs : List Nat)
  | frz (id : Nat)
  | nl (slot id ty s : Nat)
  | nlb (rid k id ty s : Nat)
  | ren (a b : Nat)
  | renS (a base slot : Nat)
  | keepB (ks rs : List Nat) (base N : Nat)
  | frzs (base n : Nat)
def Hg : List Nat → St → St
  | [], st => st
  | id :: ids, st => Hg ids (st.kill id)
def Gt (a b i : Nat) : Option Nat := if i = a then some b else some i
def Vi (a b : Nat) : List (Nat × Bj) → List (Nat × Bj)
  | [] => []
  | (k, r) :: l => (if k = a then b else k, Cd (Gt a b) r) :: Vi a b l
def q9m (base : Nat) : Nat → St → St
  | 0, st => st
  | n + 1, st => q9m base n (st.freeze (base + n))
def q2r (a b : Nat) (st : St) : St := if (A7 st.hp b).isNone && (A7 st.hp a).isSome && decide (a < 1000000) && decide (b < 1000000) then ⟨st.env.map fun p => (p.1, Bm (Gt a b) p.2), Vi a b st.hp⟩ else st
def q5G (ks rs : List Nat) (base N : Nat) (st : St) : St :=
  let s1 := Hg ((st.hp.map (·.1)).filter fun id => !rs.contains id && !(decide (base ≤ id) && decide (id < base + N))) ⟨Lg.keep ks st.env, st.hp⟩
  ⟨s1.env, Lg.keep rs s1.hp ++ Lg.keep (List.range' base N) s1.hp⟩
def Gh.run : Gh → St → St
  | .renS a base slot, st => match A7 st.env slot with
    | some (.t (.v (.int _ n))) => q2r a (base + n.toNat) st
    | _ => st
  | .keepB ks rs base N, st => q5G ks rs base N st
  | .ren a b, st => q2r a b st
  | .frzs base n, st => q9m base n st
  | .keep ks rs, st =>
    let s1 := Hg ((st.hp.map (·.1)).filter fun id => !rs.contains id) ⟨Lg.keep ks st.env, st.hp⟩
    ⟨s1.env, Lg.keep rs s1.hp⟩
  | .frz id, st => st.freeze id
  | .nl slot id ty s, st => match A7 st.env slot with
    | some (.t (.sl [] (some 0) _)) => if (A7 st.hp id).isNone && decide (id < 1000000) then ⟨(slot, .ls id 0 0 none) :: st.env, (id, .sl ty s []) :: st.hp⟩ else st
    | _ => st
  | .nlb rid k id ty s, st => match A7 st.hp rid with
    | some (.bx cs) => match cs[k]? with
      | some (.t (.sl [] (some 0) _)) => if (A7 st.hp id).isNone && decide (id < 1000000) then ⟨st.env, (id, .sl ty s []) :: Fq rid (.bx (cs.set k (.ls id 0 0 none))) st.hp⟩ else st
      | _ => st
    | _ => st
inductive IC where
  | skip
  | reg (ros : List RO) (gs : List Gh)
  | seq (a b : IC)
  | cond (c : Operand) (a b : IC)
  | block (id : Nat) (a : IC)
  | loop (a : IC)
  | exit (id : Nat)
  | ret
  | scope (a : IC)
  | gh (a : IC) (gs : List Gh)
  | dead
inductive AX where
  | normal
  | exit (id : Nat)
  | ret
def Wn (P : Program) (N : Nat) : IC → Code → Bool
  | .skip, .skip => true
  | .skip, .label _ => true
  | .reg ros _, .region _ ops dr => q05 P N ops.toList ros ops.toList && (!dr || q9i ros ops.toList)
  | .seq a b, .seq c d => Wn P N a c && Wn P N b d
  | .cond x a b, .cond y c d => Bw x y && Aj x && Wn P N a c && Wn P N b d
  | .block i a, .block j c => i == j && Wn P N a c
  | .loop a, .loop c => Wn P N a c
  | .exit i, .exit j => i == j
  | .ret, .ret => true
  | .scope a, .scope c => Wn P N a c
  | .gh a _, c => Wn P N a c
  | .dead, _ => true
  | _, _ => false
def An (n : St → Prop) (Q : AX → St → Prop) : AX → St → Prop
  | .normal, s => n s
  | e, s => Q e s
def J1 (id : Nat) (Q : AX → St → Prop) : AX → St → Prop
  | .exit i, s => if i = id then Q .normal s else Q (.exit i) s
  | e, s => Q e s
def qC6 (F : (AX → St → Prop) → St → Prop) (Q : AX → St → Prop) : Nat → St → Prop
  | 0, _ => False
  | n + 1, s => F (An (qC6 F Q n) Q) s
def awp (P : Program) (Γ : Tables) : IC → (AX → St → Prop) → St → Prop
  | .skip, Q, s => Q .normal s
  | .reg ros gs, Q, s => ∃ s1, Nh P Γ ros s s1 ∧ Q .normal (gs.foldl (fun s g => g.run s) s1)
  | .seq a b, Q, s => awp P Γ a (An (awp P Γ b Q) Q) s
  | .cond c a b, Q, s => ∃ t, ev Γ s.env c = some (.t (.v (.bool t))) ∧ (t = true → awp P Γ a Q s) ∧ (t = false → awp P Γ b Q s)
  | .block id a, Q, s => awp P Γ a (J1 id Q) s
  | .loop a, Q, s => ∃ n, qC6 (awp P Γ a) Q n s
  | .exit i, Q, s => Q (.exit i) s
  | .ret, Q, s => Q .ret s
  | .scope a, Q, s => awp P Γ a Q s
  | .gh a gs, Q, s => awp P Γ a (An (fun s => Q .normal (gs.foldl (fun s g => g.run s) s)) Q) s
  | .dead, _, _ => False
def AX.to : AX → Exit
  | .normal => .normal
  | .exit i => .exit i
  | .ret => .ret
section
variable {P : Program} {Γ : Tables} {w0 : World} {B : Nat} {κ : D6} {X0 X : Nat → Prop} {st st1 : St} {N : Nat} {a : Act} {w : World}
theorem Bl : ∀ {c : IC} {Q Q' : AX → St → Prop} {s : St}, awp P Γ c Q s → (∀ e s, Q e s → Q' e s) → awp P Γ c Q' s
  | .skip, _, _, _, h, hq => hq _ _ h
  | .reg _ _, _, _, _, ⟨s1, h1, h2⟩, hq => ⟨s1, h1, hq _ _ h2⟩
  | .seq a b, Q, Q', s, h, hq => Bl (c := a) h fun e s h => by
    cases e with
    | normal => exact Bl (c := b) h hq
    | exit i => exact hq _ _ h
    | ret => exact hq _ _ h
  | .cond _ a b, _, _, _, ⟨t, h1, h2, h3⟩, hq => ⟨t, h1, fun e => Bl (c := a) (h2 e) hq, fun e => Bl (c := b) (h3 e) hq⟩
  | .block id a, Q, Q', s, h, hq => Bl (c := a) h fun e s h => by
    cases e with
    | normal => exact hq _ _ h
    | exit i => simp only [J1] at h ⊢; split <;> rename_i hi <;> simp only [hi, if_true, if_false] at h <;> exact hq _ _ h
    | ret => exact hq _ _ h
  | .loop a, Q, Q', s, ⟨n, h⟩, hq => by
    refine ⟨n, ?_⟩
    induction n generalizing s with
    | zero => exact h
    | succ n ih =>
      refine Bl (c := a) h fun e s h => ?_
      cases e with
      | normal => exact ih _ h
      | exit i => exact hq _ _ h
      | ret => exact hq _ _ h
  | .exit _, _, _, _, h, hq => hq _ _ h
  | .ret, _, _, _, h, hq => hq _ _ h
  | .scope a, _, _, _, h, hq => Bl (c := a) h hq
  | .gh a gs, _, _, _, h, hq => Bl (c := a) h fun e s h => by
    cases e with
    | normal => exact hq _ _ h
    | exit i => exact hq _ _ h
    | ret => exact hq _ _ h
  | .dead, _, _, _, h, _ => h.elim
theorem Hy : ∀ {c : IC} {Q : AX → St → Prop} {s : St}, awp P Γ c Q s → ∃ e s', Q e s' ∧ awp P Γ c (fun e2 s2 => e2 = e ∧ s2 = s') s
  | .skip, _, _, h => ⟨_, _, h, rfl, rfl⟩
  | .reg _ _, _, _, ⟨s1, h1, h2⟩ => ⟨_, _, h2, s1, h1, rfl, rfl⟩
  | .seq a b, Q, s, h => by
    obtain ⟨e, s1, h1, h2⟩ := Hy (c := a) h
    cases e with
    | normal =>
      obtain ⟨e2, s2, h3, h4⟩ := Hy (c := b) h1
      exact ⟨e2, s2, h3, Bl (c := a) h2 fun e s ⟨he, hs⟩ => by subst he; subst hs; exact h4⟩
    | exit i => exact ⟨_, _, h1, Bl (c := a) h2 fun e s ⟨he, hs⟩ => by subst he; subst hs; exact ⟨rfl, rfl⟩⟩
    | ret => exact ⟨_, _, h1, Bl (c := a) h2 fun e s ⟨he, hs⟩ => by subst he; subst hs; exact ⟨rfl, rfl⟩⟩
  | .cond c a b, Q, s, ⟨t, h1, h2, h3⟩ => by
    cases t with
    | true =>
      obtain ⟨e, s1, h4, h5⟩ := Hy (c := a) (h2 rfl)
      exact ⟨e, s1, h4, true, h1, fun _ => h5, fun h => by cases h⟩
    | false =>
      obtain ⟨e, s1, h4, h5⟩ := Hy (c := b) (h3 rfl)
      exact ⟨e, s1, h4, false, h1, (fun h => by cases h), fun _ => h5⟩
  | .block id a, Q, s, h => by
    obtain ⟨e, s1, h1, h2⟩ := Hy (c := a) h
    cases e with
    | normal => exact ⟨_, _, h1, Bl (c := a) h2 fun e s ⟨he, hs⟩ => by subst he; subst hs; exact ⟨rfl, rfl⟩⟩
    | ret => exact ⟨_, _, h1, Bl (c := a) h2 fun e s ⟨he, hs⟩ => by subst he; subst hs; exact ⟨rfl, rfl⟩⟩
    | exit i =>
      by_cases hi : i = id
      · simp only [J1, hi, if_true] at h1
        exact ⟨_, _, h1, Bl (c := a) h2 fun e s ⟨he, hs⟩ => by subst he; subst hs; simp [J1, hi]⟩
      · simp only [J1, hi, if_false] at h1
        exact ⟨_, _, h1, Bl (c := a) h2 fun e s ⟨he, hs⟩ => by subst he; subst hs; simp [J1, hi]⟩
  | .loop a, Q, s, ⟨n, h⟩ => by
    induction n generalizing s with
    | zero => exact h.elim
    | succ n ih =>
      obtain ⟨e, s1, h1, h2⟩ := Hy (c := a) h
      cases e with
      | normal =>
        obtain ⟨e2, s2, h3, m, h4⟩ := ih _ h1
        exact ⟨e2, s2, h3, m + 1, Bl (c := a) h2 fun e s ⟨he, hs⟩ => by subst he; subst hs; exact h4⟩
      | exit i => exact ⟨_, _, h1, 1, Bl (c := a) h2 fun e s ⟨he, hs⟩ => by subst he; subst hs; exact ⟨rfl, rfl⟩⟩
      | ret => exact ⟨_, _, h1, 1, Bl (c := a) h2 fun e s ⟨he, hs⟩ => by subst he; subst hs; exact ⟨rfl, rfl⟩⟩
  | .exit _, _, _, h => ⟨_, _, h, rfl, rfl⟩
  | .ret, _, _, h => ⟨_, _, h, rfl, rfl⟩
  | .scope a, Q, s, h => Hy (c := a) h
  | .gh a gs, Q, s, h => by
    obtain ⟨e, s1, h1, h2⟩ := Hy (c := a) h
    cases e with
    | normal => exact ⟨_, _, h1, Bl (c := a) h2 fun e s ⟨he, hs⟩ => by subst he; subst hs; exact ⟨rfl, rfl⟩⟩
    | exit i => exact ⟨_, _, h1, Bl (c := a) h2 fun e s ⟨he, hs⟩ => by subst he; subst hs; exact ⟨rfl, rfl⟩⟩
    | ret => exact ⟨_, _, h1, Bl (c := a) h2 fun e s ⟨he, hs⟩ => by subst he; subst hs; exact ⟨rfl, rfl⟩⟩
  | .dead, _, _, h => h.elim
theorem qC7 {c : IC} {Q : AX → St → Prop} {s : St} (h : awp P Γ c (An (awp P Γ (.loop c) Q) Q) s) : awp P Γ (.loop c) Q s := by
  obtain ⟨e, s1, h1, h2⟩ := Hy h
  cases e with
  | normal =>
    obtain ⟨n, h1⟩ := h1
    exact ⟨n + 1, Bl h2 fun e s ⟨he, hs⟩ => by subst he; subst hs; exact h1⟩
  | exit i => exact ⟨1, Bl h2 fun e s ⟨he, hs⟩ => by subst he; subst hs; exact h1⟩
  | ret => exact ⟨1, Bl h2 fun e s ⟨he, hs⟩ => by subst he; subst hs; exact h1⟩
theorem q28 : ∀ {ids : List Nat} {st : St} {X : Nat → Prop} {μ : D6} {tm : Array Value}, Bo w0 B κ X μ st tm w → Bo w0 B κ X μ (Hg ids st) tm w
  | [], _, _, _, _, h => h
  | id :: ids, _, _, _, _, h => q28 (ids := ids) (h.kill id)
theorem Yn : ∀ {ids : List Nat} {st : St} {t : Nat}, A7 (Hg ids st).hp t ≠ none → t ∉ ids ∧ A7 st.hp t ≠ none
  | [], _, _, h => ⟨by simp, h⟩
  | id :: ids, st, t, h => by
    obtain ⟨h1, h2⟩ := Yn (ids := ids) h
    rw [Xa] at h2
    split at h2
    · exact absurd rfl h2
    · rename_i hne
      refine ⟨by simp [hne, h1], fun e => h2 (by rw [e]; rfl)⟩
theorem q5j {α : Type} : ∀ {l : List (Nat × α)} {t : Nat}, A7 l t ≠ none → t ∈ l.map (·.1)
  | [], _, h => absurd rfl h
  | (k, v) :: l, t, h => by
    simp only [A7] at h
    split at h
    · rename_i e; simp [e]
    · exact List.mem_cons_of_mem _ (q5j h)
theorem q29 {α : Type} {ks : List Nat} {l : List (Nat × α)} {t : Nat} (h : A7 l t ≠ none → t ∈ ks) : A7 (Lg.keep ks l) t = A7 l t := by
  cases hq : A7 (Lg.keep ks l) t with
  | some a => exact ((X4 ks l t a hq).1).symm
  | none =>
    cases hl : A7 l t with
    | none => rfl
    | some a =>
      exfalso
      have hm := h (by rw [hl]; simp)
      clear h
      induction ks with
      | nil => cases hm
      | cons k ks ih =>
        unfold Lg.keep at hq ih
        rw [List.filterMap_cons] at hq
        cases hk : A7 l k with
        | none =>
          rw [hk] at hq
          rcases List.mem_cons.1 hm with rfl | hm
          · rw [hl] at hk; cases hk
          · exact ih hq hm
        | some v =>
          rw [hk] at hq
          simp only [Option.map_some, A7] at hq
          split at hq
          · cases hq
          · rename_i hne
            rcases List.mem_cons.1 hm with rfl | hm
            · exact hne rfl
            · exact ih hq hm
theorem Bo.hpc {X : Nat → Prop} {μ : D6} {tm : Array Value} {hp : List (Nat × Bj)} (h : Bo w0 B κ X μ st tm w) (hl : ∀ t, A7 hp t = A7 st.hp t) : Bo w0 B κ X μ ⟨st.env, hp⟩ tm w := by
  have hs : St.sh ⟨st.env, hp⟩ = st.sh := funext fun t => by simp only [St.sh, hl]
  refine ⟨fun t a ht => ?_, fun id r hr => ?_, ?_, ?_, ?_, h.kbig, h.xlt, h.os, h.tape, h.output, h.size, h.fr⟩
  · rw [hs]; exact h.env t a ht
  · rw [hs]; exact h.reg id r (by rw [← hl]; exact hr)
  · rw [hs]; exact h.inj
  · rw [hs]; exact h.loc
  · rw [hs]; exact h.kap
theorem Bo.slot {X : Nat → Prop} {μ : D6} {tm : Array Value} {t : Nat} {b : AV} (h : Bo w0 B κ X μ st tm w) (hb : AR w X μ st.sh b (tm.getD t undef)) : Bo w0 B κ X μ ⟨(t, b) :: st.env, st.hp⟩ tm w := by
  refine ⟨fun u a ha => ?_, h.reg, h.inj, h.loc, h.kap, h.kbig, h.xlt, h.os, h.tape, h.output, h.size, h.fr⟩
  simp only [A7] at ha
  split at ha
  · rename_i e; subst e; simp only [Option.some.injEq] at ha; subst ha; exact hb
  · exact h.env u a ha
theorem TR.nil_inv {X : Nat → Prop} {nl : Option Bool} {v : Value} (h : TR w X (.sl [] (some 0) nl) v) : ∃ a, v = .slice a 0 0 := by
  cases h with
  | nil cap nl a c hc hn hz => exact ⟨a, by rw [hc 0 rfl]⟩
  | sl es cap nl s b off c f hcell hlen hrel hone hx hle hc hn => exact ⟨_, by rw [hc 0 rfl]; rfl⟩
theorem Bo.addNil {X : Nat → Prop} {μ : D6} {tm : Array Value} {id : Nat} (h : Bo w0 B κ X μ st tm w) (hi : A7 st.hp id = none) (hlt : id < 1000000) (ty s : Nat) : Bo w0 B κ X (μ.set id none) ⟨st.env, (id, .sl ty s []) :: st.hp⟩ tm w := by
  refine h.addReg hi hlt (.sl ty s []) none (fun g n e => by cases e) ⟨fun i e h => by simp at h, .inl ⟨rfl, by simp [D6.set]⟩⟩
theorem q2A {a b t : Nat} : ∀ {hp : List (Nat × Bj)}, A7 hp b = none → a ≠ b → A7 (Vi a b hp) t = if t = b then (A7 hp a).map (Cd (Gt a b)) else if t = a then none else (A7 hp t).map (Cd (Gt a b))
  | [], _, _ => by simp [Vi, A7]
  | (k, r) :: l, hb, hab => by
    simp only [A7] at hb
    split at hb
    · cases hb
    rename_i hkb
    have ih := q2A (t := t) hb hab
    simp only [Vi, A7, ih]
    by_cases hka : k = a
    · subst hka
      by_cases htb : t = b
      · subst htb; simp
      · simp [htb, Ne.symm htb]
        by_cases hta : t = k
        · simp [hta]
        · simp [hta, Ne.symm hta]
    · simp only [hka, if_false]
      by_cases htb : t = b
      · subst htb; simp [hkb]
      · by_cases hkt : k = t
        · subst hkt; simp [htb, hka]
        · simp [hkt, htb]
theorem Bo.rename {X : Nat → Prop} {μ : D6} {tm : Array Value} (h : Bo w0 B κ X μ st tm w) {x y : Nat} (hb : A7 st.hp y = none) (ha : A7 st.hp x ≠ none) (hx : x < 1000000) (hy : y < 1000000) :
    Bo w0 B κ X (fun i => if i = y then μ x else μ i) ⟨st.env.map fun p => (p.1, Bm (Gt x y) p.2), Vi x y st.hp⟩ tm w := by
  have hne : x ≠ y := fun e => ha (e ▸ hb)
  have hl := fun t => q2A (t := t) hb hne
  have hsh : ∀ t, St.sh ⟨st.env.map fun p => (p.1, Bm (Gt x y) p.2), Vi x y st.hp⟩ t = if t = y then st.sh x else if t = x then none else st.sh t := by
    intro t
    simp only [St.sh, hl]
    split
    · cases A7 st.hp x <;> simp [Lt]
    · split
      · rfl
      · cases A7 st.hp t <;> simp [Lt]
  have hyn : st.sh y = none := St.sh_none.2 hb
  have hφ : ∀ i j q, Gt x y i = some j → st.sh i = some q → St.sh ⟨st.env.map fun p => (p.1, Bm (Gt x y) p.2), Vi x y st.hp⟩ j = some q ∧ (if j = y then μ x else μ j) = μ i := by
    intro i j q hj hq
    rw [hsh]
    simp only [Gt] at hj
    split at hj <;> simp only [Option.some.injEq] at hj <;> subst hj
    · rename_i e; subst e; simp [hq]
    · rename_i e
      have : i ≠ y := fun e => by rw [e, hyn] at hq; cases hq
      simp [this, e, hq]
  -- the elder name
  have hback : ∀ t, St.sh ⟨st.env.map fun p => (p.1, Bm (Gt x y) p.2), Vi x y st.hp⟩ t ≠ none → ∃ u, st.sh u ≠ none ∧ (if t = y then μ x else μ t) = μ u ∧ (t = y ∧ u = x ∨ t ≠ y ∧ t ≠ x ∧ u = t) := by
    intro t ht
    rw [hsh] at ht
    by_cases e : t = y
    · exact ⟨x, by simpa [e] using ht, by simp [e], .inl ⟨e, rfl⟩⟩
    · by_cases f : t = x
      · rw [if_neg e, if_pos f] at ht
        exact absurd rfl ht
      · exact ⟨t, by simpa [e, f] using ht, by simp [e], .inr ⟨e, f, rfl⟩⟩
  refine ⟨?_, ?_, ?_, ?_, ?_, h.kbig, h.xlt, h.os, h.tape, h.output, h.size, h.fr⟩
  · intro t a ht
    have h1 : A7 (st.env.map fun p => (p.1, Bm (Gt x y) p.2)) t = (A7 st.env t).map (Bm (Gt x y)) := N8 _ _ _
    have ht' : A7 (st.env.map fun p => (p.1, Bm (Gt x y) p.2)) t = some a := ht
    rw [h1, Option.map_eq_some_iff] at ht'
    obtain ⟨b, hb, rfl⟩ := ht'
    exact (h.env t b hb).ren hφ
  · intro t r hr
    have hr' : A7 (Vi x y st.hp) t = some r := hr
    rw [hl] at hr'
    split at hr'
    · rename_i e; subst e
      rw [Option.map_eq_some_iff] at hr'
      obtain ⟨q, hq, rfl⟩ := hr'
      exact (h.reg x q hq).ren hφ (by simp)
    · rename_i e
      split at hr'
      · cases hr'
      · rw [Option.map_eq_some_iff] at hr'
        obtain ⟨q, hq, rfl⟩ := hr'
        exact (h.reg t q hq).ren hφ (by simp [e])
  · intro a b g n n' ha' hb' hma hmb
    obtain ⟨u, h1, h2, h3⟩ := hback a ha'
    obtain ⟨v, h4, h5, h6⟩ := hback b hb'
    have := h.inj u v g n n' h1 h4 (h2 ▸ hma) (h5 ▸ hmb)
    subst this
    rcases h3 with ⟨h3, h3'⟩ | ⟨h3, h3', h3''⟩ <;> rcases h6 with ⟨h6, h6'⟩ | ⟨h6, h6', h6''⟩
    · rw [h3, h6]
    · exact absurd (h6''.symm.trans h3') h6'
    · exact absurd (h3''.symm.trans h6') h3'
    · rw [← h3'', ← h6'']
  · intro t g n ht hm
    obtain ⟨u, h1, h2, _⟩ := hback t ht
    exact h.loc u g n h1 (h2 ▸ hm)
  · intro t hbig ht
    obtain ⟨u, h1, h2, h3⟩ := hback t ht
    rcases h3 with ⟨h3, _⟩ | ⟨_, _, h3⟩
    · omega
    · subst h3
      exact h2.trans (h.kap u hbig h1)
theorem Inv.freeze (hI : Inv Γ w0 B κ X0 N st a w) (id : Nat) : Inv Γ w0 B κ X0 N (st.freeze id) a w := by
  obtain ⟨X, μ, hsim, hg, h0, hbd, hsz, hds⟩ := hI
  simp only [St.freeze]
  split
  · rename_i r hl
    split
    · rename_i hc
      refine ⟨_, μ, hsim.freeze hl hc, hg.mono (fun _ _ => rfl) (fun _ hb => .inl hb), fun b hb => .inl (h0 b hb), fun b hb => ?_, hsz, hds⟩
      rcases hb with hb | ⟨n, hb⟩
      · exact hbd b hb
      · rcases Nat.lt_or_ge b B with hlt | hge
        · obtain ⟨id', n', hk⟩ := (hsim.loc id b n (by simp [Eo hl]) hb).2.2 hlt
          exact .inr (.inr ⟨id', n', hk⟩)
        · exact .inr (.inl hge)
    · exact ⟨X, μ, hsim, hg, h0, hbd, hsz, hds⟩
  · exact ⟨X, μ, hsim, hg, h0, hbd, hsz, hds⟩
theorem qAU {base : Nat} : ∀ {n : Nat} {st : St}, Inv Γ w0 B κ X0 N st a w → Inv Γ w0 B κ X0 N (q9m base n st) a w
  | 0, _, h => h
  | n + 1, _, h => qAU (n := n) (h.freeze (base + n))
theorem q8R (x y : Nat) (hI : Inv Γ w0 B κ X0 N st a w) : Inv Γ w0 B κ X0 N (q2r x y st) a w := by
  obtain ⟨X, μ, hsim, hg, h0, hbd, hsz, hds⟩ := hI
  simp only [q2r]
  split
  · rename_i hc
    simp only [Bool.and_eq_true, Option.isNone_iff_eq_none, decide_eq_true_eq, Option.isSome_iff_ne_none] at hc
    exact ⟨X, _, hsim.rename hc.1.1.1 hc.1.1.2 hc.1.2 hc.2, hg, h0, hbd, hsz, hds⟩
  · exact ⟨X, μ, hsim, hg, h0, hbd, hsz, hds⟩
theorem Gh.run_ok (g : Gh) (hI : Inv Γ w0 B κ X0 N st a w) : Inv Γ w0 B κ X0 N (g.run st) a w := by
  obtain ⟨X, μ, hsim, hg, h0, hbd, hsz, hds⟩ := hI
  cases g with
  | keep ks rs =>
    have h1 : Bo w0 B κ X μ ⟨Lg.keep ks st.env, st.hp⟩ a.tmps w := hsim.sub _ fun t b ht => (X4 ks _ t b ht).1
    have h2 := q28 (ids := (st.hp.map (·.1)).filter fun id => !rs.contains id) h1
    refine ⟨X, μ, h2.hpc fun t => q29 fun hne => ?_, hg, h0, hbd, hsz, hds⟩
    obtain ⟨h3, h4⟩ := Yn hne
    have h5 := q5j h4
    simp only [List.mem_filter, not_and, Bool.not_eq_true', Bool.not_eq_true] at h3
    have := h3 h5
    simpa using this
  | frz id => exact Inv.freeze ⟨X, μ, hsim, hg, h0, hbd, hsz, hds⟩ id
  | frzs base n => exact qAU ⟨X, μ, hsim, hg, h0, hbd, hsz, hds⟩
  | ren x y => exact q8R x y ⟨X, μ, hsim, hg, h0, hbd, hsz, hds⟩
  | renS x base slot =>
    simp only [Gh.run]
    split
    · exact q8R _ _ ⟨X, μ, hsim, hg, h0, hbd, hsz, hds⟩
    · exact ⟨X, μ, hsim, hg, h0, hbd, hsz, hds⟩
  | keepB ks rs base n =>
    have h1 : Bo w0 B κ X μ ⟨Lg.keep ks st.env, st.hp⟩ a.tmps w := hsim.sub _ fun t b ht => (X4 ks _ t b ht).1
    have h2 := q28 (ids := (st.hp.map (·.1)).filter fun id => !rs.contains id && !(decide (base ≤ id) && decide (id < base + n))) h1
    refine ⟨X, μ, h2.hpc fun t => ?_, hg, h0, hbd, hsz, hds⟩
    rw [Ds]
    by_cases ht : t ∈ rs
    · rw [q29 (fun _ => ht)]
      cases hl : A7 (Hg ((st.hp.map (·.1)).filter fun id => !rs.contains id && !(decide (base ≤ id) && decide (id < base + n))) ⟨Lg.keep ks st.env, st.hp⟩).hp t with
      | some r => rfl
      | none =>
        simp only [Option.none_or]
        cases hk : A7 (Lg.keep (List.range' base n) (Hg ((st.hp.map (·.1)).filter fun id => !rs.contains id && !(decide (base ≤ id) && decide (id < base + n))) ⟨Lg.keep ks st.env, st.hp⟩).hp) t with
        | none => rfl
        | some r => have := (X4 _ _ t r hk).1; rw [hl] at this; cases this
    · have e : A7 (Lg.keep rs (Hg ((st.hp.map (·.1)).filter fun id => !rs.contains id && !(decide (base ≤ id) && decide (id < base + n))) ⟨Lg.keep ks st.env, st.hp⟩).hp) t = none := by
        cases hk : A7 (Lg.keep rs (Hg ((st.hp.map (·.1)).filter fun id => !rs.contains id && !(decide (base ≤ id) && decide (id < base + n))) ⟨Lg.keep ks st.env, st.hp⟩).hp) t with
        | none => rfl
        | some r => exact absurd (X4 _ _ t r hk).2 ht
      rw [e, Option.none_or]
      refine q29 fun hne => ?_
      obtain ⟨h3, h4⟩ := Yn hne
      have h5 := q5j h4
      simp only [List.mem_filter, not_and, Bool.not_eq_true', Bool.not_eq_true] at h3
      have := h3 h5
      simp [ht] at this
      rw [List.mem_range'_1]; omega
  | nl slot id ty s =>
    simp only [Gh.run]
    split
    · rename_i nl hl
      split
      · rename_i hc
        simp only [Bool.and_eq_true, Option.isNone_iff_eq_none, decide_eq_true_eq] at hc
        have h1 := hsim.addNil hc.1 hc.2 ty s
        obtain ⟨ad, hv⟩ := (hsim.env slot _ hl).t_inv.nil_inv
        refine ⟨X, μ.set id none, h1.slot ?_, hg, h0, hbd, hsz, hds⟩
        rw [hv]
        exact .lsnil id s 0 (by simp [St.sh, A7, Bj.sh]) (by simp [D6.set]) ad none (fun q h => by cases h)
      · exact ⟨X, μ, hsim, hg, h0, hbd, hsz, hds⟩
    · exact ⟨X, μ, hsim, hg, h0, hbd, hsz, hds⟩
  | nlb rid k id ty s =>
    simp only [Gh.run]
    split
    · rename_i cs hl
      split
      · rename_i nl hk
        split
        · rename_i hc
          simp only [Bool.and_eq_true, Option.isNone_iff_eq_none, decide_eq_true_eq] at hc
          have h1 := hsim.addNil hc.1 hc.2 ty s
          have hne : rid ≠ id := fun e => by rw [e, hc.1] at hl; cases hl
          have hlk : ∀ t, A7 ((id, Bj.sl ty s []) :: Fq rid (.bx (cs.set k (.ls id 0 0 none))) st.hp) t = if t = rid then some (.bx (cs.set k (.ls id 0 0 none))) else A7 ((id, Bj.sl ty s []) :: st.hp) t := by
            intro t
            simp only [A7]
            by_cases e : id = t
            · subst e; simp [Ne.symm hne]
            · simp only [e, if_false]
              rw [E7, hl]; rfl
          have hsh : ∀ t, St.sh ⟨st.env, (id, Bj.sl ty s []) :: Fq rid (.bx (cs.set k (.ls id 0 0 none))) st.hp⟩ t = St.sh ⟨st.env, (id, Bj.sl ty s []) :: st.hp⟩ t := by
            intro t
            simp only [St.sh, hlk]
            split
            · rename_i e; subst e; simp [A7, Ne.symm hne, hl, Bj.sh]
            · rfl
          have hsf : St.sh ⟨st.env, (id, Bj.sl ty s []) :: Fq rid (.bx (cs.set k (.ls id 0 0 none))) st.hp⟩ = St.sh ⟨st.env, (id, Bj.sl ty s []) :: st.hp⟩ := funext hsh
          refine ⟨X, μ.set id none, ⟨fun t b hb => ?_, fun t r hr => ?_, ?_, ?_, ?_, h1.kbig, h1.xlt, h1.os, h1.tape, h1.output, h1.size, h1.fr⟩, hg, h0, hbd, hsz, hds⟩
          · rw [hsf]; exact h1.env t b hb
          · rw [hsf]
            simp only [hlk] at hr
            split at hr
            · rename_i e; subst e
              simp only [Option.some.injEq] at hr; subst hr
              obtain ⟨h2, g, arr, ty', hm, hg', hle, hrel⟩ := h1.reg t (.bx cs) (by simp [A7, Ne.symm hne, hl])
              obtain ⟨ad, hv⟩ : ∃ ad, arr[k]? = some (.slice ad 0 0) := by
                have hklt := (List.getElem?_eq_some_iff.1 hk).1
                have hka : k < arr.size := by rw [← hle]; exact hklt
                have h3 := hrel k _ arr[k] hk (by simp [hka])
                obtain ⟨ad, e⟩ := h3.t_inv.nil_inv
                exact ⟨ad, by simp [hka, e]⟩
              refine ⟨fun j b hb => ?_, g, arr, ty', hm, hg', by simpa using hle, fun j b x hb hx => ?_⟩
              · rw [List.getElem?_set] at hb
                split at hb
                · split at hb
                  · simp only [Option.some.injEq] at hb; subst hb; rfl
                  · cases hb
                · exact h2 j b hb
              · rw [List.getElem?_set] at hb
                split at hb
                · rename_i e; subst e
                  split at hb
                  · simp only [Option.some.injEq] at hb; subst hb
                    rw [hv] at hx; cases hx
                    exact .lsnil id s 0 (by simp [St.sh, A7, Bj.sh]) (by simp [D6.set]) ad none (fun q h => by cases h)
                  · cases hb
                · exact hrel j b x hb hx
            · exact h1.reg t r hr
          · rw [hsf]; exact h1.inj
          · rw [hsf]; exact h1.loc
          · rw [hsf]; exact h1.kap
        · exact ⟨X, μ, hsim, hg, h0, hbd, hsz, hds⟩
      · exact ⟨X, μ, hsim, hg, h0, hbd, hsz, hds⟩
    · exact ⟨X, μ, hsim, hg, h0, hbd, hsz, hds⟩
theorem q9n : ∀ {gs : List Gh} {st : St}, Inv Γ w0 B κ X0 N st a w → Inv Γ w0 B κ X0 N (gs.foldl (fun s g => g.run s) st) a w
  | [], _, h => h
  | g :: gs, _, h => q9n (gs := gs) (Gh.run_ok g h)
def post (Γ : Tables) (w0 : World) (B : Nat) (κ : D6) (X0 : Nat → Prop) (N : Nat) (Q : AX → St → Prop) : Exit → Act → World → Prop := fun e a w => ∃ x s, e = x.to ∧ Inv Γ w0 B κ X0 N s a w ∧ Q x s
theorem Inv.drawn (h : Inv Γ w0 B κ X0 N st a w) (n : Nat) : Inv Γ w0 B κ X0 N st a { w with drawn := n } := by
  have hb : RowKit.Below w.heap.size w { w with drawn := n } := by constructor <;> simp
  obtain ⟨X, μ, hsim, hg, h0, hbd, hsz, hds⟩ := h
  have hs : Same X w { w with drawn := n } := fun _ _ => rfl
  exact ⟨X, μ, hsim.grow hb (fun _ hb => hb) (fun _ hb => .inl hb), hg.mono hs (fun _ hb => hb), h0, hbd, hsz, hds⟩
theorem F3 (hN : N ≤ 1000000) (hm : P.follows .mixedOrders = true) : ∀ {c : IC} {d : Code} {Q : AX → St → Prop} {st : St} {a : Act} {w : World}, Wn P N c d = true → Inv Γ w0 B κ X0 N st a w → awp P Γ c Q st → d.wp P (post Γ w0 B κ X0 N Q) a w
  | .skip, d, Q, st, a, w, hc, hI, h => by
    cases d <;> simp [Wn] at hc
    · exact wp_skip ⟨.normal, st, rfl, hI, h⟩
    · exact wp_label ⟨.normal, st, rfl, hI, h⟩
  | .reg ros gs, d, Q, st, a, w, hc, hI, h => by
    cases d <;> simp only [Wn, Bool.false_eq_true] at hc
    rename_i id ops dr
    simp only [Bool.and_eq_true, Bool.or_eq_true, Bool.not_eq_true'] at hc
    obtain ⟨s1, h1, h2⟩ := h
    have fin : ∀ a' w', Inv Γ w0 B κ X0 N s1 a' w' → post Γ w0 B κ X0 N Q .normal a' w' := fun a' w' hI' => ⟨.normal, _, rfl, q9n hI', h2⟩
    cases dr with
    | false =>
      refine wp_region_list ?_
      have := q4W (Q := post Γ w0 B κ X0 N Q) (ops := ops.toList) hN hI hc.1 h1 fin
      rwa [Array.toArray_toList] at this
    | true =>
      have hd := hc.2.resolve_left (by simp)
      refine wp_region_any hm ?_
      have := q9k (Q := post Γ w0 B κ X0 N Q) (ops := ops.toList) hN (hI.drawn (w.drawn + 1)) hc.1 hd h1 fin
      rwa [Array.toArray_toList] at this
  | .seq x y, d, Q, st, a, w, hc, hI, h => by
    cases d <;> simp only [Wn, Bool.false_eq_true] at hc
    simp only [Bool.and_eq_true] at hc
    refine wp_seq (wp_mono (F3 hN hm (c := x) hc.1 hI h) ?_)
    rintro e a w ⟨x, s, rfl, hI, hq⟩
    cases x with
    | normal => exact F3 hN hm (c := y) hc.2 hI hq
    | exit i => exact ⟨_, s, rfl, hI, hq⟩
    | ret => exact ⟨_, s, rfl, hI, hq⟩
  | .cond o x y, d, Q, st, a, w, hc, hI, h => by
    cases d <;> simp only [Wn, Bool.false_eq_true] at hc
    simp only [Bool.and_eq_true] at hc
    obtain ⟨⟨⟨h1, h2⟩, h3⟩, h4⟩ := hc
    have := Ag h1; subst this
    obtain ⟨t, h5, h6, h7⟩ := h
    obtain ⟨X, μ, hsim, hg, h0, hbd, hsz, hds⟩ := id hI
    have hev := (B6 (ds := a.defers) hsim hg h5 h2).t_inv.v_inv
    refine wp_cond_split (t := t) hev (fun e => F3 hN hm (c := x) h3 hI (h6 e)) (fun e => F3 hN hm (c := y) h4 hI (h7 e))
  | .block i x, d, Q, st, a, w, hc, hI, h => by
    cases d <;> simp only [Wn, Bool.false_eq_true] at hc
    simp only [Bool.and_eq_true, beq_iff_eq] at hc
    obtain ⟨rfl, hc⟩ := hc
    refine wp_block (wp_mono (F3 hN hm (c := x) hc hI h) ?_)
    rintro e a w ⟨x, s, rfl, hI, hq⟩
    cases x with
    | normal => exact ⟨.normal, s, rfl, hI, hq⟩
    | ret => exact ⟨.ret, s, rfl, hI, hq⟩
    | exit j =>
      simp only [J1] at hq
      simp only [AX.to, Exit.inBlock]
      split
      · rename_i hj; rw [if_pos hj] at hq; exact ⟨.normal, s, rfl, hI, hq⟩
      · rename_i hj; rw [if_neg hj] at hq; exact ⟨.exit j, s, rfl, hI, hq⟩
  | .loop x, d, Q, st, a, w, hc, hI, h => by
    cases d <;> simp only [Wn, Bool.false_eq_true] at hc
    rename_i y
    have least : ∀ p : Nat → Prop, (∃ n, p n) → ∃ n, p n ∧ ∀ m, p m → n ≤ m := by
      intro p ⟨n, hn⟩
      induction n using Nat.strongRecOn with
      | _ n ih =>
        by_cases hlt : ∃ m, m < n ∧ p m
        · obtain ⟨m, hm, hp⟩ := hlt; exact ih m hm hp
        · exact ⟨n, hn, fun m hm => by rcases Nat.lt_or_ge m n with h | h; exact absurd ⟨m, h, hm⟩ hlt; exact h⟩
    let p : Act → World → Nat → Prop := fun a w n => ∃ s, Inv Γ w0 B κ X0 N s a w ∧ qC6 (awp P Γ x) Q n s
    classical
    refine wp_loop (fun a w => ∃ n, p a w n) (fun a w => if hp : ∃ n, p a w n then Classical.choose (least _ hp) else 0) ?_ ?_
    · obtain ⟨n, h⟩ := h; exact ⟨n, st, hI, h⟩
    · intro a w hp
      have hn := Classical.choose_spec (least _ hp)
      generalize hnn : Classical.choose (least _ hp) = n at hn
      obtain ⟨⟨s, hI, hl⟩, hmin⟩ := hn
      cases n with
      | zero => exact hl.elim
      | succ n =>
        refine wp_mono (F3 hN hm (c := x) hc hI hl) ?_
        rintro e a' w' ⟨x', s', rfl, hI', hq⟩
        cases x' with
        | normal =>
          have hp' : ∃ n, p a' w' n := ⟨n, s', hI', hq⟩
          refine ⟨hp', ?_⟩
          show (if hp : ∃ n, p a' w' n then Classical.choose (least _ hp) else 0) < (if hp : ∃ n, p a w n then Classical.choose (least _ hp) else 0)
          rw [dif_pos hp', dif_pos hp, hnn]
          have := (Classical.choose_spec (least _ hp')).2 n ⟨s', hI', hq⟩
          omega
        | exit i => exact ⟨_, s', rfl, hI', hq⟩
        | ret => exact ⟨_, s', rfl, hI', hq⟩
  | .exit i, d, Q, st, a, w, hc, hI, h => by
    cases d <;> simp only [Wn, Bool.false_eq_true, beq_iff_eq] at hc
    subst hc
    exact wp_exit ⟨.exit i, st, rfl, hI, h⟩
  | .ret, d, Q, st, a, w, hc, hI, h => by
    cases d <;> simp [Wn] at hc
    exact wp_ret ⟨.ret, st, rfl, hI, h⟩
  | .scope x, d, Q, st, a, w, hc, hI, h => by
    cases d <;> simp only [Wn, Bool.false_eq_true] at hc
    refine wp_scope_straight (wp_mono (F3 hN hm (c := x) hc hI h) ?_)
    rintro e a w ⟨x, s, rfl, hI, hq⟩
    cases x with
    | normal => exact ⟨.normal, s, rfl, hI, hq⟩
    | exit i => exact ⟨.exit i, s, rfl, hI, hq⟩
    | ret => exact ⟨.ret, s, rfl, hI, hq⟩
  | .gh x gs, d, Q, st, a, w, hc, hI, h => by
    have hc' : Wn P N x d = true := by cases d <;> simpa only [Wn] using hc
    refine wp_mono (F3 hN hm (c := x) hc' hI h) ?_
    rintro e a w ⟨x, s, rfl, hI, hq⟩
    cases x with
    | normal => exact ⟨.normal, _, rfl, q9n hI, hq⟩
    | exit i => exact ⟨.exit i, s, rfl, hI, hq⟩
    | ret => exact ⟨.ret, s, rfl, hI, hq⟩
  | .dead, d, Q, st, a, w, hc, hI, h => h.elim
end
end Go.Lg
namespace Go.Lg
open Go
inductive RV where
  | tmp (t : Nat)
  | cell (t n : Nat) (g : Bool)
def q8S (P : Program) : RV → ResultVar → Bool
  | .tmp t, .tmp u => t == u
  | .cell t n g, .cell u ty => t == u && N6 P ty == some n && Zr P ty == some g && (g || n == 1)
  | _, _ => false
def Ft (P : Program) : List RV → List ResultVar → Bool
  | [], [] => true
  | a :: as, b :: bs => q8S P a b && Ft P as bs
  | _, _ => false
def q8T (s : St) : RV → Option (Prop × AV)
  | .tmp t => (A7 s.env t).map fun a => (True, a)
  | .cell t n g => match A7 s.env t with
    | some (.lp id _ k) => match A7 s.hp id with
      | some (.bx cs) => some (k + n ≤ cs.length, Vf g ((cs.drop k).take n))
      | _ => none
    | _ => none
def q7b (s : St) (rv : RV) : Option (Prop × T) := (q8T s rv).bind fun q => (Ai s.hp 4 q.2).map fun t => (q.1, t)
def q0B (s : St) : List RV → Option (Prop × T)
  | [] => some (True, .tup [])
  | [a] => q7b s a
  | [a, b] => (q7b s a).bind fun p => (q7b s b).map fun q => (p.1 ∧ q.1, .tup [p.2, q.2])
  | [a, b, c] => (q7b s a).bind fun p => (q7b s b).bind fun q => (q7b s c).map fun r => (p.1 ∧ q.1 ∧ r.1, .tup [p.2, q.2, r.2])
  | _ => none
def B7 (P : Program) (f : FuncId) (ic : IC) (N n : Nat) (rvs : List RV) : Bool := match P.funcs[f]? with
  | some fn => (match fn.body with | some c => Wn P N ic c | none => false) && !(fn.name == "runtime.NumGoroutine") && fn.ntmps == N && decide (N ≤ 1000000) && decide (n ≤ N) && Ft P rvs fn.results.toList && P.follows .mixedOrders
  | none => false
def params : Nat → List T → List (Nat × AV)
  | _, [] => []
  | k, t :: ts => (k, .t t) :: params (k + 1) ts
theorem q8U {ts : List T} : ∀ {k i : Nat} {a : AV}, A7 (params k ts) i = some a → k ≤ i ∧ ∃ t, ts[i - k]? = some t ∧ a = .t t := by
  induction ts with
  | nil => intro k i a h; simp [params, A7] at h
  | cons t ts ih =>
    intro k i a h
    simp only [params, A7] at h
    split at h
    · rename_i e; subst e; simp only [Option.some.injEq] at h; subst h; exact ⟨Nat.le_refl _, t, by simp, rfl⟩
    · obtain ⟨h1, u, h2, h3⟩ := ih h
      refine ⟨by omega, u, ?_, h3⟩
      have : i - k = i - (k + 1) + 1 := by omega
      rw [this]; simpa using h2
def qGa (rvs : List RV) (res : T) : AX → St → Prop
  | .exit _, _ => False
  | _, s => ∃ c, q0B s rvs = some (c, res) ∧ c
section
variable {P : Program} {Γ : Tables} {w0 : World} {B : Nat} {κ : D6} {X0 X : Nat → Prop} {μ : D6} {st : St} {N : Nat} {a : Act} {w : World} {tm : Array Value}
def q70 (tm : Array Value) : ResultVar → Go.Sem Value
  | .tmp t => pure (tm.getD t undef)
  | .cell a t => do loadVar t (← asAddr (tm.getD a undef))
theorem q5H (h : Bo w0 B κ X μ st tm w) {rv : RV} {r : ResultVar} (hc : q8S P rv r = true) {c : Prop} {x : AV} (hr : q8T st rv = some (c, x)) (hcc : c) : ∃ v, (q70 tm r).run P w = .ok v w ∧ AR w X μ st.sh x v := by
  cases rv with
  | tmp t =>
    cases r <;> simp [q8S] at hc
    subst hc
    simp only [q8T, Option.map_eq_some_iff, Prod.mk.injEq] at hr
    obtain ⟨b, hb, _, rfl⟩ := hr
    exact ⟨_, rfl, h.env t b hb⟩
  | cell t n g =>
    cases r <;> simp [q8S] at hc
    rename_i u ty
    obtain ⟨⟨⟨rfl, hz⟩, ha⟩, hn⟩ := hc
    have hn : (g || n == 1) = true := by simpa using hn
    simp only [q8T] at hr
    split at hr
    · rename_i id i k hl0
      split at hr
      · rename_i cs hl
        simp only [Option.some.injEq, Prod.mk.injEq] at hr
        obtain ⟨rfl, rfl⟩ := hr
        obtain ⟨gb, m, hm, hp⟩ := (h.env t _ hl0).lp_inv
        rcases hp with ⟨s, q, hs, _⟩ | ⟨hs, rfl, he⟩
        · rw [Eo hl] at hs; cases hs
        obtain ⟨h1, g', arr, ty', hm', hheap, hsz, hr⟩ := h.reg id _ hl
        rw [hm] at hm'; cases hm'
        have hr : J0 w X μ st.sh cs arr.toList := ⟨by simp [hsz], fun k a x h2 h3 => hr k a x h2 (by simpa using h3)⟩
        have h1 : Cc cs = true := List.all_eq_true.2 fun t ht => by obtain ⟨j, hj, rfl⟩ := List.getElem_of_mem ht; exact h1 j _ (by simp [hj])
        have hlen : ((arr.toList.drop k).take n).length = n := by simp; omega
        refine ⟨if g then .agg ((arr.toList.drop k).take n).toArray else ((arr.toList.drop k).take n).headD undef, ?_, q2i ((hr.drop k).take n) (q1A h1 k n) (by rw [hlen]; exact hn)⟩
        have hrun := Yf (P := P) (w := w) hz ha hn (b := gb) (off := k) hlen (fun j x hj => by
          rw [List.getElem?_take] at hj
          split at hj
          · rw [List.getElem?_drop] at hj
            rw [cell_of_row w gb _ arr ty' (0, 0) hheap]; simpa using hj
          · cases hj)
        have e : q70 tm (.cell t ty) = (Instr.loadAt ty (.pointer (some ⟨gb, k, none⟩))) := by
          simp only [q70, he, asAddr, Instr.loadAt, Instr.sureAddr]
        rw [e]; exact hrun
      · cases hr
    · cases hr
theorem q1E (h : Bo w0 B κ X μ st tm w) {rv : RV} {r : ResultVar} (hc : q8S P rv r = true) {c : Prop} {t : T} (hr : q7b st rv = some (c, t)) (hcc : c) : ∃ v, (q70 tm r).run P w = .ok v w ∧ TR w (fun b => X b ∨ q7X st μ b) t v := by
  simp only [q7b, Option.bind_eq_some_iff, Option.map_eq_some_iff, Prod.mk.injEq] at hr
  obtain ⟨⟨c', x⟩, hq, t', ht, rfl, rfl⟩ := hr
  obtain ⟨v, h1, h2⟩ := q5H h hc hq hcc
  exact ⟨v, h1, q5b h 4 h2 ht⟩
theorem q8V (h : Bo w0 B κ X μ st tm w) {fn : Func} {rvs : List RV} (hc : Ft P rvs fn.results.toList = true) {c : Prop} {res : T} (hr : q0B st rvs = some (c, res)) (hcc : c) :
    ∃ v, (results fn tm).run P w = .ok v w ∧ TR w (fun b => X b ∨ q7X st μ b) res v := by
  have hres : results fn tm = (do let vs ← fn.results.mapM (q70 tm); pure (if h : vs.size = 1 then vs[0] else .tuple vs)) := rfl
  have hfr : fn.results = fn.results.toList.toArray := by simp
  generalize hl : fn.results.toList = l at hc hfr
  match rvs, l, hc with
  | [], [], _ =>
    simp only [q0B, Option.some.injEq, Prod.mk.injEq] at hr
    obtain ⟨rfl, rfl⟩ := hr
    exact ⟨.tuple #[], by rw [hres, hfr]; simp, TR.mk_tup (Fj.nil _ _)⟩
  | [a], [x], hc =>
    simp only [Ft, Bool.and_eq_true] at hc
    obtain ⟨v, h1, h2⟩ := q1E h hc.1 hr hcc
    exact ⟨v, by rw [hres, hfr]; simp [h1], h2⟩
  | [a, b], [x, y], hc =>
    simp only [Ft, Bool.and_eq_true] at hc
    simp only [q0B, Option.bind_eq_some_iff, Option.map_eq_some_iff, Prod.mk.injEq] at hr
    obtain ⟨p, hp, q, hq, rfl, rfl⟩ := hr
    obtain ⟨v, h1, h2⟩ := q1E h hc.1 hp hcc.1
    obtain ⟨u, h3, h4⟩ := q1E h hc.2.1 hq hcc.2
    exact ⟨.tuple #[v, u], by rw [hres, hfr]; simp [h1, h3], TR.mk_tup (Fj.cons h2 (Fj.cons h4 (Fj.nil _ _)))⟩
  | [a, b, d], [x, y, z], hc =>
    simp only [Ft, Bool.and_eq_true] at hc
    simp only [q0B, Option.bind_eq_some_iff, Option.map_eq_some_iff, Prod.mk.injEq] at hr
    obtain ⟨p, hp, q, hq, r, hr, rfl, rfl⟩ := hr
    obtain ⟨v, h1, h2⟩ := q1E h hc.1 hp hcc.1
    obtain ⟨u, h3, h4⟩ := q1E h hc.2.1 hq hcc.2.1
    obtain ⟨z, h5, h6⟩ := q1E h hc.2.2.1 hr hcc.2.2
    exact ⟨.tuple #[v, u, z], by rw [hres, hfr]; simp [h1, h3, h5], TR.mk_tup (Fj.cons h2 (Fj.cons h4 (Fj.cons h6 (Fj.nil _ _))))⟩
  | _ :: _ :: _ :: _ :: _, _, _ => simp [q0B] at hr
  | [], _ :: _, hc => simp [Ft] at hc
  | _ :: _, [], hc => simp [Ft] at hc
  | [_], _ :: _ :: _, hc => simp [Ft] at hc
  | [_, _], [_], hc => simp [Ft] at hc
  | [_, _], _ :: _ :: _ :: _, hc => simp [Ft] at hc
  | [_, _, _], [_], hc => simp [Ft] at hc
  | [_, _, _], [_, _], hc => simp [Ft] at hc
  | [_, _, _], _ :: _ :: _ :: _ :: _, hc => simp [Ft] at hc
theorem q2s {f : FuncId} {ic : IC} {n : Nat} {rvs : List RV} (hc : B7 P f ic N n rvs = true) (vs : Array Value) : (callFunc f vs).run P w = .ok (.enter f vs) w := by
  unfold B7 at hc
  split at hc
  · rename_i fn hf
    simp only [Bool.and_eq_true, Bool.not_eq_true'] at hc
    obtain ⟨⟨⟨⟨⟨⟨h1, h2⟩, h3⟩, h4⟩, h5⟩, h6⟩, h7⟩ := hc
    cases hb : fn.body with
    | none => rw [hb] at h1; cases h1
    | some c =>
      have h2' : ¬ fn.name = "runtime.NumGoroutine" := by simpa using h2
      simp [callFunc, hf, h2', hb]
  · cases hc
theorem Inv.start {ts : List T} {vs : List Value} (hg : Gl Γ w X) (hx : ∀ b, X b → b < w.heap.size) (hts : Fj w X ts vs) (hn : vs.length ≤ N) :
    Inv Γ w w.heap.size (fun _ => none) X N ⟨params 0 ts, []⟩ { tmps := vs.toArray ++ Array.replicate (N - vs.toArray.size) undef, defers := [] } w := by
  refine ⟨X, fun _ => none, ⟨?_, fun id r h => by simp [A7] at h, fun _ _ _ _ _ _ _ h => (by cases h), fun _ _ _ _ h => (by cases h), fun _ _ _ => rfl, fun _ _ h => (by cases h), hx, rfl, rfl, rfl, Nat.le_refl _, fun _ _ _ => rfl⟩, hg, fun _ h => h, fun _ h => .inl h, ?_, rfl⟩
  · intro t a ht
    obtain ⟨_, u, hu, rfl⟩ := q8U ht
    obtain ⟨x, h1, h2⟩ := hts.get hu
    simp only [Nat.sub_zero] at h1
    have hlt : t < vs.length := (List.getElem?_eq_some_iff.1 h1).1
    have : (vs.toArray ++ Array.replicate (N - vs.toArray.size) undef).getD t undef = x := by
      rw [Array.getD_eq_getD_getElem?, Array.getElem?_append_left (by simpa using hlt)]
      simp [h1]
    rw [this]; exact .t _ _ h2
  · simp; omega
theorem q9o {f : FuncId} {ic : IC} {n : Nat} {rvs : List RV} {args : List T} {res : T} (hc : B7 P f ic N n rvs = true) (hn : args.length = n) (h : awp P Γ ic (qGa rvs res) ⟨params 0 args, []⟩) : Au P Γ f args res := by
  intro w X vs hg hx hts
  refine .inl ⟨q2s hc _, ?_⟩
  unfold B7 at hc
  split at hc
  case h_2 => cases hc
  rename_i fn hf
  simp only [Bool.and_eq_true, Bool.not_eq_true', decide_eq_true_eq, beq_iff_eq] at hc
  obtain ⟨⟨⟨⟨⟨⟨h1, h2⟩, h3⟩, h4⟩, h5⟩, h6⟩, h7⟩ := hc
  cases hb : fn.body with
  | none => rw [hb] at h1; cases h1
  | some c =>
    rw [hb] at h1
    subst h3
    refine calls_of_wp hf hb ?_
    have hI := Inv.start (N := fn.ntmps) hg hx hts (by rw [← hts.1, hn]; exact h5)
    refine wp_mono (F3 h4 h7 h1 hI h) ?_
    rintro e a w' ⟨x, s, rfl, ⟨X', μ, hsim, hg', h0, hbd, hsz, hds⟩, hq⟩
    have fin : ∀ c, q0B s rvs = some (c, res) → c → a.defers = [] ∧ ∃ v, (results fn a.tmps).run P w' = .ok v w' ∧ ∃ u, Ending.returned v = .returned u ∧ RowKit.Below w.heap.size w w' ∧ TR w' (fun b => X b ∨ (w.heap.size ≤ b ∧ b < w'.heap.size)) res u := by
      intro c hr hcc
      obtain ⟨v, h8, h9⟩ := q8V hsim h6 hr hcc
      refine ⟨hds, v, h8, v, rfl, ⟨hsim.os, hsim.tape, hsim.output, hsim.size, fun k hk => hsim.fr k hk (fun id n h => by cases h)⟩, h9.mono (fun _ _ => rfl) fun b hb => ?_⟩
      rcases hb with hb | ⟨id, n, hi, hm⟩
      · rcases hbd b hb with h | h | ⟨_, _, h⟩
        · exact .inl h
        · exact .inr ⟨h, hsim.xlt b hb⟩
        · cases h
      · obtain ⟨_, h10, h11⟩ := hsim.loc id b n hi hm
        refine .inr ⟨?_, h10⟩
        rcases Nat.lt_or_ge b w.heap.size with h | h
        · obtain ⟨_, _, h⟩ := h11 h; cases h
        · exact h
    cases x with
    | normal => obtain ⟨c, hr, hcc⟩ := hq; exact fin c hr hcc
    | ret => obtain ⟨c, hr, hcc⟩ := hq; exact fin c hr hcc
    | exit i => exact hq.elim
def Es : AV → Prop
  | .t x => Ak x = true
  | .ag cs => ∀ c ∈ cs, match c with
    | .t x => Ak x = true
    | .fn _ cs => cs = []
    | _ => True
  | .fn _ cs => cs = []
  | _ => True
def Nj : Bj → Prop
  | .sl _ _ es => ∀ e ∈ es, ∀ t ∈ e, Ak t = true
  | .bx cs => ∀ c ∈ cs, Es c
  | .mp es => ∀ e ∈ es, Ak e.2 = true
  | .it _ _ => True
def Et {α : Type} (p : α → Prop) : List (Nat × α) → Prop
  | [] => True
  | x :: l => p x.2 ∧ Et p l
theorem q2B {α : Type} {p : α → Prop} : ∀ {l : List (Nat × α)} {t : Nat} {a : α}, Et p l → A7 l t = some a → p a
  | [], _, _, _, h => by simp [A7] at h
  | (k, v) :: l, t, a, h, hl => by
    simp only [A7] at hl
    split at hl
    · simp only [Option.some.injEq] at hl; subst hl; exact h.1
    · exact q2B h.2 hl
def D8 (s : St) : Prop := Et Es s.env ∧ Et Nj s.hp
theorem q8W {sh : Nat → Option Sh} {a : AV} {x : Value} {Y : Nat → Prop} (h : AR w X μ sh a x) (hf : Es a) : AR w Y μ sh a x := by
  have key : ∀ {c : AV} {y : Value}, AR w X μ sh c y → (∀ cs, c ≠ .ag cs) → (match c with | .t x => Ak x = true | .fn _ cs => cs = [] | _ => True) → AR w Y μ sh c y := by
    intro c y h hna hf
    cases h with
    | t y v hy => exact .t _ _ (q5a hy hf)
    | fn f cs xs hlen hrel => simp only at hf; subst hf; exact .fn f [] xs hlen (fun k a x h => by simp at h)
    | ag cs => exact absurd rfl (hna cs)
    | lsnil i s n hs hm oa cap hq => exact .lsnil i s n hs hm oa cap hq
    | ls i off len s n g m c cap hs hm hle hlc hcm hfit hfull hq ad had => exact .ls i off len s n g m c cap hs hm hle hlc hcm hfit hfull hq ad had
    | lpsl i j k s n g m hs hm => exact .lpsl i j k s n g m hs hm
    | lpbx i k g m hs hm => exact .lpbx i k g m hs hm
    | lm i g m hs hm => exact .lm i g m hs hm
    | lb i g m hs hm hle => exact .lb i g m hs hm hle
    | li i g m hs hm => exact .li i g m hs hm
    | dead v h => exact .dead _ h
    | un => exact .un
  by_cases hg : ∃ cs, a = .ag cs
  · obtain ⟨cs, rfl⟩ := hg
    obtain ⟨xs, rfl, h1, hr⟩ := h.ag_inv
    exact AR.mk_ag h1 ⟨hr.1, fun k c y hc hy => key (hr.2 k c y hc hy) (fun cs e => by have := Tt h1 hc; rw [e] at this; simp [AV.one] at this) (hf c (List.mem_of_getElem? hc))⟩
  · refine key h (fun cs e => hg ⟨cs, e⟩) ?_
    cases a <;> first | exact hf | exact True.intro | exact absurd ⟨_, rfl⟩ hg
theorem Bo.flat (h : Bo w0 B κ X μ st tm w) (hf : D8 st) : Bo w0 B κ (fun _ => False) μ st tm w := by
  refine ⟨fun t a ht => q8W (h.env t a ht) (q2B hf.1 ht), ?_, h.inj, fun id g n hi hm => ⟨fun h => h, (h.loc id g n hi hm).2⟩, h.kap, h.kbig, fun _ h => h.elim, h.os, h.tape, h.output, h.size, h.fr⟩
  intro id r hr
  have hfr := q2B hf.2 hr
  have := h.reg id r hr
  cases r with
  | sl ty s es =>
    refine ⟨this.1, this.2.imp (fun h => h) fun ⟨g, arr, hm, hg, hle, hr⟩ => ⟨g, arr, hm, hg, hle, fun i k e t x h1 h2 h3 => q5a (hr i k e t x h1 h2 h3) (hfr e (List.mem_of_getElem? h1) t (List.mem_of_getElem? h2))⟩⟩
  | it s pos => exact this
  | mp es =>
    obtain ⟨g, n, clock, ms, hm, hg, hle, hr⟩ := this
    exact ⟨g, n, clock, ms, hm, hg, hle, fun i e m h1 h2 => ⟨(hr i e m h1 h2).1, q5a (hr i e m h1 h2).2 (hfr e (List.mem_of_getElem? h1))⟩⟩
  | bx cs =>
    obtain ⟨h1, g, arr, ty, hm, hg, hle, hr⟩ := this
    exact ⟨h1, g, arr, ty, hm, hg, hle, fun k a x ha hx => q8W (hr k a x ha hx) (hfr a (List.mem_of_getElem? ha))⟩
def qE0 (rvs : List RV) (res : T) : AX → St → Prop
  | .exit _, _ => False
  | _, s => ∃ c, q0B s rvs = some (c, res) ∧ c ∧ D8 s
theorem q8X {f : FuncId} {ic : IC} {n : Nat} {rvs : List RV} {args : List T} {res : T} (hc : B7 P f ic N n rvs = true) (hn : args.length = n) (h : awp P Γ ic (qE0 rvs res) ⟨params 0 args, []⟩) : A8 P Γ f args res := by
  intro w X vs hg hx hts
  refine .inl ⟨q2s hc _, ?_⟩
  unfold B7 at hc
  split at hc
  case h_2 => cases hc
  rename_i fn hf
  simp only [Bool.and_eq_true, Bool.not_eq_true', decide_eq_true_eq, beq_iff_eq] at hc
  obtain ⟨⟨⟨⟨⟨⟨h1, h2⟩, h3⟩, h4⟩, h5⟩, h6⟩, h7⟩ := hc
  cases hb : fn.body with
  | none => rw [hb] at h1; cases h1
  | some c =>
    rw [hb] at h1
    subst h3
    refine calls_of_wp hf hb ?_
    have hI := Inv.start (N := fn.ntmps) hg hx hts (by rw [← hts.1, hn]; exact h5)
    refine wp_mono (F3 h4 h7 h1 hI h) ?_
    rintro e a w' ⟨x, s, rfl, ⟨X', μ, hsim, hg', h0, hbd, hsz, hds⟩, hq⟩
    have fin : ∀ c, q0B s rvs = some (c, res) → c → D8 s → a.defers = [] ∧ ∃ v, (results fn a.tmps).run P w' = .ok v w' ∧ ∃ u, Ending.returned v = .returned u ∧ RowKit.Below w.heap.size w w' ∧ TR w' (fun b => w.heap.size ≤ b ∧ b < w'.heap.size) res u := by
      intro c hr hcc hfl
      obtain ⟨v, h8, h9⟩ := q8V (hsim.flat hfl) h6 hr hcc
      refine ⟨hds, v, h8, v, rfl, ⟨hsim.os, hsim.tape, hsim.output, hsim.size, fun k hk => hsim.fr k hk (fun id n h => by cases h)⟩, h9.mono (fun _ _ => rfl) fun b hb => ?_⟩
      rcases hb with hb | ⟨id, n, hi, hm⟩
      · exact hb.elim
      · obtain ⟨_, h10, h11⟩ := hsim.loc id b n hi hm
        refine ⟨?_, h10⟩
        rcases Nat.lt_or_ge b w.heap.size with h | h
        · obtain ⟨_, _, h⟩ := h11 h; cases h
        · exact h
    cases x with
    | normal => obtain ⟨c, hr, hcc, hfl⟩ := hq; exact fin c hr hcc hfl
    | ret => obtain ⟨c, hr, hcc, hfl⟩ := hq; exact fin c hr hcc hfl
    | exit i => exact hq.elim
def q7c : Nat → List AV → List (Nat × AV)
  | _, [] => []
  | k, a :: as => (k, a) :: q7c (k + 1) as
theorem qBE {ts : List AV} : ∀ {k i : Nat} {a : AV}, A7 (q7c k ts) i = some a → k ≤ i ∧ ts[i - k]? = some a := by
  induction ts with
  | nil => intro k i a h; simp [q7c, A7] at h
  | cons t ts ih =>
    intro k i a h
    simp only [q7c, A7] at h
    split at h
    · rename_i e; subst e; simp only [Option.some.injEq] at h; subst h; exact ⟨Nat.le_refl _, by simp⟩
    · obtain ⟨h1, h2⟩ := ih h
      refine ⟨by omega, ?_⟩
      have : i - k = i - (k + 1) + 1 := by omega
      rw [this]; simpa using h2
def q6Y (s : St) : List RV → Option (Prop × AV)
  | [] => some (True, .t (.tup []))
  | [a] => q8T s a
  | [a, b] => (q8T s a).bind fun p => (q8T s b).bind fun q => (toT p.2).bind fun x => (toT q.2).map fun y => (p.1 ∧ q.1, .t (.tup [x, y]))
  | _ => none
def qE1 (rvs : List RV) (res : AV) (hp' : List (Nat × Bj)) : AX → St → Prop
  | .exit _, _ => False
  | _, s => ∃ c, q6Y s rvs = some (c, res) ∧ c ∧ s.hp = hp'
theorem qDR (h : Bo w0 B κ X μ st tm w) {fn : Func} {rvs : List RV} (hc : Ft P rvs fn.results.toList = true) {c : Prop} {res : AV} (hr : q6Y st rvs = some (c, res)) (hcc : c) :
    ∃ v, (results fn tm).run P w = .ok v w ∧ AR w X μ st.sh res v := by
  have hres : results fn tm = (do let vs ← fn.results.mapM (q70 tm); pure (if h : vs.size = 1 then vs[0] else .tuple vs)) := rfl
  have hfr : fn.results = fn.results.toList.toArray := by simp
  generalize hl : fn.results.toList = l at hc hfr
  match rvs, l, hc with
  | [], [], _ =>
    simp only [q6Y, Option.some.injEq, Prod.mk.injEq] at hr
    obtain ⟨rfl, rfl⟩ := hr
    exact ⟨.tuple #[], by rw [hres, hfr]; simp, .t _ _ (TR.mk_tup (Fj.nil _ _))⟩
  | [a], [x], hc =>
    simp only [Ft, Bool.and_eq_true] at hc
    obtain ⟨v, h1, h2⟩ := q5H h hc.1 hr hcc
    exact ⟨v, by rw [hres, hfr]; simp [h1], h2⟩
  | [a, b], [x, y], hc =>
    simp only [Ft, Bool.and_eq_true] at hc
    simp only [q6Y, Option.bind_eq_some_iff, Option.map_eq_some_iff, Prod.mk.injEq] at hr
    obtain ⟨p, hp, q, hq, x', hx', y', hy', rfl, rfl⟩ := hr
    obtain ⟨v, h1, h2⟩ := q5H h hc.1 hp hcc.1
    obtain ⟨u, h3, h4⟩ := q5H h hc.2.1 hq hcc.2
    exact ⟨.tuple #[v, u], by rw [hres, hfr]; simp [h1, h3], .t _ _ (TR.mk_tup (Fj.cons (q7V h2 hx') (Fj.cons (q7V h4 hy') (Fj.nil _ _))))⟩
  | _ :: _ :: _ :: _, _, _ => simp [q6Y] at hr
  | [], _ :: _, hc => simp [Ft] at hc
  | _ :: _, [], hc => simp [Ft] at hc
  | [_], _ :: _ :: _, hc => simp [Ft] at hc
  | [_, _], [_], hc => simp [Ft] at hc
  | [_, _], _ :: _ :: _ :: _, hc => simp [Ft] at hc
theorem qDS {f : FuncId} {ic : IC} {n : Nat} {rvs : List RV} {args : List AV} {hp hp' : List (Nat × Bj)} {res : AV} (hc : B7 P f ic N n rvs = true) (hn : args.length = n) (h : awp P Γ ic (qE1 rvs res hp') ⟨q7c 0 args, hp⟩) : Hf P Γ f hp args res hp' := by
  intro w X κ vs hg hk hs hts
  refine .inl ⟨q2s hc _, ?_⟩
  unfold B7 at hc
  split at hc
  case h_2 => cases hc
  rename_i fn hf
  simp only [Bool.and_eq_true, Bool.not_eq_true', decide_eq_true_eq, beq_iff_eq] at hc
  obtain ⟨⟨⟨⟨⟨⟨h1, h2⟩, h3⟩, h4⟩, h5⟩, h6⟩, h7⟩ := hc
  cases hb : fn.body with
  | none => rw [hb] at h1; cases h1
  | some c =>
    rw [hb] at h1
    subst h3
    refine calls_of_wp hf hb ?_
    have hlen : vs.length ≤ fn.ntmps := by rw [← hts.1, hn]; exact h5
    have hI : Inv Γ w w.heap.size κ X fn.ntmps ⟨q7c 0 args, hp⟩ { tmps := vs.toArray ++ Array.replicate (fn.ntmps - vs.toArray.size) undef, defers := [] } w := by
      refine ⟨X, κ, ⟨?_, hs.reg, hs.inj, hs.loc, hs.kap, hs.kbig, hs.xlt, rfl, rfl, rfl, Nat.le_refl _, fun _ _ _ => rfl⟩, hg, fun _ h => h, fun _ h => .inl h, ?_, rfl⟩
      · intro t a ht
        obtain ⟨_, hu⟩ := qBE ht
        obtain ⟨x, h1, h2⟩ := hts.get hu
        simp only [Nat.sub_zero] at h1
        have hlt : t < vs.length := (List.getElem?_eq_some_iff.1 h1).1
        have : (vs.toArray ++ Array.replicate (fn.ntmps - vs.toArray.size) undef).getD t undef = x := by
          rw [Array.getD_eq_getD_getElem?, Array.getElem?_append_left (by simpa using hlt)]
          simp [h1]
        rw [this]; exact h2
      · simp; omega
    refine wp_mono (F3 h4 h7 h1 hI h) ?_
    rintro e a w' ⟨x, s, rfl, ⟨X', μ', hsim, hg', h0, hbd, hsz, hds⟩, hq⟩
    have fin : ∀ c, q6Y s rvs = some (c, res) → c → s.hp = hp' → a.defers = [] ∧ ∃ v, (results fn a.tmps).run P w' = .ok v w' ∧ ∃ u, Ending.returned v = .returned u ∧
        ∃ X' μ', Bo w w.heap.size κ X' μ' ⟨[], hp'⟩ #[] w' ∧ AR w' X' μ' (St.sh ⟨[], hp'⟩) res u ∧ (∀ b, X b → X' b) ∧ (∀ b, X' b → X b ∨ w.heap.size ≤ b ∨ ∃ id n, κ id = some (b, n)) := by
      intro c hr hcc hh
      obtain ⟨v, h8, h9⟩ := qDR hsim h6 hr hcc
      subst hh
      exact ⟨hds, v, h8, v, rfl, X', μ', ⟨fun t a ht => by simp [A7] at ht, hsim.reg, hsim.inj, hsim.loc, hsim.kap, hsim.kbig, hsim.xlt, hsim.os, hsim.tape, hsim.output, hsim.size, hsim.fr⟩, h9, h0, hbd⟩
    cases x with
    | normal => obtain ⟨c, hr, hcc, hh⟩ := hq; exact fin c hr hcc hh
    | ret => obtain ⟨c, hr, hcc, hh⟩ := hq; exact fin c hr hcc hh
    | exit i => exact hq.elim
end
end Go.Lg
namespace Go.Lg
open Go
def sV (l : List UInt8) : Value := .string ⟨l.toArray⟩
structure Tag {α : Sort _} (a : α) : Type where
def Bh (A : Prop) (_ : Tag A) : Prop := A
def E1 (x : Option (Prop × AV × St)) (K : AV → St → Prop) (_ : Tag K) : Prop := match x with
  | some (c, r, st1) => c ∧ K r st1
  | none => False
def asK (x : Option (List AV)) (K : List AV → Prop) (_ : Tag K) : Prop := match x with
  | some as => K as
  | none => False
def fnK (x : Option (FuncId × List AV)) (K : FuncId → List AV → Prop) (_ : Tag K) : Prop := match x with
  | some p => K p.1 p.2
  | none => False
def q4X (x : Option AV) (A B : Prop) (_ : Tag A) (_ : Tag B) : Prop := match x with
  | some (.t (.v (.bool t))) => (t = true → A) ∧ (t = false → B)
  | _ => False
def q4Y (P : Program) (Γ : Tables) (hp : List (Nat × Bj)) (f : FuncId) (as : List AV) (K : T → Prop) (_ : Tag K) : Prop := ∃ res, q26 P Γ hp f as res ∧ K res
def qC8 (P : Program) (Γ : Tables) (st : St) (f : FuncId) (rs : List Nat) (base : Nat) (hp : List (Nat × Bj)) (as : List AV) (K : AV → St → Prop) (_ : Tag K) : Prop :=
  ∃ res hp', Hf P Γ f hp as res hp' ∧ okB rs base st.hp hp' ∧ K (Bm (fun i => some (bwd rs base i)) res) (Lu rs base hp' st)
def qC9 (P : Program) (Γ : Tables) (st : St) (f : FuncId) (base : Nat) (as : List AV) (K : AV → St → Prop) (_ : Tag K) : Prop :=
  ∃ res hp', Hf P Γ f [] as res hp' ∧ okB [] base st.hp hp' ∧ K (Bm (fun i => some (bwd [] base i)) res) ⟨st.env, Jw [] base hp' ++ st.hp⟩
def q9p (P : Program) (Γ : Tables) (f : FuncId) (as : List AV) (K : T → Prop) (_ : Tag K) : Prop := ∃ ts res, Ar (as.map toT) = some ts ∧ (Au P Γ f ts res ∨ A8 P Γ f ts res) ∧ K res
def qCA (P : Program) (Γ : Tables) (st : St) (f : FuncId) (rs : List Nat) (hp : List (Nat × Bj)) (as : List AV) (K : AV → St → Prop) (_ : Tag K) : Prop :=
  ∃ res, Hf P Γ f hp as res hp ∧ K (Bm (fun i => some (bwd rs 0 i)) res) st
def Ba (P : Program) (Γ : Tables) (d : Nat) (io : Cj) (st : St) (K : AV → St → Prop) : Prop := match io with
  | .call f args => asK (evs Γ st.env args) (fun as => q4Y P Γ st.hp f as (fun res => K (.t res) st) ⟨⟩) ⟨⟩
  | .callv x args => fnK ((ev Γ st.env x).bind qBx) (fun f cs => asK (evs Γ st.env args) (fun as => q4Y P Γ st.hp f (as ++ cs) (fun res => K (.t res) st) ⟨⟩) ⟨⟩) ⟨⟩
  | .hcall f args rs base => asK (evs Γ st.env args) (fun as => rs.Nodup ∧ qC8 P Γ st f rs base (H5 rs st.hp) (as.map (Bm (fwd rs))) K ⟨⟩) ⟨⟩
  | .ncall f args base => asK (evs Γ st.env args) (fun as => qC9 P Γ st f base (as.map (Bm (fwd []))) K ⟨⟩) ⟨⟩
  | .callT f args => asK (evs Γ st.env args) (fun as => q9p P Γ f as (fun res => K (.t res) st) ⟨⟩) ⟨⟩
  | .rcall f args rs => asK (evs Γ st.env args) (fun as => rs.Nodup ∧ (∀ i ∈ rs, ∃ ty s es, A7 st.hp i = some (.sl ty s es)) ∧ qCA P Γ st f rs (H5 rs st.hp) (as.map (Bm (fwd rs))) K ⟨⟩) ⟨⟩
  | io => E1 (Aq Γ d io st) K ⟨⟩
def q5k (x : Option Bool) (A B : Prop) (_ : Tag A) (_ : Tag B) : Prop := match x with
  | some true => A
  | some false => B
  | none => False
def qE2 (P : Program) (Γ : Tables) (ro : RO) (st : St) (K : St → Prop) : Prop := q5k (Jx st.env ro.guard) (Ba P Γ ro.d ro.op st fun r st1 => K (st1.put ro.dst r)) (K (st.put ro.dst .un)) ⟨⟩ ⟨⟩
def Fv (P : Program) (Γ : Tables) : (ros : List RO) → (st : St) → (K : St → Prop) → Tag K → Prop
  | [], st, K, _ => K st
  | ro :: ros, st, K, t => qE2 P Γ ro st fun st1 => Fv P Γ ros st1 K t
theorem qCB {P : Program} {Γ : Tables} {d : Nat} {io : Cj} {st : St} {K : AV → St → Prop} (h : Ba P Γ d io st K) : ∃ r st1, Ep P Γ d io st r st1 ∧ K r st1 := by
  have gen : E1 (Aq Γ d io st) K ⟨⟩ → ∃ r st1, (∃ c, Aq Γ d io st = some (c, r, st1) ∧ c) ∧ K r st1 := by
    intro h
    unfold E1 at h
    split at h
    · rename_i c r st1 hs; exact ⟨r, st1, ⟨c, hs, h.1⟩, h.2⟩
    · exact h.elim
  cases io with
  | call f args =>
    simp only [Ba, asK] at h
    split at h
    · rename_i as has; obtain ⟨res, h1, h2⟩ := h; exact ⟨_, _, ⟨as, res, has, h1, rfl, rfl⟩, h2⟩
    · exact h.elim
  | callv x args =>
    simp only [Ba, fnK] at h
    split at h
    · rename_i p hp
      obtain ⟨a, ha, hf⟩ := Option.bind_eq_some_iff.1 hp
      simp only [asK] at h
      split at h
      · rename_i as has; obtain ⟨res, h1, h2⟩ := h; exact ⟨_, _, ⟨a, p.1, p.2, as, res, ha, hf, has, h1, rfl, rfl⟩, h2⟩
      · exact h.elim
    · exact h.elim
  | hcall f args rs base =>
    simp only [Ba, asK] at h
    split at h
    · rename_i as has; obtain ⟨hnd, res, hp', h1, h2, h3⟩ := h; exact ⟨_, _, ⟨as, res, hp', has, hnd, h1, h2, rfl, rfl⟩, h3⟩
    · exact h.elim
  | ncall f args base =>
    simp only [Ba, asK] at h
    split at h
    · rename_i as has; obtain ⟨res, hp', h1, h2, h3⟩ := h; exact ⟨_, _, ⟨as, res, hp', has, h1, h2, rfl, rfl⟩, h3⟩
    · exact h.elim
  | callT f args =>
    simp only [Ba, asK] at h
    split at h
    · rename_i as has; obtain ⟨ts, res, h1, h2, h3⟩ := h; exact ⟨_, _, ⟨as, ts, res, has, h1, h2, rfl, rfl⟩, h3⟩
    · exact h.elim
  | rcall f args rs =>
    simp only [Ba, asK] at h
    split at h
    · rename_i as has; obtain ⟨hnd, hsl, res, h1, h2⟩ := h; exact ⟨_, _, ⟨as, res, has, hnd, hsl, h1, rfl, rfl⟩, h2⟩
    · exact h.elim
  | _ => exact gen h
theorem q3v {P : Program} {Γ : Tables} : ∀ {ros : List RO} {st : St} {K : St → Prop}, Fv P Γ ros st K ⟨⟩ → ∃ s1, Nh P Γ ros st s1 ∧ K s1
  | [], st, K, h => ⟨st, rfl, h⟩
  | ro :: ros, st, K, h => by
    simp only [Fv, qE2, q5k] at h
    split at h
    · rename_i hw
      obtain ⟨r, st1, h1, h2⟩ := qCB h
      obtain ⟨s1, h3, h4⟩ := q3v (ros := ros) h2
      exact ⟨s1, ⟨_, .inl ⟨hw, r, st1, h1, rfl⟩, h3⟩, h4⟩
    · rename_i hw
      obtain ⟨s1, h3, h4⟩ := q3v (ros := ros) h
      exact ⟨s1, ⟨_, .inr ⟨hw, rfl⟩, h3⟩, h4⟩
    · exact h.elim
def ghs (gs : List Gh) (s : St) : St := gs.foldl (fun s g => g.run s) s
def run (P : Program) (Γ : Tables) : IC → (AX → St → Prop) → St → Prop
  | .skip, Q, s => Q .normal s
  | .reg ros gs, Q, s => Fv P Γ ros s (fun s1 => Q .normal (ghs gs s1)) ⟨⟩
  | .seq a b, Q, s => run P Γ a (An (run P Γ b Q) Q) s
  | .cond c a b, Q, s => q4X (ev Γ s.env c) (run P Γ a Q s) (run P Γ b Q s) ⟨⟩ ⟨⟩
  | .block id a, Q, s => run P Γ a (J1 id Q) s
  | .loop a, Q, s => awp P Γ (.loop a) Q s
  | .exit i, Q, s => Q (.exit i) s
  | .ret, Q, s => Q .ret s
  | .scope a, Q, s => run P Γ a Q s
  | .gh a gs, Q, s => run P Γ a (An (fun s => Q .normal (ghs gs s)) Q) s
  | .dead, _, _ => False
theorem Nk {P : Program} {Γ : Tables} : ∀ {c : IC} {Q : AX → St → Prop} {s : St}, run P Γ c Q s → awp P Γ c Q s
  | .skip, _, _, h => h
  | .reg ros gs, _, _, h => q3v h
  | .seq a b, Q, s, h => Bl (c := a) (Nk (c := a) h) fun e s h => by
    cases e with
    | normal => exact Nk (c := b) h
    | exit i => exact h
    | ret => exact h
  | .cond c a b, Q, s, h => by
    simp only [run, q4X] at h
    split at h
    · rename_i t ht; exact ⟨t, ht, fun e => Nk (c := a) (h.1 e), fun e => Nk (c := b) (h.2 e)⟩
    · exact h.elim
  | .block id a, Q, s, h => Nk (c := a) h
  | .loop a, Q, s, h => h
  | .exit _, _, _, h => h
  | .ret, _, _, h => h
  | .scope a, Q, s, h => Nk (c := a) h
  | .gh a gs, Q, s, h => Bl (c := a) (Nk (c := a) h) fun e s h => by
    cases e with
    | normal => exact h
    | exit i => exact h
    | ret => exact h
  | .dead, _, _, h => h.elim
def ret (fl : Bool) (rvs : List RV) (R : T → Prop) : AX → St → Prop
  | .exit _, _ => False
  | .normal, s | .ret, s => (match q0B s rvs with | some (c, r) => c ∧ R r | none => False) ∧ (fl = true → D8 s)
theorem qE3 {rvs : List RV} {R : T → Prop} {e : AX} {s : St} {fl : Bool} (h : ret fl rvs R e s) : ∃ res, R res ∧ (if fl then qE0 rvs res e s else qGa rvs res e s) := by
  cases e with
  | exit i => exact h.elim
  | normal =>
    obtain ⟨h, hf⟩ := h
    split at h
    · rename_i c r hr
      refine ⟨r, h.2, ?_⟩
      cases fl
      · exact ⟨c, hr, h.1⟩
      · exact ⟨c, hr, h.1, hf rfl⟩
    · exact h.elim
  | ret =>
    obtain ⟨h, hf⟩ := h
    split at h
    · rename_i c r hr
      refine ⟨r, h.2, ?_⟩
      cases fl
      · exact ⟨c, hr, h.1⟩
      · exact ⟨c, hr, h.1, hf rfl⟩
    · exact h.elim
theorem run_pure {P : Program} {Γ : Tables} {f : FuncId} {ic : IC} {N n : Nat} {rvs : List RV} {args : List T} {R : T → Prop} (hc : B7 P f ic N n rvs = true) (hn : args.length = n) (h : run P Γ ic (ret false rvs R) ⟨params 0 args, []⟩) : ∃ res, Au P Γ f args res ∧ R res := by
  obtain ⟨e, s, h1, h2⟩ := Hy (Nk h)
  obtain ⟨res, hR, hq⟩ := qE3 h1
  exact ⟨res, q9o hc hn (Bl h2 fun e s ⟨he, hs⟩ => by subst he; subst hs; exact hq), hR⟩
theorem q71 {P : Program} {Γ : Tables} {f : FuncId} {ic : IC} {N n : Nat} {rvs : List RV} {args : List T} {R : T → Prop} (hc : B7 P f ic N n rvs = true) (hn : args.length = n) (h : run P Γ ic (ret true rvs R) ⟨params 0 args, []⟩) : ∃ res, A8 P Γ f args res ∧ R res := by
  obtain ⟨e, s, h1, h2⟩ := Hy (Nk h)
  obtain ⟨res, hR, hq⟩ := qE3 h1
  exact ⟨res, q8X hc hn (Bl h2 fun e s ⟨he, hs⟩ => by subst he; subst hs; exact hq), hR⟩
def qBF (rvs : List RV) (R : AV → List (Nat × Bj) → Prop) : AX → St → Prop
  | .exit _, _ => False
  | .normal, s | .ret, s => match q6Y s rvs with | some (c, r) => c ∧ R r s.hp | none => False
theorem qEo {rvs : List RV} {R : AV → List (Nat × Bj) → Prop} {e : AX} {s : St} (h : qBF rvs R e s) : ∃ res hp', R res hp' ∧ qE1 rvs res hp' e s := by
  have key : ∀ s : St, (match q6Y s rvs with | some (c, r) => c ∧ R r s.hp | none => False) → ∃ res hp', R res hp' ∧ ∃ c, q6Y s rvs = some (c, res) ∧ c ∧ s.hp = hp' := by
    intro s h
    split at h
    · rename_i c r hr; exact ⟨r, s.hp, h.2, c, hr, h.1, rfl⟩
    · exact h.elim
  cases e with
  | exit i => exact h.elim
  | normal => exact key s h
  | ret => exact key s h
theorem qCC {P : Program} {Γ : Tables} {f : FuncId} {ic : IC} {N n : Nat} {rvs : List RV} {hp : List (Nat × Bj)} {args : List AV} {R : AV → List (Nat × Bj) → Prop} (hc : B7 P f ic N n rvs = true) (hn : args.length = n) (h : run P Γ ic (qBF rvs R) ⟨q7c 0 args, hp⟩) :
    ∃ res hp', Hf P Γ f hp args res hp' ∧ R res hp' := by
  obtain ⟨e, s, h1, h2⟩ := Hy (Nk h)
  obtain ⟨res, hp', hR, hq⟩ := qEo h1
  exact ⟨res, hp', qDS hc hn (Bl h2 fun e s ⟨he, hs⟩ => by subst he; subst hs; exact hq), hR⟩
theorem A6 {n : Int} (h1 : -9223372036854775808 ≤ n) (h2 : n ≤ 9223372036854775807) : IntKind.i64.wrap n = n := by
  simp [IntKind.wrap, IntKind.signed, IntKind.bits]
  split <;> omega
theorem Bd {n : Int} (h1 : 0 ≤ n) (h2 : n ≤ 255) : IntKind.u8.wrap n = n := by
  simp [IntKind.wrap, IntKind.signed, IntKind.bits]
  omega
section
variable {P : Program} {Γ : Tables} {Q Q' : AX → St → Prop} {s s' : St} {hp hp' : List (Nat × Bj)}
theorem Af {a : IC} (h : ∀ K : St → Prop, K = run P Γ (.loop a) Q → run P Γ a (An K Q) s) : run P Γ (.loop a) Q s := qC7 (Nk (h _ rfl))
@[simp ↓] theorem qH8 {a b : IC} : run P Γ (.seq a b) Q s = run P Γ a (An (run P Γ b Q) Q) s := Eq.trans rfl rfl
@[simp ↓] theorem qH9 {ros : List RO} {gs : List Gh} : run P Γ (.reg ros gs) Q s = Fv P Γ ros s (fun s1 => Q .normal (ghs gs s1)) ⟨⟩ := Eq.trans rfl rfl
@[simp ↓] theorem qGb {c : Operand} {a b : IC} : run P Γ (.cond c a b) Q s = q4X (ev Γ s.env c) (run P Γ a Q s) (run P Γ b Q s) ⟨⟩ ⟨⟩ := Eq.trans rfl rfl
@[simp ↓] theorem qFg {id : Nat} {a : IC} : run P Γ (.block id a) Q s = run P Γ a (J1 id Q) s := Eq.trans rfl rfl
@[simp ↓] theorem qFh {a : IC} : run P Γ (.scope a) Q s = run P Γ a Q s := Eq.trans rfl rfl
@[simp ↓] theorem qHg {a : IC} {gs : List Gh} : run P Γ (.gh a gs) Q s = run P Γ a (An (fun s => Q .normal (ghs gs s)) Q) s := Eq.trans rfl rfl
@[simp ↓] theorem qGc : run P Γ .skip Q s = Q .normal s := Eq.trans rfl rfl
@[simp ↓] theorem qGd {i : Nat} : run P Γ (.exit i) Q s = Q (.exit i) s := Eq.trans rfl rfl
@[simp ↓] theorem qHA : run P Γ .ret Q s = Q .ret s := Eq.trans rfl rfl
@[simp ↓] theorem qGe : run P Γ .dead Q s = False := Eq.trans rfl rfl
@[simp ↓] theorem qFi {c : Prop} {r : AV} {K : AV → St → Prop} : E1 (some (c, r, s)) K ⟨⟩ = (c ∧ K r s) := Eq.trans rfl rfl
@[simp ↓] theorem qFj {K : AV → St → Prop} : E1 none K ⟨⟩ = False := Eq.trans rfl rfl
@[simp ↓] theorem qGf {as : List AV} {K : List AV → Prop} : asK (some as) K ⟨⟩ = K as := Eq.trans rfl rfl
@[simp ↓] theorem qGg {f : FuncId} {cs : List AV} {K : FuncId → List AV → Prop} : fnK (some (f, cs)) K ⟨⟩ = K f cs := Eq.trans rfl rfl
@[simp ↓, simp] theorem qEp {A B : Prop} : q4X (some (.t (.v (.bool true)))) A B ⟨⟩ ⟨⟩ = A := by simp [q4X]
@[simp ↓, simp] theorem qE4 {A B : Prop} : q4X (some (.t (.v (.bool false)))) A B ⟨⟩ ⟨⟩ = B := by simp [q4X]
@[simp low] theorem qEq {t : Bool} {A B : Prop} : q4X (some (.t (.v (.bool t)))) A B ⟨⟩ ⟨⟩ = ((t = true → Bh A ⟨⟩) ∧ (t = false → Bh B ⟨⟩)) := Eq.trans rfl rfl
@[simp ↓] theorem qEr {A B : Prop} : q5k (some true) A B ⟨⟩ ⟨⟩ = A := Eq.trans rfl rfl
@[simp ↓] theorem qE5 {A B : Prop} : q5k (some false) A B ⟨⟩ ⟨⟩ = B := Eq.trans rfl rfl
@[simp ↓, simp] theorem qEs {K : St → Prop} : Fv P Γ [] s K ⟨⟩ = K s := Eq.trans rfl rfl
@[simp ↓, simp] theorem qEt {d : Nat}  {io : Cj} {ros : List RO} {K : St → Prop} :
    Fv P Γ (⟨some d, io, none, none⟩ :: ros) s K ⟨⟩ = Ba P Γ d io s fun q st1 => Fv P Γ ros ⟨(d, q) :: st1.env, st1.hp⟩ K ⟨⟩ := Eq.trans rfl rfl
@[simp ↓, simp] theorem qEu {d : Nat}  {r : Nat} {io : Cj} {ros : List RO} {K : St → Prop} :
    Fv P Γ (⟨some d, io, none, some r⟩ :: ros) s K ⟨⟩ = Ba P Γ r io s fun q st1 => Fv P Γ ros ⟨(d, q) :: st1.env, st1.hp⟩ K ⟨⟩ := Eq.trans rfl rfl
@[simp ↓, simp] theorem qEv {d : Nat} {g : Nat} {b : Bool} {io : Cj} {ros : List RO} {K : St → Prop} :
    Fv P Γ (⟨some d, io, some (g, b), none⟩ :: ros) s K ⟨⟩ = q5k (Jx s.env (some (g, b))) (Ba P Γ d io s fun q st1 => Fv P Γ ros ⟨(d, q) :: st1.env, st1.hp⟩ K ⟨⟩) (Fv P Γ ros ⟨(d, .un) :: s.env, s.hp⟩ K ⟨⟩) ⟨⟩ ⟨⟩ := Eq.trans rfl rfl
@[simp ↓, simp] theorem qEw {d : Nat} {g : Nat} {b : Bool} {r : Nat} {io : Cj} {ros : List RO} {K : St → Prop} :
    Fv P Γ (⟨some d, io, some (g, b), some r⟩ :: ros) s K ⟨⟩ = q5k (Jx s.env (some (g, b))) (Ba P Γ r io s fun q st1 => Fv P Γ ros ⟨(d, q) :: st1.env, st1.hp⟩ K ⟨⟩) (Fv P Γ ros ⟨(d, .un) :: s.env, s.hp⟩ K ⟨⟩) ⟨⟩ ⟨⟩ := Eq.trans rfl rfl
@[simp ↓, simp] theorem qEx   {io : Cj} {ros : List RO} {K : St → Prop} :
    Fv P Γ (⟨none, io, none, none⟩ :: ros) s K ⟨⟩ = Ba P Γ 0 io s fun q st1 => Fv P Γ ros st1 K ⟨⟩ := Eq.trans rfl rfl
@[simp ↓, simp] theorem qEy  {g : Nat} {b : Bool} {io : Cj} {ros : List RO} {K : St → Prop} :
    Fv P Γ (⟨none, io, some (g, b), none⟩ :: ros) s K ⟨⟩ = q5k (Jx s.env (some (g, b))) (Ba P Γ 0 io s fun q st1 => Fv P Γ ros st1 K ⟨⟩) (Fv P Γ ros s K ⟨⟩) ⟨⟩ ⟨⟩ := Eq.trans rfl rfl
@[simp ↓] theorem qDT {n : St → Prop} : An n Q .normal s = n s := Eq.trans rfl rfl
@[simp ↓] theorem qEz {n : St → Prop} {i : Nat} : An n Q (.exit i) s = Q (.exit i) s := Eq.trans rfl rfl
@[simp ↓] theorem qFk {n : St → Prop} : An n Q .ret s = Q .ret s := Eq.trans rfl rfl
@[simp ↓] theorem qD5 {id : Nat} : J1 id Q .normal s = Q .normal s := Eq.trans rfl rfl
@[simp ↓] theorem qE6 {id i : Nat} : J1 id Q (.exit i) s = if i = id then Q .normal s else Q (.exit i) s := Eq.trans rfl rfl
@[simp ↓] theorem qF0 {id : Nat} : J1 id Q .ret s = Q .ret s := Eq.trans rfl rfl
@[simp ↓] theorem qHB : ghs [] s = s := Eq.trans rfl rfl
theorem Eu {g : Gh} {gs : List Gh} : ghs (g :: gs) s = ghs gs (g.run s) := rfl
@[simp ↓, simp] theorem qGh {g : Gh} {gs : List Gh} {e : List (Nat × AV)} {h : List (Nat × Bj)} : ghs (g :: gs) ⟨e, h⟩ = ghs gs (g.run ⟨e, h⟩) := Eq.trans rfl rfl
@[simp] theorem q5l {α : Type} {l : List (Nat × α)} : Lg.keep [] l = [] := Eq.trans rfl rfl
@[simp] theorem q3w {α : Type} {k : Nat} {ks : List Nat} {l : List (Nat × α)} : Lg.keep (k :: ks) l = match A7 l k with | some v => (k, v) :: Lg.keep ks l | none => Lg.keep ks l := by
  unfold Lg.keep
  rw [List.filterMap_cons]
  cases A7 l k <;> rfl
@[simp ↓] theorem qHh {d : Nat} {st : St} {x : Operand} : Aq Γ d (.mv x) st = (
   (ev Γ st.env x).map fun a => (True, a, st)) := Eq.trans rfl rfl
@[simp ↓] theorem qGi {d : Nat} {st : St} {K : AV → St → Prop} {x : Operand} : Ba P Γ d (.mv x) st K = E1 (Aq Γ d (.mv x) st) K ⟨⟩ := Eq.trans rfl rfl
@[simp ↓] theorem qGj {d : Nat} {st : St} {c : Operand} {a : Operand} {b : Operand} : Aq Γ d (.pick c a b) st = (
   match ev Γ st.env c, ev Γ st.env a, ev Γ st.env b with
    | some (.t (.v (.bool p))), some a, some b => some (True, q3f p a b, st)
    | _, _, _ => none) := Eq.trans rfl rfl
@[simp ↓] theorem qF1 {d : Nat} {st : St} {K : AV → St → Prop} {c : Operand} {a : Operand} {b : Operand} : Ba P Γ d (.pick c a b) st K = E1 (Aq Γ d (.pick c a b) st) K ⟨⟩ := Eq.trans rfl rfl
@[simp ↓] theorem qFl {d : Nat} {st : St} {fz : Bool} {zs : List Value} : Aq Γ d (.alloc fz zs) st = (
    if fz then some (True, .t (.ip (zs.map C5) 0), st)
    else some (A7 st.hp d = none, .lp d 0 0, ⟨st.env, (d, .bx (zs.map fun z => .t (C5 z))) :: st.hp⟩)) := Eq.trans rfl rfl
@[simp ↓] theorem qE7 {d : Nat} {st : St} {K : AV → St → Prop} {fz : Bool} {zs : List Value} : Ba P Γ d (.alloc fz zs) st K = E1 (Aq Γ d (.alloc fz zs) st) K ⟨⟩ := Eq.trans rfl rfl
@[simp ↓] theorem qHC {d : Nat} {st : St} {fz : Bool} {x : Operand} : Aq Γ d (.box fz x) st = (
   (ev Γ st.env x).bind fun a =>
    if fz then (Wj a.cells).map fun ts => (C7 ts = true, .t (.ip ts 0), st)
    else some (A7 st.hp d = none ∧ Cc a.cells = true, .lp d 0 0, ⟨st.env, (d, .bx a.cells) :: st.hp⟩)) := Eq.trans rfl rfl
@[simp ↓] theorem qFm {d : Nat} {st : St} {K : AV → St → Prop} {fz : Bool} {x : Operand} : Ba P Γ d (.box fz x) st K = E1 (Aq Γ d (.box fz x) st) K ⟨⟩ := Eq.trans rfl rfl
@[simp ↓] theorem qFn {d : Nat} {st : St} {parts : List (Nat × Operand)} : Aq Γ d (.build parts) st = (
   (evs Γ st.env (parts.map (·.2))).map fun as => (as.map (·.cells.length) = parts.map (·.1) ∧ Cc (as.flatMap AV.cells) = true, .ag (as.flatMap AV.cells), st)) := Eq.trans rfl rfl
@[simp ↓] theorem qE8 {d : Nat} {st : St} {K : AV → St → Prop} {parts : List (Nat × Operand)} : Ba P Γ d (.build parts) st K = E1 (Aq Γ d (.build parts) st) K ⟨⟩ := Eq.trans rfl rfl
@[simp ↓] theorem qHD {d : Nat} {st : St} {fz : Bool} {ty : Nat} {s : Nat} {parts : List Operand} : Aq Γ d (.bsl fz ty s parts) st = (
   (evs Γ st.env parts).bind fun as => (Ar (as.map fun a => Wj a.cells)).map fun es =>
    if fz then ((∀ e ∈ es, e.length = s ∧ C7 e = true), .t (.sl es (some es.length) (some false)), st)
    else (A7 st.hp d = none ∧ (∀ e ∈ es, e.length = s ∧ C7 e = true), .ls d 0 es.length none, ⟨st.env, (d, .sl ty s es) :: st.hp⟩)) := Eq.trans rfl rfl
@[simp ↓] theorem qFo {d : Nat} {st : St} {K : AV → St → Prop} {fz : Bool} {ty : Nat} {s : Nat} {parts : List Operand} : Ba P Γ d (.bsl fz ty s parts) st K = E1 (Aq Γ d (.bsl fz ty s parts) st) K ⟨⟩ := Eq.trans rfl rfl
@[simp ↓] theorem qGk {d : Nat} {st : St} {n : Nat} {g : Bool} {a : Operand} : Aq Γ d (.load n g a) st = (
   match ev Γ st.env a with
    | some (.t (.ip cs k)) => some (k + n ≤ cs.length, .t (Lr g ((cs.drop k).take n)), st)
    | some (.lp id i k) => match A7 st.hp id with
      | some (.sl _ s es) => some (i < es.length ∧ k + n ≤ s, .t (Lr g (((es.getD i []).drop k).take n)), st)
      | some (.bx cs) => some (i = 0 ∧ k + n ≤ cs.length, Vf g ((cs.drop k).take n), st)
      | _ => none
    | _ => none) := Eq.trans rfl rfl
@[simp ↓] theorem qF2 {d : Nat} {st : St} {K : AV → St → Prop} {n : Nat} {g : Bool} {a : Operand} : Ba P Γ d (.load n g a) st K = E1 (Aq Γ d (.load n g a) st) K ⟨⟩ := Eq.trans rfl rfl
@[simp ↓] theorem qFp {d : Nat} {st : St} {n : Nat} {a : Operand} {x : Operand} : Aq Γ d (.store n a x) st = (
   (ev Γ st.env x).bind fun v => match ev Γ st.env a with
    | some (.lp id i k) => match A7 st.hp id with
      | some (.sl ty s es) => (Wj v.cells).map fun ts =>
        (i < es.length ∧ k + n ≤ s ∧ ts.length = n ∧ C7 ts = true, .un,
          ⟨st.env, Fq id (.sl ty s (es.set i (if k = 0 ∧ n = s then ts else (es.getD i []).take k ++ ts ++ (es.getD i []).drop (k + n)))) st.hp⟩)
      | some (.bx cs) => some (i = 0 ∧ k + n ≤ cs.length ∧ v.cells.length = n ∧ Cc v.cells = true, .un, ⟨st.env, Fq id (.bx (cs.take k ++ v.cells ++ cs.drop (k + n))) st.hp⟩)
      | _ => none
    | _ => none) := Eq.trans rfl rfl
@[simp ↓] theorem qE9 {d : Nat} {st : St} {K : AV → St → Prop} {n : Nat} {a : Operand} {x : Operand} : Ba P Γ d (.store n a x) st K = E1 (Aq Γ d (.store n a x) st) K ⟨⟩ := Eq.trans rfl rfl
@[simp ↓] theorem qGl {d : Nat} {st : St} {off : Nat} {a : Operand} : Aq Γ d (.fadr off a) st = (
   match ev Γ st.env a with
    | some (.t (.ip cs k)) => some (True, .t (.ip cs (k + off)), st)
    | some (.lp id i k) => some (True, .lp id i (k + off), st)
    | _ => none) := Eq.trans rfl rfl
@[simp ↓] theorem qF3 {d : Nat} {st : St} {K : AV → St → Prop} {off : Nat} {a : Operand} : Ba P Γ d (.fadr off a) st K = E1 (Aq Γ d (.fadr off a) st) K ⟨⟩ := Eq.trans rfl rfl
@[simp ↓] theorem qHE {d : Nat} {st : St} {off : Nat} {n : Nat} {g : Bool} {x : Operand} : Aq Γ d (.fld off n g x) st = (
   (ev Γ st.env x).bind fun a => match a with
    | .ag cs => some (off + n ≤ cs.length, Vf g ((cs.drop off).take n), st)
    | .t (.agg ts) => some (off + n ≤ ts.length, .t (Lr g ((ts.drop off).take n)), st)
    | _ => none) := Eq.trans rfl rfl
@[simp ↓] theorem qFq {d : Nat} {st : St} {K : AV → St → Prop} {off : Nat} {n : Nat} {g : Bool} {x : Operand} : Ba P Γ d (.fld off n g x) st K = E1 (Aq Γ d (.fld off n g x) st) K ⟨⟩ := Eq.trans rfl rfl
@[simp ↓] theorem qGm {d : Nat} {st : St} {s : Nat} {x : Operand} {i : Operand} : Aq Γ d (.iadr s x i) st = (
   match ev Γ st.env x, ev Γ st.env i with
    | some (.t (.sl es _ _)), some (.t (.v (.int _ n))) => some (0 ≤ n ∧ n < es.length ∧ Dz s es, .t (.ip (es.getD n.toNat []) 0), st)
    | some (.ls id off len _), some (.t (.v (.int _ n))) => match A7 st.hp id with
      | some (.sl _ q _) => some (q = s ∧ 0 ≤ n ∧ n < len, .lp id (off + n.toNat) 0, st)
      | _ => none
    | some (.lb id m), some (.t (.v (.int _ n))) => match A7 st.hp id with
      | some (.bx _) => some (s = 1 ∧ 0 ≤ n ∧ n < m, .lp id 0 n.toNat, st)
      | _ => none
    | _, _ => none) := Eq.trans rfl rfl
@[simp ↓] theorem qF4 {d : Nat} {st : St} {K : AV → St → Prop} {s : Nat} {x : Operand} {i : Operand} : Ba P Γ d (.iadr s x i) st K = E1 (Aq Γ d (.iadr s x i) st) K ⟨⟩ := Eq.trans rfl rfl
@[simp ↓] theorem qGn {d : Nat} {st : St} {s : Nat} {x : Operand} {i : Operand} : Aq Γ d (.iadT s x i) st = (
   match ev Γ st.env x, ev Γ st.env i with
    | some (.t (.sl es _ _)), some (.t (.v (.int _ n))) => some (0 ≤ n ∧ n < es.length ∧ Dz s es, .t (.ip (es.getD n.toNat []) 0), st)
    | _, _ => none) := Eq.trans rfl rfl
@[simp ↓] theorem qF5 {d : Nat} {st : St} {K : AV → St → Prop} {s : Nat} {x : Operand} {i : Operand} : Ba P Γ d (.iadT s x i) st K = E1 (Aq Γ d (.iadT s x i) st) K ⟨⟩ := Eq.trans rfl rfl
@[simp ↓] theorem qFr {d : Nat} {st : St} {len : Nat} {s : Nat} {x : Operand} {i : Operand} : Aq Γ d (.iadrA len s x i) st = (
   match ev Γ st.env x, ev Γ st.env i with
    | some (.t (.ip cs k)), some (.t (.v (.int _ n))) => some (0 ≤ n ∧ n < len, .t (.ip cs (k + n.toNat * s)), st)
    | some (.lp id j k), some (.t (.v (.int _ n))) => some (0 ≤ n ∧ n < len, .lp id j (k + n.toNat * s), st)
    | _, _ => none) := Eq.trans rfl rfl
@[simp ↓] theorem qEA {d : Nat} {st : St} {K : AV → St → Prop} {len : Nat} {s : Nat} {x : Operand} {i : Operand} : Ba P Γ d (.iadrA len s x i) st K = E1 (Aq Γ d (.iadrA len s x i) st) K ⟨⟩ := Eq.trans rfl rfl
@[simp ↓] theorem qGo {d : Nat} {st : St} {x : Operand} {i : Operand} : Aq Γ d (.idxS x i) st = (
   match ev Γ st.env x, ev Γ st.env i with
    | some (.t (.v (.string s))), some (.t (.v (.int _ n))) => some (0 ≤ n ∧ n < s.size, .t (.v (.int .u8 (s.data.getD n.toNat 0).toNat)), st)
    | _, _ => none) := Eq.trans rfl rfl
@[simp ↓] theorem qF6 {d : Nat} {st : St} {K : AV → St → Prop} {x : Operand} {i : Operand} : Ba P Γ d (.idxS x i) st K = E1 (Aq Γ d (.idxS x i) st) K ⟨⟩ := Eq.trans rfl rfl
@[simp ↓] theorem qGp {d : Nat} {st : St} {len : Nat} {s : Nat} {g : Bool} {x : Operand} {i : Operand} : Aq Γ d (.idxA len s g x i) st = (
   match ev Γ st.env x, ev Γ st.env i with
    | some (.t (.agg ts)), some (.t (.v (.int _ n))) => some (0 ≤ n ∧ n < len ∧ n.toNat * s + s ≤ ts.length, .t (Lr g ((ts.drop (n.toNat * s)).take s)), st)
    | some (.ag cs), some (.t (.v (.int _ n))) => some (0 ≤ n ∧ n < len ∧ n.toNat * s + s ≤ cs.length, Vf g ((cs.drop (n.toNat * s)).take s), st)
    | _, _ => none) := Eq.trans rfl rfl
@[simp ↓] theorem qF7 {d : Nat} {st : St} {K : AV → St → Prop} {len : Nat} {s : Nat} {g : Bool} {x : Operand} {i : Operand} : Ba P Γ d (.idxA len s g x i) st K = E1 (Aq Γ d (.idxA len s g x i) st) K ⟨⟩ := Eq.trans rfl rfl
@[simp ↓] theorem qHF {d : Nat} {st : St} {op : BinOp} {x : Operand} {y : Operand} : Aq Γ d (.bin op x y) st = (
   match ev Γ st.env x, ev Γ st.env y with
    | some (.t (.v a)), some (.t (.v b)) => (qAx op a b).map fun r => (r.1, .t (.v r.2), st)
    | _, _ => none) := Eq.trans rfl rfl
@[simp ↓] theorem qFs {d : Nat} {st : St} {K : AV → St → Prop} {op : BinOp} {x : Operand} {y : Operand} : Ba P Γ d (.bin op x y) st K = E1 (Aq Γ d (.bin op x y) st) K ⟨⟩ := Eq.trans rfl rfl
@[simp ↓] theorem qFt {d : Nat} {st : St} {pos : Bool} {x : Operand} : Aq Γ d (.isNil pos x) st = (
   match ev Γ st.env x with
    | some (.t (.sl es _ nl)) => match nl with
      | some q => some (True, .t (.v (.bool (q == pos))), st)
      | none => some (es ≠ [], .t (.v (.bool (!pos))), st)
    | _ => none) := Eq.trans rfl rfl
@[simp ↓] theorem qEB {d : Nat} {st : St} {K : AV → St → Prop} {pos : Bool} {x : Operand} : Ba P Γ d (.isNil pos x) st K = E1 (Aq Γ d (.isNil pos x) st) K ⟨⟩ := Eq.trans rfl rfl
@[simp ↓] theorem qHG {d : Nat} {st : St} {pos : Bool} {x : Operand} {y : Operand} : Aq Γ d (.eqb pos x y) st = (
   match ev Γ st.env x, ev Γ st.env y with
    | some (.t (.v (.bool a))), some (.t (.v (.bool b))) => some (True, .t (.v (.bool (if pos then a == b else a != b))), st)
    | _, _ => none) := Eq.trans rfl rfl
@[simp ↓] theorem qFu {d : Nat} {st : St} {K : AV → St → Prop} {pos : Bool} {x : Operand} {y : Operand} : Ba P Γ d (.eqb pos x y) st K = E1 (Aq Γ d (.eqb pos x y) st) K ⟨⟩ := Eq.trans rfl rfl
@[simp ↓] theorem qHH {d : Nat} {st : St} {pos : Bool} {ks : List (Option IntKind)} {x : Operand} {y : Operand} : Aq Γ d (.eqg pos ks x y) st = (
   ((ev Γ st.env x).bind q83).bind fun as => ((ev Γ st.env y).bind q83).map fun bs => (Zp ks as ∧ Zp ks bs, .t (.v (.bool (if pos then Zq as bs else !Zq as bs))), st)) := Eq.trans rfl rfl
@[simp ↓] theorem qFv {d : Nat} {st : St} {K : AV → St → Prop} {pos : Bool} {ks : List (Option IntKind)} {x : Operand} {y : Operand} : Ba P Γ d (.eqg pos ks x y) st K = E1 (Aq Γ d (.eqg pos ks x y) st) K ⟨⟩ := Eq.trans rfl rfl
@[simp ↓] theorem qHi {d : Nat} {st : St} {op : UnOp} {x : Operand} : Aq Γ d (.un op x) st = (
   match ev Γ st.env x with
    | some (.t (.v a)) => (unV op a).map fun r => (True, .t (.v r), st)
    | _ => none) := Eq.trans rfl rfl
@[simp ↓] theorem qGq {d : Nat} {st : St} {K : AV → St → Prop} {op : UnOp} {x : Operand} : Ba P Γ d (.un op x) st K = E1 (Aq Γ d (.un op x) st) K ⟨⟩ := Eq.trans rfl rfl
@[simp ↓] theorem qGr {d : Nat} {st : St} {k : IntKind} {x : Operand} : Aq Γ d (.conv k x) st = (
   match ev Γ st.env x with
    | some (.t (.v (.int _ n))) => some (True, .t (.v (.int k (k.wrap n))), st)
    | _ => none) := Eq.trans rfl rfl
@[simp ↓] theorem qF8 {d : Nat} {st : St} {K : AV → St → Prop} {k : IntKind} {x : Operand} : Ba P Γ d (.conv k x) st K = E1 (Aq Γ d (.conv k x) st) K ⟨⟩ := Eq.trans rfl rfl
@[simp ↓] theorem qDU {d : Nat} {st : St} {x : Operand} : Aq Γ d (.bytesStr x) st = (
   ((ev Γ st.env x).bind (Bq st.hp)).bind fun es => (Kw es).map fun bs => (True, .t (.v (.string ⟨bs.toArray⟩)), st)) := Eq.trans rfl rfl
@[simp ↓] theorem qCD {d : Nat} {st : St} {K : AV → St → Prop} {x : Operand} : Ba P Γ d (.bytesStr x) st K = E1 (Aq Γ d (.bytesStr x) st) K ⟨⟩ := Eq.trans rfl rfl
@[simp ↓] theorem qEC {d : Nat} {st : St} {x : Operand} : Aq Γ d (.runeStr x) st = (
   match ev Γ st.env x with
    | some (.t (.v (.int _ n))) => some (True, .t (.v (.string (Utf8.encode n))), st)
    | _ => none) := Eq.trans rfl rfl
@[simp ↓] theorem qD6 {d : Nat} {st : St} {K : AV → St → Prop} {x : Operand} : Ba P Γ d (.runeStr x) st K = E1 (Aq Γ d (.runeStr x) st) K ⟨⟩ := Eq.trans rfl rfl
@[simp ↓] theorem qHI {d : Nat} {st : St} {k : Nat} {x : Operand} : Aq Γ d (.len k x) st = (
   (ev Γ st.env x).bind fun a => if qD7 k a then (lenOf st.hp a).map fun (n : Nat) => (True, .t (.v (.int .i64 (n : Int))), st) else none) := Eq.trans rfl rfl
@[simp ↓] theorem qFw {d : Nat} {st : St} {K : AV → St → Prop} {k : Nat} {x : Operand} : Ba P Γ d (.len k x) st K = E1 (Aq Γ d (.len k x) st) K ⟨⟩ := Eq.trans rfl rfl
@[simp ↓] theorem qHJ {d : Nat} {st : St} {x : Operand} : Aq Γ d (.cap x) st = (
   match ev Γ st.env x with
    | some (.t (.sl _ (some c) _)) => some (True, .t (.v (.int .i64 c)), st)
    | some (.ls _ _ _ (some c)) => some (True, .t (.v (.int .i64 c)), st)
    | _ => none) := Eq.trans rfl rfl
@[simp ↓] theorem qFx {d : Nat} {st : St} {K : AV → St → Prop} {x : Operand} : Ba P Γ d (.cap x) st K = E1 (Aq Γ d (.cap x) st) K ⟨⟩ := Eq.trans rfl rfl
@[simp ↓] theorem qHK {d : Nat} {st : St} {mx : Bool} {xs : List Operand} : Aq Γ d (.mmx mx xs) st = (
   (evs Γ st.env xs).bind fun as => (X5 mx as none).map fun r => (Gq r.1 as = true, .t (.v (.int r.1 r.2)), st)) := Eq.trans rfl rfl
@[simp ↓] theorem qFy {d : Nat} {st : St} {K : AV → St → Prop} {mx : Bool} {xs : List Operand} : Ba P Γ d (.mmx mx xs) st K = E1 (Aq Γ d (.mmx mx xs) st) K ⟨⟩ := Eq.trans rfl rfl
@[simp ↓] theorem q7d {d : Nat} {st : St} {fz : Bool} {ty : Nat} {s : Nat} {b : Operand} {x : Operand} : Aq Γ d (.app fz ty s b x) st = (
   ((ev Γ st.env x).bind (Bq st.hp)).bind fun news => (ev Γ st.env b).bind fun a =>
    let fin (c0 : Prop) (es : List (List T)) (st' : St) : Option (Prop × AV × St) :=
      let c : Prop := Dz s news ∧ c0
      if fz then some (c, .t (.sl es none none), st')
      else some (c ∧ A7 st'.hp d = none, .ls d 0 es.length none, ⟨st'.env, (d, .sl ty s es) :: st'.hp⟩)
    match a with
    | .t (.sl es (some c) _) => fin (Dz s es ∧ c = es.length ∧ es.length + news.length ≤ 2147483648 ∧ (fz = true ∨ news ≠ [] ∨ es = [])) (es ++ news) st
    | .ls id off len (some c) => match A7 st.hp id with
      | some (.sl t q es) => fin (t = ty ∧ q = s ∧ c = len ∧ len + news.length ≤ 2147483648 ∧ (news ≠ [] ∨ len = 0)) ((es.drop off).take len ++ news) st
      | _ => none
    | .ls id 0 len none => match A7 st.hp id with
      | some (.sl t q es) => fin (t = ty ∧ q = s ∧ len + news.length ≤ 2147483648) (es.take len ++ news) (st.kill id)
      | _ => none
    | _ => none) := Eq.trans rfl rfl
@[simp ↓] theorem q3x {d : Nat} {st : St} {K : AV → St → Prop} {fz : Bool} {ty : Nat} {s : Nat} {b : Operand} {x : Operand} : Ba P Γ d (.app fz ty s b x) st K = E1 (Aq Γ d (.app fz ty s b x) st) K ⟨⟩ := Eq.trans rfl rfl
@[simp ↓] theorem qGs {d : Nat} {st : St} {u0 : Nat} {s : Nat} {b : Operand} {x : Operand} : Aq Γ d (.appT u0 s b x) st = (
   ((ev Γ st.env x).bind (Bq st.hp)).bind fun news => match ev Γ st.env b with
    | some (.t (.sl es (some c) _)) => some (Dz s news ∧ Dz s es ∧ c = es.length ∧ es.length + news.length ≤ 2147483648, .t (.sl (es ++ news) none none), st)
    | _ => none) := Eq.trans rfl rfl
@[simp ↓] theorem qF9 {d : Nat} {st : St} {K : AV → St → Prop} {u0 : Nat} {s : Nat} {b : Operand} {x : Operand} : Ba P Γ d (.appT u0 s b x) st K = E1 (Aq Γ d (.appT u0 s b x) st) K ⟨⟩ := Eq.trans rfl rfl
@[simp ↓] theorem qGt {d : Nat} {st : St} {b : Operand} {x : Operand} : Aq Γ d (.appB b x) st = (
   ((ev Γ st.env x).bind (Bq st.hp)).bind fun news => match ev Γ st.env b with
    | some (.t (.sl es (some c) _)) => some (Dz 1 news ∧ Dz 1 es ∧ c = es.length ∧ es.length + news.length ≤ 140737488355328, .t (.sl (es ++ news) none none), st)
    | _ => none) := Eq.trans rfl rfl
@[simp ↓] theorem qFA {d : Nat} {st : St} {K : AV → St → Prop} {b : Operand} {x : Operand} : Ba P Γ d (.appB b x) st K = E1 (Aq Γ d (.appB b x) st) K ⟨⟩ := Eq.trans rfl rfl
@[simp ↓] theorem qGu {d : Nat} {st : St} {ty : Nat} {s : Nat} {zs : List Value} {b : Operand} {n : Operand} : Aq Γ d (.appZ ty s zs b n) st = (
   match ev Γ st.env b, ev Γ st.env n with
    | some (.t (.sl es (some q) _)), some (.t (.v (.int _ m))) =>
      some (A7 st.hp d = none ∧ 0 < m ∧ (Dz s es ∧ (q : Int) < es.length + m) ∧ es.length + m ≤ 2147483648, .ls d 0 (es.length + m.toNat) none, ⟨st.env, (d, .sl ty s (es ++ List.replicate m.toNat (zs.map C5))) :: st.hp⟩)
    | _, _ => none) := Eq.trans rfl rfl
@[simp ↓] theorem qFB {d : Nat} {st : St} {K : AV → St → Prop} {ty : Nat} {s : Nat} {zs : List Value} {b : Operand} {n : Operand} : Ba P Γ d (.appZ ty s zs b n) st K = E1 (Aq Γ d (.appZ ty s zs b n) st) K ⟨⟩ := Eq.trans rfl rfl
@[simp ↓] theorem qGv {d : Nat} {st : St} {ty s : Nat} {x : Operand} : Aq Γ d (.appN ty s x) st = (
   match ev Γ st.env x with
    | some (.t (.sl es _ _)) => some (A7 st.hp d = none ∧ Dz s es ∧ es.length ≤ 2147483648, .ls d 0 es.length none, ⟨st.env, (d, .sl ty s es) :: st.hp⟩)
    | _ => none) := Eq.trans rfl rfl
@[simp ↓] theorem qFC {d : Nat} {st : St} {K : AV → St → Prop} {ty s : Nat} {x : Operand} : Ba P Γ d (.appN ty s x) st K = E1 (Aq Γ d (.appN ty s x) st) K ⟨⟩ := Eq.trans rfl rfl
@[simp ↓] theorem qHL {d : Nat} {st : St} {s : Nat} {x y : Operand} : Aq Γ d (.cpy s x y) st = (
   match ev Γ st.env x with
    | some (.ls id off len _) => match A7 st.hp id with
      | some (.sl ty q es) => ((ev Γ st.env y).bind (Bq st.hp)).map fun news =>
        (q = s ∧ Dz s news, .t (.v (.int .i64 (min len news.length : Nat))), ⟨st.env, Fq id (.sl ty s (es.take off ++ news.take (min len news.length) ++ es.drop (off + min len news.length))) st.hp⟩)
      | _ => none
    | _ => none) := Eq.trans rfl rfl
@[simp ↓] theorem qFz {d : Nat} {st : St} {K : AV → St → Prop} {s : Nat} {x y : Operand} : Ba P Γ d (.cpy s x y) st K = E1 (Aq Γ d (.cpy s x y) st) K ⟨⟩ := Eq.trans rfl rfl
@[simp ↓] theorem qG0 {d : Nat} {st : St} {s : Nat} {x : Operand} {lo : Option Operand} {hi : Option Operand} {mx : Option Operand} : Aq Γ d (.slice s x lo hi mx) st = (
   (ev Γ st.env x).bind fun a =>
    match a with
    | .t (.v (.string b)) => (Hv Γ st.env lo 0).bind fun l => (Hv Γ st.env hi b.size).map fun h => (s = 0 ∧ l.1 ∧ h.1 ∧ l.2 ≤ h.2 ∧ h.2 ≤ b.size, .t (.v (.string (b.extract l.2 h.2))), st)
    | .t (.sl es cap nl) => (Hv Γ st.env lo 0).bind fun l => (Hv Γ st.env hi es.length).bind fun h => match mx with
      | none => some (s ≠ 0 ∧ Dz s es ∧ l.1 ∧ h.1 ∧ l.2 ≤ h.2 ∧ h.2 ≤ es.length, .t (.sl ((es.drop l.2).take (h.2 - l.2)) (cap.map (· - l.2)) nl), st)
      | some _ => (Hv Γ st.env mx 0).map fun m => (s ≠ 0 ∧ Dz s es ∧ l.1 ∧ h.1 ∧ m.1 ∧ l.2 ≤ h.2 ∧ h.2 ≤ m.2 ∧ m.2 ≤ es.length, .t (.sl ((es.drop l.2).take (h.2 - l.2)) (some (m.2 - l.2)) nl), st)
    | .ls id off len cap => (Hv Γ st.env lo 0).bind fun l => (Hv Γ st.env hi len).bind fun h => match A7 st.hp id with
     | some (.sl _ q _) => match mx with
      | none => some (s ≠ 0 ∧ q = s ∧ l.1 ∧ h.1 ∧ l.2 ≤ h.2 ∧ h.2 ≤ len, .ls id (off + l.2) (h.2 - l.2) (cap.map (· - l.2)), st)
      | some _ => (Hv Γ st.env mx 0).map fun m => (s ≠ 0 ∧ q = s ∧ l.1 ∧ h.1 ∧ m.1 ∧ l.2 ≤ h.2 ∧ h.2 ≤ m.2 ∧ m.2 ≤ len, .ls id (off + l.2) (h.2 - l.2) (some (m.2 - l.2)), st)
     | _ => none
    | _ => none) := Eq.trans rfl rfl
@[simp ↓] theorem qED {d : Nat} {st : St} {K : AV → St → Prop} {s : Nat} {x : Operand} {lo : Option Operand} {hi : Option Operand} {mx : Option Operand} : Ba P Γ d (.slice s x lo hi mx) st K = E1 (Aq Γ d (.slice s x lo hi mx) st) K ⟨⟩ := Eq.trans rfl rfl
@[simp ↓] theorem qHj {d : Nat} {st : St} {ty : Nat} {s : Nat} {zs : List Value} {l : Operand} {c : Operand} : Aq Γ d (.mk ty s zs l c) st = (
   match ev Γ st.env l, ev Γ st.env c with
    | some (.t (.v (.int _ n))), some (.t (.v (.int _ m))) =>
      some (A7 st.hp d = none ∧ 0 ≤ n ∧ n ≤ m ∧ m ≤ 2147483648, .ls d 0 n.toNat none, ⟨st.env, (d, .sl ty s (List.replicate n.toNat (zs.map C5))) :: st.hp⟩)
    | _, _ => none) := Eq.trans rfl rfl
@[simp ↓] theorem qGw {d : Nat} {st : St} {K : AV → St → Prop} {ty : Nat} {s : Nat} {zs : List Value} {l : Operand} {c : Operand} : Ba P Γ d (.mk ty s zs l c) st K = E1 (Aq Γ d (.mk ty s zs l c) st) K ⟨⟩ := Eq.trans rfl rfl
@[simp ↓] theorem qHM {d : Nat} {st : St} {f : FuncId} {caps : List Operand} : Aq Γ d (.mkf f caps) st = (
   (evs Γ st.env caps).map fun as => (Cc as = true, (match Wj as with | some ts => .t (.fn f ts) | none => .fn f as), st)) := Eq.trans rfl rfl
@[simp ↓] theorem qG1 {d : Nat} {st : St} {K : AV → St → Prop} {f : FuncId} {caps : List Operand} : Ba P Γ d (.mkf f caps) st K = E1 (Aq Γ d (.mkf f caps) st) K ⟨⟩ := Eq.trans rfl rfl
@[simp ↓] theorem qHN {d : Nat} {st : St} {x : Operand} {i : Nat} : Aq Γ d (.ext x i) st = (
   match ev Γ st.env x with
    | some (.t (.tup vs)) => (vs[i]?).map fun t => (True, .t t, st)
    | _ => none) := Eq.trans rfl rfl
@[simp ↓] theorem qG2 {d : Nat} {st : St} {K : AV → St → Prop} {x : Operand} {i : Nat} : Ba P Γ d (.ext x i) st K = E1 (Aq Γ d (.ext x i) st) K ⟨⟩ := Eq.trans rfl rfl
@[simp ↓] theorem qHO {d : Nat} {st : St} {x : Operand} : Aq Γ d (.nck x) st = (
   match ev Γ st.env x with
    | some (.t (.ip cs k)) => some (True, .t (.ip cs k), st)
    | some (.lp id i k) => some (True, .lp id i k, st)
    | some (.t (.fn f cs)) => some (True, .t (.fn f cs), st)
    | some (.fn f cs) => some (True, .fn f cs, st)
    | _ => none) := Eq.trans rfl rfl
@[simp ↓] theorem qG3 {d : Nat} {st : St} {K : AV → St → Prop} {x : Operand} : Ba P Γ d (.nck x) st K = E1 (Aq Γ d (.nck x) st) K ⟨⟩ := Eq.trans rfl rfl
@[simp ↓] theorem qG4 {d : Nat} {st : St}  : Aq Γ d (.mkmap ) st = (
   some (A7 st.hp d = none, .lm d, ⟨st.env, (d, .mp []) :: st.hp⟩)) := Eq.trans rfl rfl
@[simp ↓] theorem qEE {d : Nat} {st : St} {K : AV → St → Prop}  : Ba P Γ d (.mkmap ) st K = E1 (Aq Γ d (.mkmap ) st) K ⟨⟩ := Eq.trans rfl rfl
@[simp ↓] theorem qHP {d : Nat} {st : St} {u0 : Nat} {zs : List Value} {l : Operand} {c : Operand} : Aq Γ d (.mkB u0 zs l c) st = (
   match ev Γ st.env l, ev Γ st.env c with
    | some (.t (.v (.int _ n))), some (.t (.v (.int _ m))) =>
      some (A7 st.hp d = none ∧ 0 ≤ n ∧ n = m ∧ m ≤ 2147483648, .lb d n.toNat, ⟨st.env, (d, .bx (List.replicate n.toNat (.t (C5 (zs.headD undef))))) :: st.hp⟩)
    | _, _ => none) := Eq.trans rfl rfl
@[simp ↓] theorem qG5 {d : Nat} {st : St} {K : AV → St → Prop} {u0 : Nat} {zs : List Value} {l : Operand} {c : Operand} : Ba P Γ d (.mkB u0 zs l c) st K = E1 (Aq Γ d (.mkB u0 zs l c) st) K ⟨⟩ := Eq.trans rfl rfl
@[simp ↓] theorem qHQ {d : Nat} {st : St} {ty : Nat} {s : Nat} {zs : List Value} {l : Operand} {c : Operand} : Aq Γ d (.mkE ty s zs l c) st = (
   match ev Γ st.env l, ev Γ st.env c with
    | some (.t (.v (.int _ n))), some (.t (.v (.int _ m))) =>
      some (A7 st.hp d = none ∧ 0 ≤ n ∧ n ≤ m ∧ m ≤ 2147483648, .ls d 0 n.toNat (some m.toNat), ⟨st.env, (d, .sl ty s (List.replicate n.toNat (zs.map C5))) :: st.hp⟩)
    | _, _ => none) := Eq.trans rfl rfl
@[simp ↓] theorem qG6 {d : Nat} {st : St} {K : AV → St → Prop} {ty : Nat} {s : Nat} {zs : List Value} {l : Operand} {c : Operand} : Ba P Γ d (.mkE ty s zs l c) st K = E1 (Aq Γ d (.mkE ty s zs l c) st) K ⟨⟩ := Eq.trans rfl rfl
@[simp ↓] theorem qHR {d : Nat} {st : St} {x : Operand} : Aq Γ d (.rng x) st = (
   match ev Γ st.env x with
    | some (.t (.v (.string s))) => some (A7 st.hp d = none, .li d, ⟨st.env, (d, .it s 0) :: st.hp⟩)
    | _ => none) := Eq.trans rfl rfl
@[simp ↓] theorem qG7 {d : Nat} {st : St} {K : AV → St → Prop} {x : Operand} : Ba P Γ d (.rng x) st K = E1 (Aq Γ d (.rng x) st) K ⟨⟩ := Eq.trans rfl rfl
@[simp ↓] theorem qHS {d : Nat} {st : St} {x : Operand} : Aq Γ d (.nxt x) st = (
   match ev Γ st.env x with
    | some (.li id) => match A7 st.hp id with
      | some (.it s pos) => if pos < s.size then some (True, .t (.tup [.v (.bool true), .v (.int .i64 pos), .v (.int .i32 (Utf8.decode s pos).1)]), ⟨st.env, Fq id (.it s (pos + (Utf8.decode s pos).2)) st.hp⟩)
        else some (True, .t (.tup [.v (.bool false)]), st)
      | _ => none
    | _ => none) := Eq.trans rfl rfl
@[simp ↓] theorem qG8 {d : Nat} {st : St} {K : AV → St → Prop} {x : Operand} : Ba P Γ d (.nxt x) st K = E1 (Aq Γ d (.nxt x) st) K ⟨⟩ := Eq.trans rfl rfl
@[simp ↓] theorem qGx {d : Nat} {st : St} {kt : KT} {zv : Value} {ok : Bool} {m : Operand} {k : Operand} : Aq Γ d (.lkup kt zv ok m k) st = (
   match ev Γ st.env k with
    | some (.t (.v kv)) =>
      let out (es : List (Value × T)) : Prop × AV × St :=
        (kt.fits kv = true ∧ Kx kt es, if ok then .t (.tup [(Ez kv es).getD (Ha zv), .v (.bool (Ez kv es).isSome)]) else .t ((Ez kv es).getD (Ha zv)), st)
      match ev Γ st.env m with
      | some (.t (.mp es)) => some (out es)
      | some (.lm id) => match A7 st.hp id with
        | some (.mp es) => some (out es)
        | _ => none
      | _ => none
    | _ => none) := Eq.trans rfl rfl
@[simp ↓] theorem qFD {d : Nat} {st : St} {K : AV → St → Prop} {kt : KT} {zv : Value} {ok : Bool} {m : Operand} {k : Operand} : Ba P Γ d (.lkup kt zv ok m k) st K = E1 (Aq Γ d (.lkup kt zv ok m k) st) K ⟨⟩ := Eq.trans rfl rfl
@[simp ↓] theorem qHT {d : Nat} {st : St} {kt : KT} {m : Operand} {k : Operand} {x : Operand} : Aq Γ d (.mup kt m k x) st = (
   match ev Γ st.env k, ev Γ st.env m with
    | some (.t (.v kv)), some (.lm id) => match A7 st.hp id with
      | some (.mp es) => ((ev Γ st.env x).bind toT).map fun t => (kt.fits kv = true ∧ Kx kt es, .un, ⟨st.env, Fq id (.mp (q3g kv t es)) st.hp⟩)
      | _ => none
    | _, _ => none) := Eq.trans rfl rfl
@[simp ↓] theorem qG9 {d : Nat} {st : St} {K : AV → St → Prop} {kt : KT} {m : Operand} {k : Operand} {x : Operand} : Ba P Γ d (.mup kt m k x) st K = E1 (Aq Γ d (.mup kt m k x) st) K ⟨⟩ := Eq.trans rfl rfl
@[simp ↓] theorem qHU {d : Nat} {st : St} {id : Nat} {n : Nat} {a : Operand} {x : Operand} : Aq Γ d (.stR id n a x) st = (
   if Hw id (ev Γ st.env a) then ((ev Γ st.env x).bind fun v => match ev Γ st.env a with
      | some (.lp id i k) => match A7 st.hp id with
        | some (.sl ty s es) => (Wj v.cells).map fun ts =>
          (i < es.length ∧ k + n ≤ s ∧ ts.length = n ∧ C7 ts = true, .un,
            ⟨st.env, Fq id (.sl ty s (es.set i (if k = 0 ∧ n = s then ts else (es.getD i []).take k ++ ts ++ (es.getD i []).drop (k + n)))) st.hp⟩)
        | some (.bx cs) => some (i = 0 ∧ k + n ≤ cs.length ∧ v.cells.length = n ∧ Cc v.cells = true, .un, ⟨st.env, Fq id (.bx (cs.take k ++ v.cells ++ cs.drop (k + n))) st.hp⟩)
        | _ => none
      | _ => none) else none) := Eq.trans rfl rfl
@[simp ↓] theorem qGA {d : Nat} {st : St} {K : AV → St → Prop} {id : Nat} {n : Nat} {a : Operand} {x : Operand} : Ba P Γ d (.stR id n a x) st K = E1 (Aq Γ d (.stR id n a x) st) K ⟨⟩ := Eq.trans rfl rfl
@[simp ↓] theorem qHV {d : Nat} {st : St} {id : Nat} {n : Nat} {g : Bool} {a : Operand} : Aq Γ d (.ldR id n g a) st = (
   if Hw id (ev Γ st.env a) then (match ev Γ st.env a with
      | some (.t (.ip cs k)) => some (k + n ≤ cs.length, .t (Lr g ((cs.drop k).take n)), st)
      | some (.lp id i k) => match A7 st.hp id with
        | some (.sl _ s es) => some (i < es.length ∧ k + n ≤ s, .t (Lr g (((es.getD i []).drop k).take n)), st)
        | some (.bx cs) => some (i = 0 ∧ k + n ≤ cs.length, Vf g ((cs.drop k).take n), st)
        | _ => none
      | _ => none) else none) := Eq.trans rfl rfl
@[simp ↓] theorem qGB {d : Nat} {st : St} {K : AV → St → Prop} {id : Nat} {n : Nat} {g : Bool} {a : Operand} : Ba P Γ d (.ldR id n g a) st K = E1 (Aq Γ d (.ldR id n g a) st) K ⟨⟩ := Eq.trans rfl rfl
@[simp ↓] theorem qHW {d : Nat} {st : St} {n : Nat} {g : Bool} {a : Operand} : Aq Γ d (.ldT n g a) st = (
   match ev Γ st.env a with
    | some (.t (.ip cs k)) => some (k + n ≤ cs.length, .t (Lr g ((cs.drop k).take n)), st)
    | _ => none) := Eq.trans rfl rfl
@[simp ↓] theorem qGC {d : Nat} {st : St} {K : AV → St → Prop} {n : Nat} {g : Bool} {a : Operand} : Ba P Γ d (.ldT n g a) st K = E1 (Aq Γ d (.ldT n g a) st) K ⟨⟩ := Eq.trans rfl rfl
@[simp ↓] theorem qHX {d : Nat} {st : St} {kt : KT} {zv : Value} {ok : Bool} {m : Operand} {k : Operand} : Aq Γ d (.lkT kt zv ok m k) st = (
   match ev Γ st.env k, ev Γ st.env m with
    | some (.t (.v kv)), some (.t (.mp es)) => some (kt.fits kv = true ∧ Kx kt es, if ok then .t (.tup [(Ez kv es).getD (Ha zv), .v (.bool (Ez kv es).isSome)]) else .t ((Ez kv es).getD (Ha zv)), st)
    | _, _ => none) := Eq.trans rfl rfl
@[simp ↓] theorem qGD {d : Nat} {st : St} {K : AV → St → Prop} {kt : KT} {zv : Value} {ok : Bool} {m : Operand} {k : Operand} : Ba P Γ d (.lkT kt zv ok m k) st K = E1 (Aq Γ d (.lkT kt zv ok m k) st) K ⟨⟩ := Eq.trans rfl rfl
@[simp ↓] theorem qFE {d : Nat} {st : St} {K : AV → St → Prop} {f : FuncId} {args : List Operand} : Ba P Γ d (.call f args) st K = asK (evs Γ st.env args) (fun as => q4Y P Γ st.hp f as (fun res => K (.t res) st) ⟨⟩) ⟨⟩ := Eq.trans rfl rfl
@[simp ↓] theorem qEF {d : Nat} {st : St} {K : AV → St → Prop} {x : Operand} {args : List Operand} : Ba P Γ d (.callv x args) st K = fnK ((ev Γ st.env x).bind qBx) (fun f cs => asK (evs Γ st.env args) (fun as => q4Y P Γ st.hp f (as ++ cs) (fun res => K (.t res) st) ⟨⟩) ⟨⟩) ⟨⟩ := Eq.trans rfl rfl
@[simp ↓] theorem qEG {d : Nat} {st : St} {K : AV → St → Prop} {f : FuncId} {args : List Operand} {rs : List Nat} {base : Nat} : Ba P Γ d (.hcall f args rs base) st K = asK (evs Γ st.env args) (fun as => rs.Nodup ∧ qC8 P Γ st f rs base (H5 rs st.hp) (as.map (Bm (fwd rs))) K ⟨⟩) ⟨⟩ := Eq.trans rfl rfl
@[simp ↓] theorem qEH {d : Nat} {st : St} {K : AV → St → Prop} {f : FuncId} {args : List Operand} {base : Nat} : Ba P Γ d (.ncall f args base) st K = asK (evs Γ st.env args) (fun as => qC9 P Γ st f base (as.map (Bm (fwd []))) K ⟨⟩) ⟨⟩ := Eq.trans rfl rfl
@[simp ↓] theorem qEI {d : Nat} {st : St} {K : AV → St → Prop} {f : FuncId} {args : List Operand} : Ba P Γ d (.callT f args) st K = asK (evs Γ st.env args) (fun as => q9p P Γ f as (fun res => K (.t res) st) ⟨⟩) ⟨⟩ := Eq.trans rfl rfl
@[simp ↓] theorem qEJ {d : Nat} {st : St} {K : AV → St → Prop} {f : FuncId} {args : List Operand} {rs : List Nat} : Ba P Γ d (.rcall f args rs) st K = asK (evs Γ st.env args) (fun as => rs.Nodup ∧ (∀ i ∈ rs, ∃ ty s es, A7 st.hp i = some (.sl ty s es)) ∧ qCA P Γ st f rs (H5 rs st.hp) (as.map (Bm (fwd rs))) K ⟨⟩) ⟨⟩ := Eq.trans rfl rfl
@[simp] theorem qHk {e : List (Nat × AV)} {t : Nat} : ev Γ e (.tmp t) = A7 e t := Eq.trans rfl rfl
@[simp] theorem qGy {e : List (Nat × AV)} {v : Value} : ev Γ e (.const v) = some (q5A v) := Eq.trans rfl rfl
@[simp] theorem qGE {e : List (Nat × AV)} {g : Nat} : ev Γ e (.global g) = (Γ g).map fun cs => .t (.ip cs 0) := Eq.trans rfl rfl
@[simp] theorem qHY {e : List (Nat × AV)} {f : FuncId} : ev Γ e (.func f) = some (.t (.fn f [])) := Eq.trans rfl rfl
@[simp] theorem qHl {e : List (Nat × AV)} {xs : List Operand} : evs Γ e xs = Ar (xs.map (ev Γ e)) := Eq.trans rfl rfl
@[simp] theorem qFF {e : List (Nat × AV)} : Jx e none = some true := Eq.trans rfl rfl
@[simp] theorem qFG {e : List (Nat × AV)} {g : Nat} {b : Bool} : Jx e (some (g, b)) = match A7 e g with
    | some (.t (.v (.bool p))) => some (p == b)
    | some .un => some false
    | _ => none := Eq.trans rfl rfl
end
attribute [simp] RO.d St.put Ar A7 params Gh.run Hg q8T q7b q0B Ai q5A Ha C5 qAx unV X5 Gq lenOf qD7 Lr Vf AV.cells Wj toT qBh q3f Bq Hv Fq qBx St.kill Ff kill1 N9 del Hw q7c q6Y H5 fwd bwd Jw q3p q4V Lu okB Bm ren1 ren0 Cd qBv Gt Vi q9m Bj.sh List.filter_cons
end Go.Lg
namespace Go.Lg
open Go
abbrev tm (n : Nat) : Operand := .tmp n
abbrev ki (n : Int) : Operand := .const (.int .i64 n)
abbrev ku (n : Int) : Operand := .const (.int .u8 n)
abbrev kT : Operand := .const (.bool true)
abbrev kF : Operand := .const (.bool false)
abbrev kN : Operand := .const (.slice none 0 0)
abbrev od (d : Nat) (io : Cj) : RO := ⟨some d, io, none, none⟩
abbrev on (io : Cj) : RO := ⟨none, io, none, none⟩
abbrev oz (d : Nat) (io : Cj) (r : Nat) : RO := ⟨some d, io, none, some r⟩
abbrev oT (d : Nat) (io : Cj) (g : Nat) : RO := ⟨some d, io, some (g, true), none⟩
abbrev oF (d : Nat) (io : Cj) (g : Nat) : RO := ⟨some d, io, some (g, false), none⟩
abbrev om (d x : Nat) : RO := ⟨some d, .mv (.tmp x), none, none⟩
abbrev ld (n x : Nat) : Cj := .load n false (.tmp x)
abbrev lG (n x : Nat) : Cj := .load n true (.tmp x)
abbrev ia (s x i : Nat) : Cj := .iadr s (.tmp x) (.tmp i)
abbrev fa (k x : Nat) : Cj := .fadr k (.tmp x)
abbrev le (k x : Nat) : Cj := .len k (.tmp x)
abbrev ex (x i : Nat) : Cj := .ext (.tmp x) i
abbrev kp (ks rs : List Nat) : Gh := .keep ks rs
end Go.Lg
namespace Go.Lg
open Go Go.RowKit
def Old (w : World) (b : Nat) : Prop := b < w.heap.size
def Rd (P : Program) (t : TypeId) (S : List T → Prop) : Prop :=
  ∀ (H : Type) (enc : TypeId × Value → H) (w : World) (held : Bool) (fuel : Nat) (cs : List Value) (x : DataW H × List MemPlace), DataW.trod enc P w 0 (fun _ => true) held fuel t cs = some x → ∃ ts, S ts ∧ Fj w (Old w) ts cs ∧ ∀ u ∈ ts, u.one = true
theorem qAV {w : World} {a : Addr} {v : Value} (h : w.cell? a = some v) : a.block < w.heap.size := by
  unfold World.cell? at h
  split at h
  · rename_i hb
    have := Array.getElem?_eq_some_iff.1 hb
    exact this.1
  · simp at h
variable {P : Program} {t e : TypeId}
theorem Fj.one1 {w : World} {X : Nat → Prop} {u : T} {v : Value} (h : TR w X u v) : Fj w X [u] [v] := Fj.cons h (Fj.nil w X)
theorem Rd.mono {S S' : List T → Prop} (h : Rd P t S) (hs : ∀ ts, S ts → S' ts) : Rd P t S' := fun H enc w held fuel cs x hx => by
  obtain ⟨ts, h1, h2, h3⟩ := h H enc w held fuel cs x hx
  exact ⟨ts, hs ts h1, h2, h3⟩
theorem qFH {k : IntKind} (ht : P.underlying t = some (.int k)) : Rd P t fun ts => ∃ n, ts = [.v (.int k n)] ∧ (Lit.int k n).wf = true := by
  intro H enc w held fuel cs x h
  obtain ⟨n, rfl, _, hw⟩ := DataW.trod_int ht h
  exact ⟨[.v (.int k n)], ⟨n, rfl, hw⟩, Fj.one1 (.v _), by intro u hu; simp at hu; subst hu; rfl⟩
theorem qAW (ht : P.underlying t = some .bool) : Rd P t fun ts => ∃ b, ts = [.v (.bool b)] := by
  intro H enc w held fuel cs x h
  obtain ⟨b, rfl, _⟩ := DataW.trod_bool ht h
  exact ⟨[.v (.bool b)], ⟨b, rfl⟩, Fj.one1 (.v _), by intro u hu; simp at hu; subst hu; rfl⟩
theorem q72 {α : Type} {Q : Nat → α → Prop} : ∀ (n : Nat), (∀ i, i < n → ∃ a, Q i a) → ∃ l : List α, l.length = n ∧ ∀ i a, l[i]? = some a → Q i a
  | 0, _ => ⟨[], rfl, fun i a h => by simp at h⟩
  | n + 1, h => by
    obtain ⟨l, hl, hq⟩ := q72 n fun i hi => h i (by omega)
    obtain ⟨a, ha⟩ := h n (by omega)
    refine ⟨l ++ [a], by simp [hl], fun i b hb => ?_⟩
    by_cases hi : i < n
    · rw [List.getElem?_append_left (by omega)] at hb; exact hq i b hb
    · have : i = n := by
        have := (List.getElem?_eq_some_iff.1 hb).1
        simp at this; omega
      subst this
      rw [List.getElem?_append_right (by omega), hl] at hb
      simp at hb; subst hb; exact ha
theorem q5m {s : Nat} {S : List T → Prop} (ht : P.underlying t = some (.slice e)) (hc : P.cellsOf e = s) (hs : 0 < s) (he : Rd P e S) :
    Rd P t fun ts => ∃ es cap nl, ts = [.sl es cap nl] ∧ es.length ≤ maxLen ∧ ∀ x ∈ es, S x ∧ x.length = s := by
  intro H enc w held fuel cs x h
  rcases DataW.trod_slice ht h with ⟨rfl, _⟩ | ⟨a, len, cap, qH6, rest, n, rfl, rfl, _, _, hlc, hcm, hel, hat, _, _⟩
  · exact ⟨[.sl [] (some 0) (some true)], ⟨[], _, _, rfl, by simp, by simp⟩, Fj.one1 (.nil _ _ none 0 (by rintro n ⟨⟩; rfl) (by rintro b ⟨⟩; rfl) (fun _ => rfl)), by intro u hu; simp at hu; subst hu; rfl⟩
  by_cases h0 : len = 0
  · subst h0
    exact ⟨[.sl [] none none], ⟨[], _, _, rfl, by simp, by simp⟩, Fj.one1 (.nil _ _ (some a) cap (fun _ h => by cases h) (fun _ h => by cases h) (fun h => by cases h)), by intro u hu; simp at hu; subst hu; rfl⟩
  obtain ⟨b, off, spot⟩ := a
  obtain ⟨hsp, hb⟩ : spot = none ∧ b < w.heap.size := by
    have h1 := hat 0 (by omega)
    rw [List.getElem?_eq_getElem (by omega), Option.bind_eq_some_iff] at h1
    obtain ⟨cs', h2, h3⟩ := h1
    unfold World.cells? at h2
    rw [if_pos (Nat.zero_le _)] at h2
    have hl := mapM_some_length h2
    simp only [List.length_range, hc] at hl
    have h4 := mapM_some_get h2 0 0 (by simp [hc, hs])
    rw [List.getElem?_eq_getElem (by omega)] at h4
    simp [Addr.add] at h4
    exact ⟨World.cell?_spot h4, qAV h4⟩
  subst hsp
  have hadd : ∀ k, (Addr.mk b off none).add k = ⟨b, off + k, none⟩ := fun k => by
    unfold Addr.add
    split
    · rename_i h; subst h; rfl
    · rfl
  have hadd2 : ∀ o k, (Addr.mk b o none).add k = ⟨b, o + k, none⟩ := fun o k => by
    unfold Addr.add
    split
    · rename_i h; subst h; rfl
    · rfl
  have hone : ∀ i, i < len → ∃ el : List T, S el ∧ el.length = s ∧ (∀ u ∈ el, u.one = true) ∧ ∀ k, k < s → ∃ v, w.cell? ⟨b, off + i * s + k, none⟩ = some v ∧ ∀ u, el[k]? = some u → TR w (Old w) u v := fun i hi => by
    have h1 := hat i hi
    rw [List.getElem?_eq_getElem (by omega), Option.bind_eq_some_iff] at h1
    obtain ⟨cs', h2, h3⟩ := h1
    obtain ⟨el, hS, htr, ho⟩ := he H enc w held n cs' _ h3
    unfold World.cells? at h2
    rw [if_pos (Nat.zero_le _)] at h2
    have hl := mapM_some_length h2
    simp only [List.length_range, hc] at hl
    refine ⟨el, hS, by rw [htr.1, hl], ho, fun k hk => ?_⟩
    have h4 := mapM_some_get h2 k k (by simp [hc, hk])
    rw [List.getElem?_eq_getElem (by omega), hadd, hadd2, hc] at h4
    exact ⟨cs'[k], h4, fun u hu => htr.2 k u _ hu (List.getElem?_eq_getElem (by omega))⟩
  obtain ⟨es, hlen, hes⟩ := q72 len hone
  have hget : ∀ i (hi : i < es.length), es[i]? = some es[i] := fun i hi => List.getElem?_eq_getElem hi
  refine ⟨[.sl es none none], ⟨es, none, none, rfl, by omega, fun x hx => ?_⟩, ?_, by intro u hu; simp at hu; subst hu; rfl⟩
  · obtain ⟨i, hi, rfl⟩ := List.getElem_of_mem hx
    have := hes i _ (hget i hi)
    exact ⟨this.1, this.2.1⟩
  · rw [← hlen]
    refine Fj.one1 (.sl es none none s b off cap (fun i k => (w.cell? ⟨b, off + i * s + k, none⟩).getD .nilFunc) ?_ ?_ ?_ ?_ hb (by omega) (fun _ h => by cases h) (fun _ h => by cases h))
    · intro i k hi hk
      obtain ⟨v, hv, _⟩ := (hes i _ (hget i hi)).2.2.2 k hk
      simp [hv]
    · intro i el hi
      exact (hes i _ hi).2.1
    · intro i k el u hi hu
      have hq := hes i _ hi
      have hk : k < s := by rw [← hq.2.1]; exact (List.getElem?_eq_some_iff.1 hu).1
      obtain ⟨v, hv, hr⟩ := hq.2.2.2 k hk
      simp only [hv, Option.getD_some]
      exact hr u hu
    · intro i k el u hi hu
      exact (hes i _ hi).2.2.1 u (List.mem_of_getElem? hu)
def q4Z : List (Nat × (List T → Prop)) → List T → Prop
  | [], ts => ts = []
  | (_, S) :: l, ts => ∃ a b, ts = a ++ b ∧ S a ∧ q4Z l b
inductive qCE (P : Program) : Nat → List Field → List (Nat × (List T → Prop)) → Prop
  | nil (o : Nat) : qCE P o [] []
  | cons {o n : Nat} {f : Field} {S : List T → Prop} {fl : List Field} {l : List (Nat × (List T → Prop))} (h1 : f.offset = o) (h2 : P.cellsOf f.type = n) (h3 : Rd P f.type S) (h : qCE P (o + n) fl l) : qCE P o (f :: fl) ((n, S) :: l)
def q8Y : List (Nat × (List T → Prop)) → Nat
  | [] => 0
  | (n, _) :: l => n + q8Y l
theorem q73 {H : Type} {enc : TypeId × Value → H} {w : World} {held : Bool} {m : Nat} {cs : List Value} : ∀ {fl : List Field} {l : List (Nat × (List T → Prop))} {o : Nat}, qCE P o fl l → (∀ f ∈ fl, ∃ x, DataW.trod enc P w 0 (fun _ => true) held m f.type ((cs.drop f.offset).take (P.cellsOf f.type)) = some x) → cs.length = o + q8Y l →
    ∃ ts, q4Z l ts ∧ Fj w (Old w) ts (cs.drop o) ∧ ∀ u ∈ ts, u.one = true
  | _, _, o, .nil _, _, hl => ⟨[], rfl, by rw [List.drop_of_length_le (by simp [q8Y] at hl; omega)]; exact Fj.nil w _, by simp⟩
  | _, _, o, .cons (n := n) (f := f) (S := S) (l := l) h1 h2 h3 h, hx, hl => by
    obtain ⟨x, hx0⟩ := hx f List.mem_cons_self
    rw [h1, h2] at hx0
    obtain ⟨a, ha, hta, hoa⟩ := h3 H enc w held m _ _ hx0
    obtain ⟨b, hb, htb, hob⟩ := q73 h (fun g hg => hx g (List.mem_cons_of_mem _ hg)) (by simp only [q8Y] at hl; omega)
    refine ⟨a ++ b, ⟨a, b, rfl, ha, hb⟩, ?_, fun u hu => ?_⟩
    · have := hta.append htb
      rwa [← List.drop_drop, List.take_append_drop] at this
    · rcases List.mem_append.1 hu with hu | hu
      · exact hoa u hu
      · exact hob u hu
theorem q3y {fs : Array Field} {l : List (Nat × (List T → Prop))} (ht : P.underlying t = some (.struct fs)) (hc : P.cellsOf t = q8Y l) (hf : qCE P 0 fs.toList l) : Rd P t (q4Z l) := by
  intro H enc w held fuel cs x h
  obtain ⟨xs, m, rfl, rfl, hcl, hn, hat⟩ := DataW.trod_struct ht h
  have := q73 (enc := enc) (w := w) (held := held) (m := m) (cs := cs) hf (fun f hf' => by
    obtain ⟨i, hi, rfl⟩ := List.getElem_of_mem hf'
    have := hat i fs.toList[i] (by simp at hi; simp [hi])
    rw [List.getElem?_eq_getElem (by simp at hi; omega)] at this
    exact ⟨_, this⟩) (by omega)
  simpa using this
theorem q8Z {H : Type} {enc : TypeId × Value → H} {w : World} {held : Bool} {m s : Nat} {S : List T → Prop} (he : Rd P e S) (hs : P.cellsOf e = s) : ∀ (n : Nat) (cs : List Value), (∀ i, i < n → ∃ x, DataW.trod enc P w 0 (fun _ => true) held m e ((cs.drop (i * s)).take s) = some x) → cs.length = n * s →
    ∃ ts, q4Z (List.replicate n (s, S)) ts ∧ Fj w (Old w) ts cs ∧ ∀ u ∈ ts, u.one = true
  | 0, cs, _, hl => ⟨[], rfl, by have h0 : cs = [] := List.eq_nil_of_length_eq_zero (by simpa using hl); rw [h0]; exact Fj.nil w _, by simp⟩
  | n + 1, cs, hx, hl => by
    obtain ⟨x, hx0⟩ := hx 0 (by omega)
    simp only [Nat.zero_mul, List.drop_zero] at hx0
    obtain ⟨a, ha, hta, hoa⟩ := he H enc w held m _ _ hx0
    have hl' : cs.length = n * s + s := by rw [hl, Nat.add_mul, Nat.one_mul]
    obtain ⟨b, hb, htb, hob⟩ := q8Z he hs n (cs.drop s) (fun i hi => by
      obtain ⟨x, hx1⟩ := hx (i + 1) (by omega)
      rw [Nat.add_mul, Nat.one_mul, Nat.add_comm (i * s)] at hx1
      exact ⟨x, by rw [List.drop_drop]; exact hx1⟩) (by simp; omega)
    refine ⟨a ++ b, ⟨a, b, rfl, ha, hb⟩, ?_, fun u hu => ?_⟩
    · have := hta.append htb
      rwa [List.take_append_drop] at this
    · rcases List.mem_append.1 hu with hu | hu
      · exact hoa u hu
      · exact hob u hu
theorem q5n {n s : Nat} {S : List T → Prop} (ht : P.underlying t = some (.array n e)) (hs : P.cellsOf e = s) (hc : P.cellsOf t = n * s) (he : Rd P e S) : Rd P t (q4Z (List.replicate n (s, S))) := by
  intro H enc w held fuel cs x h
  obtain ⟨xs, m, rfl, rfl, hcl, hn, hat⟩ := DataW.trod_array ht h
  refine q8Z (enc := enc) (held := held) (m := m) he hs n cs (fun i hi => ?_) (by omega)
  have := hat i hi
  rw [hs, List.getElem?_eq_getElem (by omega)] at this
  exact ⟨_, this⟩
theorem qCF {w : World} {X : Nat → Prop} {ts : List T} {cs : Array Value} (h : Fj w X ts cs.toList) (ho : ∀ u ∈ ts, u.one = true) : TR w X (.agg ts) (.agg cs) := by
  have : cs = cs.toList.toArray := by simp
  rw [this]
  exact .agg ts cs.toList h.1 (fun k u hk => ho u (List.mem_of_getElem? hk)) h.2
theorem q9q {H : Type} {enc : TypeId × Value → H} {w : World} {base : Nat} {sp : Nat → Bool} {held : Bool} {fuel : Nat} {n : Nat} {q : TypeId} {k : IntKind} {cs : List Value} {l : List (Int × Int)} {p : List MemPlace}
    (ht : P.underlying t = some (.array n e)) (he : P.underlying e = some (.array 2 q)) (hq : P.underlying q = some (.int k)) (hcq : P.cellsOf q = 1) (hce : P.cellsOf e = 2) (hct : P.cellsOf t = n * 2)
    (h : DataW.trod enc P w base sp held fuel t cs = some (.agg (l.map fun x => .agg [.lit (.int k x.1), .lit (.int k x.2)]), p)) : cs = l.flatMap fun x => [.int k x.1, .int k x.2] := by
  obtain ⟨xs, m, rfl, hx, hcl, hn, hat⟩ := DataW.trod_array ht h
  simp only [Prod.mk.injEq, DataW.agg.injEq] at hx
  have hxs := hx.1
  have hl : l.length = n := by have := congrArg List.length hxs; simp at this; omega
  have hi : ∀ i (h : i < l.length), (cs.drop (i * 2)).take 2 = [.int k l[i].1, .int k l[i].2] := fun i hi => by
    have h1 := hat i (by omega)
    rw [hce, List.getElem?_eq_getElem (by omega)] at h1
    have h2 : xs[i].1 = .agg [.lit (.int k l[i].1), .lit (.int k l[i].2)] := by
      have := congrArg (fun z => z[i]?) hxs
      simp only [List.getElem?_map, List.getElem?_eq_getElem hi, List.getElem?_eq_getElem (show i < xs.length by omega), Option.map_some, Option.some.injEq] at this
      exact this.symm
    have h3 : xs[i] = (.agg [.lit (.int k l[i].1), .lit (.int k l[i].2)], xs[i].2) := by rw [← h2]
    rw [h3] at h1
    exact Lib.cells_of_tab (zs := [l[i].1, l[i].2]) he hq hcq hce h1
  have hcl' : cs.length = l.length * 2 := by omega
  clear h hat hx hxs hcl hn hct ht hl
  induction l generalizing cs with
  | nil => exact List.eq_nil_of_length_eq_zero (by simpa using hcl')
  | cons x l ih =>
    have h0 := hi 0 (by simp)
    simp only [Nat.zero_mul, List.drop_zero, List.getElem_cons_zero] at h0
    have hr := ih (cs := cs.drop 2) (fun i h => by
      have := hi (i + 1) (by simpa using h)
      rw [Nat.add_mul, Nat.one_mul, Nat.add_comm (i * 2)] at this
      simpa [List.drop_drop] using this) (by simp at hcl' ⊢; omega)
    rw [List.flatMap_cons, ← h0, ← hr, List.take_append_drop]
theorem q1Y {H : Type} {enc : TypeId × Value → H} {W W' : World} (hl : laidOutB P = true) (hb : Below W.heap.size W W') : ∀ {ts : List TypeId} {vs : List Value} {ds : List (DataW H)} {p : List MemPlace}, (∀ t ∈ ts, P.readableRec t = true ∧ t < P.types.size) → DataW.TrodAll enc P W 0 (fun _ => true) true ts vs ds p → (∀ x ∈ p, x.block < W.heap.size) → DataW.TrodAll enc P W' 0 (fun b => decide (b < W.heap.size)) true ts vs ds p
  | [], [], [], _, _, h, _ => h
  | [], [], _ :: _, _, _, h, _ => h.elim
  | [], _ :: _, _, _, _, h, _ => by cases h
  | _ :: _, [], _, _, _, h, _ => by cases h
  | _ :: _, _ :: _, [], _, _, h, _ => by cases h
  | t :: ts, v :: vs, d :: ds, _, hr, h, hlt => by
    obtain ⟨p1, q1, h1, h2, rfl⟩ := h
    have hr0 := hr t List.mem_cons_self
    exact ⟨p1, q1, Below.trod hl hr0.1 hr0.2 h1 hb (fun x hx => hlt x (List.mem_append_left _ hx)), q1Y hl hb (fun t' ht => hr t' (List.mem_cons_of_mem _ ht)) h2 (fun x hx => hlt x (List.mem_append_right _ hx)), rfl⟩
theorem qGz {H : Type} {enc : TypeId × Value → H} {f : Func} {s : ChangeSpec} {W W' : World} {args : Array Value} {ds gs : List (DataW H)} {before : List MemPlace} {tb : TypeId}
    (hl : laidOutB P = true) (hr : ∀ t ∈ f.params.toList, P.readableRec t = true ∧ t < P.types.size) (hv : s.vars = []) (hres : f.resultTypes = #[tb]) (htb : P.underlying tb = some .bool)
    (hW : DataW.Whole enc P f.params.toList s.vars false W args.toList ds gs before) (hfn : (s.fn H (ds ++ gs)).results = [.lit (.bool true)]) (hfa : (s.fn H (ds ++ gs)).args = ds) (hfv : (s.fn H (ds ++ gs)).vars = []) (hb : Below W.heap.size W W') :
    s.post enc P f false true false false W args (.bool true) W' := by
  have hW' := hW
  obtain ⟨p, q, hA, hV, rfl, _, _⟩ := hW
  have hlt : ∀ x ∈ p ++ q, x.block < W.heap.size := fun x hx => by simpa using hW'.lt x hx
  have hargs := q1Y hl hb hr hA (fun x hx => hlt x (List.mem_append_left _ hx))
  rw [hv] at hV
  obtain ⟨rfl, rfl⟩ := ChangeShapes.trodVars_none hV
  refine ⟨ds, [], p ++ [], [], p, [], hW', ?_, ?_, ?_, hb.frame _, fun h => by cases h⟩
  · rw [hfn, hres]
    exact ChangeShapes.trodAll_mk1 (RowKit.shut_bool htb _)
  · rw [hfa]; exact hargs
  · rw [hv, hfv]; rfl
theorem qGF {Γ : Tables} {f : FuncId} {N n : Nat} {ic : IC} {rvs : List RV} {args : List T} {W : World} {vs : List Value} (hc : B7 P f ic N n rvs = true) (h : Au P Γ f args (.v (.bool true))) (hg : Gl Γ W (Old W)) (ha : Fj W (Old W) args vs) :
    Calls P f vs.toArray W fun e W' => e = .returned (.bool true) ∧ Below W.heap.size W W' := by
  rcases h W (Old W) vs hg (fun b hb => hb) ha with ⟨_, h2⟩ | ⟨v, h1, _⟩
  · refine h2.mono fun e W' ⟨v, he, hb, hr⟩ => ?_
    cases hr
    exact ⟨he, hb⟩
  · rw [q2s hc] at h1
    cases h1
end Go.Lg
