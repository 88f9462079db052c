/- THE LOGIC, part 26: a region becomes immutable data. Conditions: none. -/
import Derived.Test.YtgnghiijbegacaaDoorLgD
import Derived.Scope
import Derived.ChangeArms
import Derived.DataReads
import Derived.OpenShut
import Derived.Carry
import Derived.Handed
import Derived.Lib.LaidTab
set_option linter.unusedSimpArgs false
set_option linter.unusedVariables false
namespace Go.Lg
open Go

/-- Nothing in it leads to another region. -/
def Reg.closed : Reg → Bool
  | .bx cs => cs.all fun | .t _ => true | _ => false
  | _ => true

/-- A reference to the region, as the tree that it reads as. -/
def frz0 (id : Nat) (r : Reg) : AV → AV
  | .ls i off len cap => if i = id then (match reify [(id, r)] 4 (.ls id off len cap) with | some t => .t t | none => .dead) else .ls i off len cap
  | .lp i a k => if i = id then (match reify [(id, r)] 4 (.lp id a k) with | some t => .t t | none => .dead) else .lp i a k
  | .lm i => if i = id then (match reify [(id, r)] 4 (.lm id) with | some t => .t t | none => .dead) else .lm i
  | .lb i m => if i = id then (match reify [(id, r)] 4 (.lb id m) with | some t => .t t | none => .dead) else .lb i m
  | .li i => if i = id then .dead else .li i
  | .fn f [] => .fn f []
  | .fn _ (_ :: _) => .dead
  | a => a
def frz1 (id : Nat) (r : Reg) : AV → AV
  | .fn f cs => if cs.all notAg then .fn f (cs.map (frz0 id r)) else .dead
  | a => frz0 id r a
def frzRef (id : Nat) (r : Reg) : AV → AV
  | .ag cs => .ag (cs.map (frz1 id r))
  | a => frz1 id r a
def frzReg (id : Nat) (r : Reg) : Reg → Reg
  | .bx cs => .bx (cs.map (frzRef id r))
  | q => q
def St.freeze (id : Nat) (st : St) : St := match look st.hp id with
  | some r => if r.closed then ⟨st.env.map fun p => (p.1, frzRef id r p.2), (del id st.hp).map fun p => (p.1, frzReg id r p.2)⟩ else st
  | none => st

section
variable {P : Program} {Γ : Tables} {w0 : World} {B : Nat} {κ : Loc} {X : Nat → Prop} {μ : Loc} {st : St} {tm : Array Value} {w : World} {id : Nat} {r : Reg}

theorem Sim.lone (h : Sim w0 B κ X μ st tm w) (hl : look st.hp id = some r) (hc : r.closed = true) : Sim w0 B κ X μ ⟨[], [(id, r)]⟩ tm w := by
  have hsh : ∀ i, St.sh ⟨[], [(id, r)]⟩ i ≠ none → i = id ∧ st.sh i ≠ none := by
    intro i hi
    by_cases e : i = id
    · subst e; exact ⟨rfl, by simp [sh_of hl]⟩
    · simp [St.sh, look, Ne.symm e] at hi
  refine ⟨fun t a ht => by simp [look] at ht, ?_, fun i j g n n' hi hj => h.inj i j g n n' (hsh i hi).2 (hsh j hj).2, fun i g n hi => h.loc i g n (hsh i hi).2, fun i hk hi => h.kap i hk (hsh i hi).2, h.kbig, h.xlt, h.os, h.tape, h.output, h.size, h.fr⟩
  intro i q hq
  simp only [look] at hq
  split at hq
  · rename_i e; subst e
    simp only [Option.some.injEq] at hq; subst hq
    have := h.reg id _ hl
    cases r with
    | sl ty s es => exact this
    | mp es => exact this
    | it s pos => exact this
    | bx cs =>
      obtain ⟨h1, g, arr, ty, hm, hg, hle, hr⟩ := this
      refine ⟨h1, g, arr, ty, hm, hg, hle, fun k a x ha hx => ?_⟩
      have := List.all_eq_true.1 hc a (List.mem_of_getElem? ha)
      have h2 := hr k a x ha hx
      cases a <;> simp at this
      exact .t _ _ h2.t_inv
  · cases hq

theorem AR.oneCell_t {X : Nat → Prop} {sh : Nat → Option Sh} {a : AV} {x : Value} (h : AR w X μ sh a x) (h1 : a.one = true) : x.oneCell' = true := h.one h1

variable {sh' : Nat → Option Sh}

theorem AR.frz0 (h : Sim w0 B κ X μ st tm w) (hl : look st.hp id = some r) (hc : r.closed = true) (hsh : ∀ i q, i ≠ id → st.sh i = some q → sh' i = some q) {a : AV} {x : Value} (ha : AR w X μ st.sh a x) (hna : ∀ cs, a ≠ .ag cs) :
    AR w (fun b => X b ∨ ∃ n, μ id = some (b, n)) μ sh' (frz0 id r a) x := by
  have hX : ∀ b, X b → X b ∨ ∃ n, μ id = some (b, n) := fun b hb => .inl hb
  have hS : Same X w w := fun _ _ => rfl
  have hlone := h.lone hl hc
  have hshid : St.sh ⟨[], [(id, r)]⟩ id = st.sh id := by rw [sh_of hl]; simp [St.sh, look]
  have conv : ∀ {a : AV} {x : Value} {t : T}, AR w X μ (St.sh ⟨[], [(id, r)]⟩) a x → reify [(id, r)] 4 a = some t → TR w (fun b => X b ∨ ∃ n, μ id = some (b, n)) t x := by
    intro a x t ha hr
    refine (reify_ok hlone 4 ha hr).mono (fun _ _ => rfl) (fun b hb => ?_)
    rcases hb with hb | ⟨i, n, hi, hm⟩
    · exact .inl hb
    · have : i = id := by
        by_cases e : i = id
        · exact e
        · simp [St.sh, look, Ne.symm e] at hi
      subst this; exact .inr ⟨n, hm⟩
  cases ha with
  | t y v hy => exact .t _ _ (hy.mono hS hX)
  | lsnil i s n hs hm oa cap hq =>
    simp only [Lg.frz0]; split
    · rename_i e; subst e
      split
      · rename_i t ht; exact .t _ _ (conv (.lsnil i s n (hshid.trans hs) hm oa cap hq) ht)
      · exact .dead _ rfl
    · rename_i hne; exact .lsnil i s n (hsh _ _ hne hs) hm oa cap hq
  | ls i off len s n g m c cap hs hm hle hlc hcm hfit hfull hq ad had =>
    simp only [Lg.frz0]; split
    · rename_i e; subst e
      split
      · rename_i t ht; exact .t _ _ (conv (.ls i off len s n g m c cap (hshid.trans hs) hm hle hlc hcm hfit hfull hq ad had) ht)
      · exact .dead _ rfl
    · rename_i hne; exact .ls i off len s n g m c cap (hsh _ _ hne hs) hm hle hlc hcm hfit hfull hq ad had
  | lpsl i j k s n g m hs hm =>
    simp only [Lg.frz0]; split
    · rename_i e; subst e
      split
      · rename_i t ht; exact .t _ _ (conv (.lpsl i j k s n g m (hshid.trans hs) hm) ht)
      · exact .dead _ rfl
    · rename_i hne; exact .lpsl i j k s n g m (hsh _ _ hne hs) hm
  | lpbx i k g m hs hm =>
    simp only [Lg.frz0]; split
    · rename_i e; subst e
      split
      · rename_i t ht; exact .t _ _ (conv (.lpbx i k g m (hshid.trans hs) hm) ht)
      · exact .dead _ rfl
    · rename_i hne; exact .lpbx i k g m (hsh _ _ hne hs) hm
  | lm i g m hs hm =>
    simp only [Lg.frz0]; split
    · rename_i e; subst e
      split
      · rename_i t ht; exact .t _ _ (conv (.lm i g m (hshid.trans hs) hm) ht)
      · exact .dead _ rfl
    · rename_i hne; exact .lm i g m (hsh _ _ hne hs) hm
  | lb i g m hs hm hle =>
    simp only [Lg.frz0]; split
    · rename_i e; subst e
      split
      · rename_i t ht; exact .t _ _ (conv (.lb i g m (hshid.trans hs) hm hle) ht)
      · exact .dead _ rfl
    · rename_i hne; exact .lb i g m (hsh _ _ hne hs) hm hle
  | li i g m hs hm =>
    simp only [Lg.frz0]; split
    · exact .dead _ rfl
    · rename_i hne; exact .li i g m (hsh _ _ hne hs) hm
  | fn f cs xs hlen hrel =>
    cases cs with
    | nil => exact .fn f [] xs hlen (fun k a x h => by simp at h)
    | cons c cs => exact .dead _ rfl
  | dead v h => exact .dead _ h
  | un => exact .un
  | ag cs xs => exact absurd rfl (hna cs)

theorem AR.frz1 (h : Sim w0 B κ X μ st tm w) (hl : look st.hp id = some r) (hc : r.closed = true) (hsh : ∀ i q, i ≠ id → st.sh i = some q → sh' i = some q) {a : AV} {x : Value} (ha : AR w X μ st.sh a x) (hna : ∀ cs, a ≠ .ag cs) :
    AR w (fun b => X b ∨ ∃ n, μ id = some (b, n)) μ sh' (frz1 id r a) x := by
  by_cases hf : ∃ f cs, a = .fn f cs
  · obtain ⟨f, cs, rfl⟩ := hf
    simp only [Lg.frz1]
    split
    · rename_i hall
      cases ha with
      | fn f cs xs hlen hrel =>
        refine .fn f _ xs (by simpa using hlen) fun k a x ha hx => ?_
        simp only [List.getElem?_map, Option.map_eq_some_iff] at ha
        obtain ⟨b, hb, rfl⟩ := ha
        refine (hrel k b x hb hx).frz0 h hl hc hsh fun cs e => ?_
        have := List.all_eq_true.1 hall b (List.mem_of_getElem? hb)
        rw [e] at this; cases this
    · cases ha; exact .dead _ rfl
  · have e : Lg.frz1 id r a = Lg.frz0 id r a := by cases a <;> first | rfl | exact absurd ⟨_, _, rfl⟩ hf
    rw [e]; exact ha.frz0 h hl hc hsh hna

theorem frz0_one {a : AV} (h : a.one = true) : (frz0 id r a).one = true := by
  have key : ∀ a : AV, a.one = true → (∀ x, a ≠ .t x) → (match reify [(id, r)] 4 a with | some t => AV.t t | none => .dead).one = true := by
    intro a h1 _
    split
    · rename_i t ht; exact reify_one h1 ht
    · rfl
  cases a with
  | fn f cs => cases cs <;> rfl
  | ag cs => simp [AV.one] at h
  | un => simp [AV.one] at h
  | t x => exact h
  | dead => rfl
  | ls i off len cap => simp only [frz0]; split; exact key (.ls id off len cap) rfl (by simp); rfl
  | lp i j k => simp only [frz0]; split; exact key (.lp id j k) rfl (by simp); rfl
  | lm i => simp only [frz0]; split; exact key (.lm id) rfl (by simp); rfl
  | lb i m => simp only [frz0]; split; exact key (.lb id m) rfl (by simp); rfl
  | li i => simp only [frz0]; split <;> rfl

theorem frz1_one {a : AV} (h : a.one = true) : (frz1 id r a).one = true := by
  cases a with
  | fn f cs => simp only [frz1]; split <;> rfl
  | ag cs => simp [AV.one] at h
  | un => simp [AV.one] at h
  | t x => exact h
  | dead => rfl
  | ls i off len cap => exact frz0_one (a := .ls i off len cap) rfl
  | lp i j k => exact frz0_one (a := .lp i j k) rfl
  | lm i => exact frz0_one (a := .lm i) rfl
  | lb i m => exact frz0_one (a := .lb i m) rfl
  | li i => exact frz0_one (id := id) (r := r) (a := .li i) rfl

theorem frzRef_one {a : AV} (h : a.one = true) : (frzRef id r a).one = true := by
  have e : frzRef id r a = frz1 id r a := by cases a <;> first | rfl | simp [AV.one] at h
  rw [e]; exact frz1_one h

theorem AR.frz (h : Sim w0 B κ X μ st tm w) (hl : look st.hp id = some r) (hc : r.closed = true) (hsh : ∀ i q, i ≠ id → st.sh i = some q → sh' i = some q) {a : AV} {x : Value} (ha : AR w X μ st.sh a x) :
    AR w (fun b => X b ∨ ∃ n, μ id = some (b, n)) μ sh' (frzRef id r a) x := by
  by_cases hg : ∃ cs, a = .ag cs
  · obtain ⟨cs, rfl⟩ := hg
    obtain ⟨xs, rfl, h1, hr⟩ := ha.ag_inv
    refine AR.mk_ag (List.all_eq_true.2 fun b hb => ?_) ⟨by simpa using hr.1, fun k b y hb hy => ?_⟩
    · obtain ⟨c, hc, rfl⟩ := List.mem_map.1 hb
      exact frz1_one (List.all_eq_true.1 h1 c hc)
    · simp only [List.getElem?_map, Option.map_eq_some_iff] at hb
      obtain ⟨c, hc', rfl⟩ := hb
      exact (hr.2 k c y hc' hy).frz1 h hl hc hsh (fun cs e => by have := onesA_get h1 hc'; rw [e] at this; simp [AV.one] at this)
  · have e : frzRef id r a = Lg.frz1 id r a := by cases a <;> first | rfl | exact absurd ⟨_, rfl⟩ hg
    rw [e]; exact ha.frz1 h hl hc hsh (fun cs e => hg ⟨cs, e⟩)

theorem frzReg_sh (q : Reg) : (frzReg id r q).sh = q.sh := by cases q <;> rfl

/-- A region becomes immutable. -/
theorem Sim.freeze (h : Sim w0 B κ X μ st tm w) (hl : look st.hp id = some r) (hc : r.closed = true) :
    Sim w0 B κ (fun b => X b ∨ ∃ n, μ id = some (b, n)) μ ⟨st.env.map fun p => (p.1, frzRef id r p.2), (del id st.hp).map fun p => (p.1, frzReg id r p.2)⟩ tm w := by
  have hlook : ∀ t, look ((del id st.hp).map fun p => (p.1, frzReg id r p.2)) t = if t = id then none else (look st.hp t).map (frzReg id r) := by
    intro t
    rw [look_map (frzReg id r), look_del]
    split <;> rfl
  have hs : ∀ t, St.sh ⟨st.env.map fun p => (p.1, frzRef id r p.2), (del id st.hp).map fun p => (p.1, frzReg id r p.2)⟩ t = if t = id then none else st.sh t := by
    intro t
    simp only [St.sh, hlook]
    split
    · rfl
    · cases look st.hp t <;> simp [frzReg_sh]
  have hsh : ∀ i q, i ≠ id → st.sh i = some q → St.sh ⟨st.env.map fun p => (p.1, frzRef id r p.2), (del id st.hp).map fun p => (p.1, frzReg id r p.2)⟩ i = some q := fun i q hi hq => by rw [hs, if_neg hi]; exact hq
  have hback : ∀ i, St.sh ⟨st.env.map fun p => (p.1, frzRef id r p.2), (del id st.hp).map fun p => (p.1, frzReg id r p.2)⟩ i ≠ none → i ≠ id ∧ st.sh i ≠ none := fun i hi => by
    rw [hs] at hi
    split at hi
    · exact absurd rfl hi
    · rename_i hne; exact ⟨hne, hi⟩
  have hid : st.sh id ≠ none := by simp [sh_of hl]
  refine ⟨?_, ?_, fun a b g n n' ha hb => h.inj a b g n n' (hback a ha).2 (hback b hb).2, ?_, fun a hk ha => h.kap a hk (hback a ha).2, h.kbig, ?_, h.os, h.tape, h.output, h.size, h.fr⟩
  · intro t a ht
    have h1 : look (st.env.map fun p => (p.1, frzRef id r p.2)) t = (look st.env t).map (frzRef id r) := look_map _ _ _
    simp only [h1, Option.map_eq_some_iff] at ht
    obtain ⟨b, hb, rfl⟩ := ht
    exact (h.env t b hb).frz h hl hc hsh
  · intro i q hq
    simp only [hlook] at hq
    split at hq
    · cases hq
    · rename_i hne
      rw [Option.map_eq_some_iff] at hq
      obtain ⟨q, hq, rfl⟩ := hq
      have := h.reg i q hq
      cases q with
      | sl ty s es =>
        refine ⟨this.1, this.2.imp (fun h => h) fun ⟨g, arr, hm, hg, hle, hr⟩ => ⟨g, arr, hm, hg, hle, fun i k e t x h1 h2 h3 => (hr i k e t x h1 h2 h3).mono (fun _ _ => rfl) (fun _ hb => .inl hb)⟩⟩
      | it s pos => exact this
      | mp es =>
        obtain ⟨g, n, clock, ms, hm, hg, hle, hr⟩ := this
        exact ⟨g, n, clock, ms, hm, hg, hle, fun i e m h1 h2 => ⟨(hr i e m h1 h2).1, (hr i e m h1 h2).2.mono (fun _ _ => rfl) (fun _ hb => .inl hb)⟩⟩
      | bx cs =>
        obtain ⟨h1, g, arr, ty, hm, hg, hle, hr⟩ := this
        refine ⟨fun k a ha => ?_, g, arr, ty, hm, hg, by simpa using hle, fun k a x ha hx => ?_⟩
        · simp only [List.getElem?_map, Option.map_eq_some_iff] at ha
          obtain ⟨b, hb, rfl⟩ := ha
          exact frzRef_one (h1 k b hb)
        · simp only [List.getElem?_map, Option.map_eq_some_iff] at ha
          obtain ⟨b, hb, rfl⟩ := ha
          exact (hr k b x hb hx).frz h hl hc hsh
  · intro i g n hi hm
    obtain ⟨h1, h2⟩ := h.loc i g n (hback i hi).2 hm
    refine ⟨fun hx => ?_, h2⟩
    rcases hx with hx | ⟨n', hx⟩
    · exact h1 hx
    · exact (hback i hi).1 (h.inj i id g n n' (hback i hi).2 hid hm hx)
  · intro b hb
    rcases hb with hb | ⟨n, hb⟩
    · exact h.xlt b hb
    · exact (h.loc id b n hid hb).2.1

end
end Go.Lg

/- THE LOGIC, part 27: code. Conditions: none. -/
set_option linter.unusedSimpArgs false
set_option linter.unusedVariables false
namespace Go.Lg
open Go

/-- What is done to the state alone: only these slots and regions are kept, in this order; a region becomes immutable; an empty slice (in a slot, in a variable) becomes a region of its own. -/
inductive Gh where
  | keep (ks rs : List Nat)
  | frz (id : Nat)
  | nl (slot id ty s : Nat)
  | nlb (rid k id ty s : Nat)
  | ren (a b : Nat)
  | renS (a base slot : Nat)
  | keepB (ks rs : List Nat) (base N : Nat)
  | frzs (base n : Nat)

def killAll : List Nat → St → St
  | [], st => st
  | id :: ids, st => killAll ids (st.kill id)

/-- The name of a region, changed. -/
def toName (a b i : Nat) : Option Nat := if i = a then some b else some i
def renHp (a b : Nat) : List (Nat × Reg) → List (Nat × Reg)
  | [] => []
  | (k, r) :: l => (if k = a then b else k, renReg (toName a b) r) :: renHp a b l
def frzN (base : Nat) : Nat → St → St
  | 0, st => st
  | n + 1, st => frzN base n (st.freeze (base + n))

def renSt (a b : Nat) (st : St) : St := if (look st.hp b).isNone && (look st.hp a).isSome && decide (a < 1000000) && decide (b < 1000000) then ⟨st.env.map fun p => (p.1, renRef (toName a b) p.2), renHp a b st.hp⟩ else st
def keepBSt (ks rs : List Nat) (base N : Nat) (st : St) : St :=
  let s1 := killAll ((st.hp.map (·.1)).filter fun id => !rs.contains id && !(decide (base ≤ id) && decide (id < base + N))) ⟨Lg.keep ks st.env, st.hp⟩
  ⟨s1.env, Lg.keep rs s1.hp ++ Lg.keep (List.range' base N) s1.hp⟩

def Gh.run : Gh → St → St
  | .renS a base slot, st => match look st.env slot with
    | some (.t (.v (.int _ n))) => renSt a (base + n.toNat) st
    | _ => st
  | .keepB ks rs base N, st => keepBSt ks rs base N st
  | .ren a b, st => renSt a b st
  | .frzs base n, st => frzN base n st
  | .keep ks rs, st =>
    let s1 := killAll ((st.hp.map (·.1)).filter fun id => !rs.contains id) ⟨Lg.keep ks st.env, st.hp⟩
    ⟨s1.env, Lg.keep rs s1.hp⟩
  | .frz id, st => st.freeze id
  | .nl slot id ty s, st => match look st.env slot with
    | some (.t (.sl [] (some 0) _)) => if (look st.hp id).isNone && decide (id < 1000000) then ⟨(slot, .ls id 0 0 none) :: st.env, (id, .sl ty s []) :: st.hp⟩ else st
    | _ => st
  | .nlb rid k id ty s, st => match look st.hp rid with
    | some (.bx cs) => match cs[k]? with
      | some (.t (.sl [] (some 0) _)) => if (look st.hp id).isNone && decide (id < 1000000) then ⟨st.env, (id, .sl ty s []) :: setR rid (.bx (cs.set k (.ls id 0 0 none))) st.hp⟩ else st
      | _ => st
    | _ => st

inductive IC where
  | skip
  | reg (ros : List RO) (gs : List Gh)
  | seq (a b : IC)
  | cond (c : Operand) (a b : IC)
  | block (id : Nat) (a : IC)
  | loop (a : IC)
  | exit (id : Nat)
  | ret
  | scope (a : IC)
  | gh (a : IC) (gs : List Gh)
  | dead

inductive AX where
  | normal
  | exit (id : Nat)
  | ret

def chkC (P : Program) (N : Nat) : IC → Code → Bool
  | .skip, .skip => true
  | .skip, .label _ => true
  | .reg ros _, .region _ ops dr => chkOs P N ops.toList ros ops.toList && (!dr || drawOk ros ops.toList)
  | .seq a b, .seq c d => chkC P N a c && chkC P N b d
  | .cond x a b, .cond y c d => opdB x y && okOpd x && chkC P N a c && chkC P N b d
  | .block i a, .block j c => i == j && chkC P N a c
  | .loop a, .loop c => chkC P N a c
  | .exit i, .exit j => i == j
  | .ret, .ret => true
  | .scope a, .scope c => chkC P N a c
  | .gh a _, c => chkC P N a c
  | .dead, _ => true
  | _, _ => false

def thenX (n : St → Prop) (Q : AX → St → Prop) : AX → St → Prop
  | .normal, s => n s
  | e, s => Q e s
def blockX (id : Nat) (Q : AX → St → Prop) : AX → St → Prop
  | .exit i, s => if i = id then Q .normal s else Q (.exit i) s
  | e, s => Q e s

def loopN (F : (AX → St → Prop) → St → Prop) (Q : AX → St → Prop) : Nat → St → Prop
  | 0, _ => False
  | n + 1, s => F (thenX (loopN F Q n) Q) s

/-- What the code does. -/
def awp (P : Program) (Γ : Tables) : IC → (AX → St → Prop) → St → Prop
  | .skip, Q, s => Q .normal s
  | .reg ros gs, Q, s => ∃ s1, asteps P Γ ros s s1 ∧ Q .normal (gs.foldl (fun s g => g.run s) s1)
  | .seq a b, Q, s => awp P Γ a (thenX (awp P Γ b Q) Q) s
  | .cond c a b, Q, s => ∃ t, ev Γ s.env c = some (.t (.v (.bool t))) ∧ (t = true → awp P Γ a Q s) ∧ (t = false → awp P Γ b Q s)
  | .block id a, Q, s => awp P Γ a (blockX id Q) s
  | .loop a, Q, s => ∃ n, loopN (awp P Γ a) Q n s
  | .exit i, Q, s => Q (.exit i) s
  | .ret, Q, s => Q .ret s
  | .scope a, Q, s => awp P Γ a Q s
  | .gh a gs, Q, s => awp P Γ a (thenX (fun s => Q .normal (gs.foldl (fun s g => g.run s) s)) Q) s
  | .dead, _, _ => False

def AX.to : AX → Exit
  | .normal => .normal
  | .exit i => .exit i
  | .ret => .ret

section
variable {P : Program} {Γ : Tables} {w0 : World} {B : Nat} {κ : Loc} {X0 X : Nat → Prop} {st st1 : St} {N : Nat} {a : Act} {w : World}

theorem awp_mono : ∀ {c : IC} {Q Q' : AX → St → Prop} {s : St}, awp P Γ c Q s → (∀ e s, Q e s → Q' e s) → awp P Γ c Q' s
  | .skip, _, _, _, h, hq => hq _ _ h
  | .reg _ _, _, _, _, ⟨s1, h1, h2⟩, hq => ⟨s1, h1, hq _ _ h2⟩
  | .seq a b, Q, Q', s, h, hq => awp_mono (c := a) h fun e s h => by
    cases e with
    | normal => exact awp_mono (c := b) h hq
    | exit i => exact hq _ _ h
    | ret => exact hq _ _ h
  | .cond _ a b, _, _, _, ⟨t, h1, h2, h3⟩, hq => ⟨t, h1, fun e => awp_mono (c := a) (h2 e) hq, fun e => awp_mono (c := b) (h3 e) hq⟩
  | .block id a, Q, Q', s, h, hq => awp_mono (c := a) h fun e s h => by
    cases e with
    | normal => exact hq _ _ h
    | exit i => simp only [blockX] at h ⊢; split <;> rename_i hi <;> simp only [hi, if_true, if_false] at h <;> exact hq _ _ h
    | ret => exact hq _ _ h
  | .loop a, Q, Q', s, ⟨n, h⟩, hq => by
    refine ⟨n, ?_⟩
    induction n generalizing s with
    | zero => exact h
    | succ n ih =>
      refine awp_mono (c := a) h fun e s h => ?_
      cases e with
      | normal => exact ih _ h
      | exit i => exact hq _ _ h
      | ret => exact hq _ _ h
  | .exit _, _, _, _, h, hq => hq _ _ h
  | .ret, _, _, _, h, hq => hq _ _ h
  | .scope a, _, _, _, h, hq => awp_mono (c := a) h hq
  | .gh a gs, _, _, _, h, hq => awp_mono (c := a) h fun e s h => by
    cases e with
    | normal => exact hq _ _ h
    | exit i => exact hq _ _ h
    | ret => exact hq _ _ h
  | .dead, _, _, _, h, _ => h.elim

/-- One outcome serves. -/
theorem awp_pick : ∀ {c : IC} {Q : AX → St → Prop} {s : St}, awp P Γ c Q s → ∃ e s', Q e s' ∧ awp P Γ c (fun e2 s2 => e2 = e ∧ s2 = s') s
  | .skip, _, _, h => ⟨_, _, h, rfl, rfl⟩
  | .reg _ _, _, _, ⟨s1, h1, h2⟩ => ⟨_, _, h2, s1, h1, rfl, rfl⟩
  | .seq a b, Q, s, h => by
    obtain ⟨e, s1, h1, h2⟩ := awp_pick (c := a) h
    cases e with
    | normal =>
      obtain ⟨e2, s2, h3, h4⟩ := awp_pick (c := b) h1
      exact ⟨e2, s2, h3, awp_mono (c := a) h2 fun e s ⟨he, hs⟩ => by subst he; subst hs; exact h4⟩
    | exit i => exact ⟨_, _, h1, awp_mono (c := a) h2 fun e s ⟨he, hs⟩ => by subst he; subst hs; exact ⟨rfl, rfl⟩⟩
    | ret => exact ⟨_, _, h1, awp_mono (c := a) h2 fun e s ⟨he, hs⟩ => by subst he; subst hs; exact ⟨rfl, rfl⟩⟩
  | .cond c a b, Q, s, ⟨t, h1, h2, h3⟩ => by
    cases t with
    | true =>
      obtain ⟨e, s1, h4, h5⟩ := awp_pick (c := a) (h2 rfl)
      exact ⟨e, s1, h4, true, h1, fun _ => h5, fun h => by cases h⟩
    | false =>
      obtain ⟨e, s1, h4, h5⟩ := awp_pick (c := b) (h3 rfl)
      exact ⟨e, s1, h4, false, h1, (fun h => by cases h), fun _ => h5⟩
  | .block id a, Q, s, h => by
    obtain ⟨e, s1, h1, h2⟩ := awp_pick (c := a) h
    cases e with
    | normal => exact ⟨_, _, h1, awp_mono (c := a) h2 fun e s ⟨he, hs⟩ => by subst he; subst hs; exact ⟨rfl, rfl⟩⟩
    | ret => exact ⟨_, _, h1, awp_mono (c := a) h2 fun e s ⟨he, hs⟩ => by subst he; subst hs; exact ⟨rfl, rfl⟩⟩
    | exit i =>
      by_cases hi : i = id
      · simp only [blockX, hi, if_true] at h1
        exact ⟨_, _, h1, awp_mono (c := a) h2 fun e s ⟨he, hs⟩ => by subst he; subst hs; simp [blockX, hi]⟩
      · simp only [blockX, hi, if_false] at h1
        exact ⟨_, _, h1, awp_mono (c := a) h2 fun e s ⟨he, hs⟩ => by subst he; subst hs; simp [blockX, hi]⟩
  | .loop a, Q, s, ⟨n, h⟩ => by
    induction n generalizing s with
    | zero => exact h.elim
    | succ n ih =>
      obtain ⟨e, s1, h1, h2⟩ := awp_pick (c := a) h
      cases e with
      | normal =>
        obtain ⟨e2, s2, h3, m, h4⟩ := ih _ h1
        exact ⟨e2, s2, h3, m + 1, awp_mono (c := a) h2 fun e s ⟨he, hs⟩ => by subst he; subst hs; exact h4⟩
      | exit i => exact ⟨_, _, h1, 1, awp_mono (c := a) h2 fun e s ⟨he, hs⟩ => by subst he; subst hs; exact ⟨rfl, rfl⟩⟩
      | ret => exact ⟨_, _, h1, 1, awp_mono (c := a) h2 fun e s ⟨he, hs⟩ => by subst he; subst hs; exact ⟨rfl, rfl⟩⟩
  | .exit _, _, _, h => ⟨_, _, h, rfl, rfl⟩
  | .ret, _, _, h => ⟨_, _, h, rfl, rfl⟩
  | .scope a, Q, s, h => awp_pick (c := a) h
  | .gh a gs, Q, s, h => by
    obtain ⟨e, s1, h1, h2⟩ := awp_pick (c := a) h
    cases e with
    | normal => exact ⟨_, _, h1, awp_mono (c := a) h2 fun e s ⟨he, hs⟩ => by subst he; subst hs; exact ⟨rfl, rfl⟩⟩
    | exit i => exact ⟨_, _, h1, awp_mono (c := a) h2 fun e s ⟨he, hs⟩ => by subst he; subst hs; exact ⟨rfl, rfl⟩⟩
    | ret => exact ⟨_, _, h1, awp_mono (c := a) h2 fun e s ⟨he, hs⟩ => by subst he; subst hs; exact ⟨rfl, rfl⟩⟩
  | .dead, _, _, h => h.elim

/-- A loop, unrolled. -/
theorem awp_loop {c : IC} {Q : AX → St → Prop} {s : St} (h : awp P Γ c (thenX (awp P Γ (.loop c) Q) Q) s) : awp P Γ (.loop c) Q s := by
  obtain ⟨e, s1, h1, h2⟩ := awp_pick h
  cases e with
  | normal =>
    obtain ⟨n, h1⟩ := h1
    exact ⟨n + 1, awp_mono h2 fun e s ⟨he, hs⟩ => by subst he; subst hs; exact h1⟩
  | exit i => exact ⟨1, awp_mono h2 fun e s ⟨he, hs⟩ => by subst he; subst hs; exact h1⟩
  | ret => exact ⟨1, awp_mono h2 fun e s ⟨he, hs⟩ => by subst he; subst hs; exact h1⟩

theorem killAll_ok : ∀ {ids : List Nat} {st : St} {X : Nat → Prop} {μ : Loc} {tm : Array Value}, Sim w0 B κ X μ st tm w → Sim w0 B κ X μ (killAll ids st) tm w
  | [], _, _, _, _, h => h
  | id :: ids, _, _, _, _, h => killAll_ok (ids := ids) (h.kill id)

theorem look_killAll : ∀ {ids : List Nat} {st : St} {t : Nat}, look (killAll ids st).hp t ≠ none → t ∉ ids ∧ look st.hp t ≠ none
  | [], _, _, h => ⟨by simp, h⟩
  | id :: ids, st, t, h => by
    obtain ⟨h1, h2⟩ := look_killAll (ids := ids) h
    rw [look_kill] at h2
    split at h2
    · exact absurd rfl h2
    · rename_i hne
      refine ⟨by simp [hne, h1], fun e => h2 (by rw [e]; rfl)⟩

theorem look_mem {α : Type} : ∀ {l : List (Nat × α)} {t : Nat}, look l t ≠ none → t ∈ l.map (·.1)
  | [], _, h => absurd rfl h
  | (k, v) :: l, t, h => by
    simp only [look] at h
    split at h
    · rename_i e; simp [e]
    · exact List.mem_cons_of_mem _ (look_mem h)

theorem look_keep' {α : Type} {ks : List Nat} {l : List (Nat × α)} {t : Nat} (h : look l t ≠ none → t ∈ ks) : look (Lg.keep ks l) t = look l t := by
  cases hq : look (Lg.keep ks l) t with
  | some a => exact ((look_keep ks l t a hq).1).symm
  | none =>
    cases hl : look l t with
    | none => rfl
    | some a =>
      exfalso
      have hm := h (by rw [hl]; simp)
      clear h
      induction ks with
      | nil => cases hm
      | cons k ks ih =>
        unfold Lg.keep at hq ih
        rw [List.filterMap_cons] at hq
        cases hk : look l k with
        | none =>
          rw [hk] at hq
          rcases List.mem_cons.1 hm with rfl | hm
          · rw [hl] at hk; cases hk
          · exact ih hq hm
        | some v =>
          rw [hk] at hq
          simp only [Option.map_some, look] at hq
          split at hq
          · cases hq
          · rename_i hne
            rcases List.mem_cons.1 hm with rfl | hm
            · exact hne rfl
            · exact ih hq hm

theorem Sim.hpc {X : Nat → Prop} {μ : Loc} {tm : Array Value} {hp : List (Nat × Reg)} (h : Sim w0 B κ X μ st tm w) (hl : ∀ t, look hp t = look st.hp t) : Sim w0 B κ X μ ⟨st.env, hp⟩ tm w := by
  have hs : St.sh ⟨st.env, hp⟩ = st.sh := funext fun t => by simp only [St.sh, hl]
  refine ⟨fun t a ht => ?_, fun id r hr => ?_, ?_, ?_, ?_, h.kbig, h.xlt, h.os, h.tape, h.output, h.size, h.fr⟩
  · rw [hs]; exact h.env t a ht
  · rw [hs]; exact h.reg id r (by rw [← hl]; exact hr)
  · rw [hs]; exact h.inj
  · rw [hs]; exact h.loc
  · rw [hs]; exact h.kap

theorem Sim.slot {X : Nat → Prop} {μ : Loc} {tm : Array Value} {t : Nat} {b : AV} (h : Sim w0 B κ X μ st tm w) (hb : AR w X μ st.sh b (tm.getD t undef)) : Sim w0 B κ X μ ⟨(t, b) :: st.env, st.hp⟩ tm w := by
  refine ⟨fun u a ha => ?_, h.reg, h.inj, h.loc, h.kap, h.kbig, h.xlt, h.os, h.tape, h.output, h.size, h.fr⟩
  simp only [look] at ha
  split at ha
  · rename_i e; subst e; simp only [Option.some.injEq] at ha; subst ha; exact hb
  · exact h.env u a ha

theorem TR.nil_inv {X : Nat → Prop} {nl : Option Bool} {v : Value} (h : TR w X (.sl [] (some 0) nl) v) : ∃ a, v = .slice a 0 0 := by
  cases h with
  | nil cap nl a c hc hn hz => exact ⟨a, by rw [hc 0 rfl]⟩
  | sl es cap nl s b off c f hcell hlen hrel hone hx hle hc hn => exact ⟨_, by rw [hc 0 rfl]; rfl⟩

theorem Sim.addNil {X : Nat → Prop} {μ : Loc} {tm : Array Value} {id : Nat} (h : Sim w0 B κ X μ st tm w) (hi : look st.hp id = none) (hlt : id < 1000000) (ty s : Nat) : Sim w0 B κ X (μ.set id none) ⟨st.env, (id, .sl ty s []) :: st.hp⟩ tm w := by
  refine h.addReg hi hlt (.sl ty s []) none (fun g n e => by cases e) ⟨fun i e h => by simp at h, .inl ⟨rfl, by simp [Loc.set]⟩⟩

theorem look_renHp {a b t : Nat} : ∀ {hp : List (Nat × Reg)}, look hp b = none → a ≠ b → look (renHp a b hp) t = if t = b then (look hp a).map (renReg (toName a b)) else if t = a then none else (look hp t).map (renReg (toName a b))
  | [], _, _ => by simp [renHp, look]
  | (k, r) :: l, hb, hab => by
    simp only [look] at hb
    split at hb
    · cases hb
    rename_i hkb
    have ih := look_renHp (t := t) hb hab
    simp only [renHp, look, ih]
    by_cases hka : k = a
    · subst hka
      by_cases htb : t = b
      · subst htb; simp
      · simp [htb, Ne.symm htb]
        by_cases hta : t = k
        · simp [hta]
        · simp [hta, Ne.symm hta]
    · simp only [hka, if_false]
      by_cases htb : t = b
      · subst htb; simp [hkb]
      · by_cases hkt : k = t
        · subst hkt; simp [htb, hka]
        · simp [hkt, htb]

theorem Sim.rename {X : Nat → Prop} {μ : Loc} {tm : Array Value} (h : Sim w0 B κ X μ st tm w) {x y : Nat} (hb : look st.hp y = none) (ha : look st.hp x ≠ none) (hx : x < 1000000) (hy : y < 1000000) :
    Sim w0 B κ X (fun i => if i = y then μ x else μ i) ⟨st.env.map fun p => (p.1, renRef (toName x y) p.2), renHp x y st.hp⟩ tm w := by
  have hne : x ≠ y := fun e => ha (e ▸ hb)
  have hl := fun t => look_renHp (t := t) hb hne
  have hsh : ∀ t, St.sh ⟨st.env.map fun p => (p.1, renRef (toName x y) p.2), renHp x y st.hp⟩ t = if t = y then st.sh x else if t = x then none else st.sh t := by
    intro t
    simp only [St.sh, hl]
    split
    · cases look st.hp x <;> simp [renReg_sh]
    · split
      · rfl
      · cases look st.hp t <;> simp [renReg_sh]
  have hyn : st.sh y = none := St.sh_none.2 hb
  have hφ : ∀ i j q, toName x y i = some j → st.sh i = some q → St.sh ⟨st.env.map fun p => (p.1, renRef (toName x y) p.2), renHp x y st.hp⟩ j = some q ∧ (if j = y then μ x else μ j) = μ i := by
    intro i j q hj hq
    rw [hsh]
    simp only [toName] at hj
    split at hj <;> simp only [Option.some.injEq] at hj <;> subst hj
    · rename_i e; subst e; simp [hq]
    · rename_i e
      have : i ≠ y := fun e => by rw [e, hyn] at hq; cases hq
      simp [this, e, hq]
  -- the elder name
  have hback : ∀ t, St.sh ⟨st.env.map fun p => (p.1, renRef (toName x y) p.2), renHp x y st.hp⟩ t ≠ none → ∃ u, st.sh u ≠ none ∧ (if t = y then μ x else μ t) = μ u ∧ (t = y ∧ u = x ∨ t ≠ y ∧ t ≠ x ∧ u = t) := by
    intro t ht
    rw [hsh] at ht
    by_cases e : t = y
    · exact ⟨x, by simpa [e] using ht, by simp [e], .inl ⟨e, rfl⟩⟩
    · by_cases f : t = x
      · rw [if_neg e, if_pos f] at ht
        exact absurd rfl ht
      · exact ⟨t, by simpa [e, f] using ht, by simp [e], .inr ⟨e, f, rfl⟩⟩
  refine ⟨?_, ?_, ?_, ?_, ?_, h.kbig, h.xlt, h.os, h.tape, h.output, h.size, h.fr⟩
  · intro t a ht
    have h1 : look (st.env.map fun p => (p.1, renRef (toName x y) p.2)) t = (look st.env t).map (renRef (toName x y)) := look_map _ _ _
    have ht' : look (st.env.map fun p => (p.1, renRef (toName x y) p.2)) t = some a := ht
    rw [h1, Option.map_eq_some_iff] at ht'
    obtain ⟨b, hb, rfl⟩ := ht'
    exact (h.env t b hb).ren hφ
  · intro t r hr
    have hr' : look (renHp x y st.hp) t = some r := hr
    rw [hl] at hr'
    split at hr'
    · rename_i e; subst e
      rw [Option.map_eq_some_iff] at hr'
      obtain ⟨q, hq, rfl⟩ := hr'
      exact (h.reg x q hq).ren hφ (by simp)
    · rename_i e
      split at hr'
      · cases hr'
      · rw [Option.map_eq_some_iff] at hr'
        obtain ⟨q, hq, rfl⟩ := hr'
        exact (h.reg t q hq).ren hφ (by simp [e])
  · intro a b g n n' ha' hb' hma hmb
    obtain ⟨u, h1, h2, h3⟩ := hback a ha'
    obtain ⟨v, h4, h5, h6⟩ := hback b hb'
    have := h.inj u v g n n' h1 h4 (h2 ▸ hma) (h5 ▸ hmb)
    subst this
    rcases h3 with ⟨h3, h3'⟩ | ⟨h3, h3', h3''⟩ <;> rcases h6 with ⟨h6, h6'⟩ | ⟨h6, h6', h6''⟩
    · rw [h3, h6]
    · exact absurd (h6''.symm.trans h3') h6'
    · exact absurd (h3''.symm.trans h6') h3'
    · rw [← h3'', ← h6'']
  · intro t g n ht hm
    obtain ⟨u, h1, h2, _⟩ := hback t ht
    exact h.loc u g n h1 (h2 ▸ hm)
  · intro t hbig ht
    obtain ⟨u, h1, h2, h3⟩ := hback t ht
    rcases h3 with ⟨h3, _⟩ | ⟨_, _, h3⟩
    · omega
    · subst h3
      exact h2.trans (h.kap u hbig h1)

theorem Inv.freeze (hI : Inv Γ w0 B κ X0 N st a w) (id : Nat) : Inv Γ w0 B κ X0 N (st.freeze id) a w := by
  obtain ⟨X, μ, hsim, hg, h0, hbd, hsz, hds⟩ := hI
  simp only [St.freeze]
  split
  · rename_i r hl
    split
    · rename_i hc
      refine ⟨_, μ, hsim.freeze hl hc, hg.mono (fun _ _ => rfl) (fun _ hb => .inl hb), fun b hb => .inl (h0 b hb), fun b hb => ?_, hsz, hds⟩
      rcases hb with hb | ⟨n, hb⟩
      · exact hbd b hb
      · rcases Nat.lt_or_ge b B with hlt | hge
        · obtain ⟨id', n', hk⟩ := (hsim.loc id b n (by simp [sh_of hl]) hb).2.2 hlt
          exact .inr (.inr ⟨id', n', hk⟩)
        · exact .inr (.inl hge)
    · exact ⟨X, μ, hsim, hg, h0, hbd, hsz, hds⟩
  · exact ⟨X, μ, hsim, hg, h0, hbd, hsz, hds⟩

theorem frzN_ok {base : Nat} : ∀ {n : Nat} {st : St}, Inv Γ w0 B κ X0 N st a w → Inv Γ w0 B κ X0 N (frzN base n st) a w
  | 0, _, h => h
  | n + 1, _, h => frzN_ok (n := n) (h.freeze (base + n))

theorem renSt_ok (x y : Nat) (hI : Inv Γ w0 B κ X0 N st a w) : Inv Γ w0 B κ X0 N (renSt x y st) a w := by
  obtain ⟨X, μ, hsim, hg, h0, hbd, hsz, hds⟩ := hI
  simp only [renSt]
  split
  · rename_i hc
    simp only [Bool.and_eq_true, Option.isNone_iff_eq_none, decide_eq_true_eq, Option.isSome_iff_ne_none] at hc
    exact ⟨X, _, hsim.rename hc.1.1.1 hc.1.1.2 hc.1.2 hc.2, hg, h0, hbd, hsz, hds⟩
  · exact ⟨X, μ, hsim, hg, h0, hbd, hsz, hds⟩

theorem Gh.run_ok (g : Gh) (hI : Inv Γ w0 B κ X0 N st a w) : Inv Γ w0 B κ X0 N (g.run st) a w := by
  obtain ⟨X, μ, hsim, hg, h0, hbd, hsz, hds⟩ := hI
  cases g with
  | keep ks rs =>
    have h1 : Sim w0 B κ X μ ⟨Lg.keep ks st.env, st.hp⟩ a.tmps w := hsim.sub _ fun t b ht => (look_keep ks _ t b ht).1
    have h2 := killAll_ok (ids := (st.hp.map (·.1)).filter fun id => !rs.contains id) h1
    refine ⟨X, μ, h2.hpc fun t => look_keep' fun hne => ?_, hg, h0, hbd, hsz, hds⟩
    obtain ⟨h3, h4⟩ := look_killAll hne
    have h5 := look_mem h4
    simp only [List.mem_filter, not_and, Bool.not_eq_true', Bool.not_eq_true] at h3
    have := h3 h5
    simpa using this
  | frz id => exact Inv.freeze ⟨X, μ, hsim, hg, h0, hbd, hsz, hds⟩ id
  | frzs base n => exact frzN_ok ⟨X, μ, hsim, hg, h0, hbd, hsz, hds⟩
  | ren x y => exact renSt_ok x y ⟨X, μ, hsim, hg, h0, hbd, hsz, hds⟩
  | renS x base slot =>
    simp only [Gh.run]
    split
    · exact renSt_ok _ _ ⟨X, μ, hsim, hg, h0, hbd, hsz, hds⟩
    · exact ⟨X, μ, hsim, hg, h0, hbd, hsz, hds⟩
  | keepB ks rs base n =>
    have h1 : Sim w0 B κ X μ ⟨Lg.keep ks st.env, st.hp⟩ a.tmps w := hsim.sub _ fun t b ht => (look_keep ks _ t b ht).1
    have h2 := killAll_ok (ids := (st.hp.map (·.1)).filter fun id => !rs.contains id && !(decide (base ≤ id) && decide (id < base + n))) h1
    refine ⟨X, μ, h2.hpc fun t => ?_, hg, h0, hbd, hsz, hds⟩
    rw [look_append]
    by_cases ht : t ∈ rs
    · rw [look_keep' (fun _ => ht)]
      cases hl : look (killAll ((st.hp.map (·.1)).filter fun id => !rs.contains id && !(decide (base ≤ id) && decide (id < base + n))) ⟨Lg.keep ks st.env, st.hp⟩).hp t with
      | some r => rfl
      | none =>
        simp only [Option.none_or]
        cases hk : look (Lg.keep (List.range' base n) (killAll ((st.hp.map (·.1)).filter fun id => !rs.contains id && !(decide (base ≤ id) && decide (id < base + n))) ⟨Lg.keep ks st.env, st.hp⟩).hp) t with
        | none => rfl
        | some r => have := (look_keep _ _ t r hk).1; rw [hl] at this; cases this
    · have e : look (Lg.keep rs (killAll ((st.hp.map (·.1)).filter fun id => !rs.contains id && !(decide (base ≤ id) && decide (id < base + n))) ⟨Lg.keep ks st.env, st.hp⟩).hp) t = none := by
        cases hk : look (Lg.keep rs (killAll ((st.hp.map (·.1)).filter fun id => !rs.contains id && !(decide (base ≤ id) && decide (id < base + n))) ⟨Lg.keep ks st.env, st.hp⟩).hp) t with
        | none => rfl
        | some r => exact absurd (look_keep _ _ t r hk).2 ht
      rw [e, Option.none_or]
      refine look_keep' fun hne => ?_
      obtain ⟨h3, h4⟩ := look_killAll hne
      have h5 := look_mem h4
      simp only [List.mem_filter, not_and, Bool.not_eq_true', Bool.not_eq_true] at h3
      have := h3 h5
      simp [ht] at this
      rw [List.mem_range'_1]; omega
  | nl slot id ty s =>
    simp only [Gh.run]
    split
    · rename_i nl hl
      split
      · rename_i hc
        simp only [Bool.and_eq_true, Option.isNone_iff_eq_none, decide_eq_true_eq] at hc
        have h1 := hsim.addNil hc.1 hc.2 ty s
        obtain ⟨ad, hv⟩ := (hsim.env slot _ hl).t_inv.nil_inv
        refine ⟨X, μ.set id none, h1.slot ?_, hg, h0, hbd, hsz, hds⟩
        rw [hv]
        exact .lsnil id s 0 (by simp [St.sh, look, Reg.sh]) (by simp [Loc.set]) ad none (fun q h => by cases h)
      · exact ⟨X, μ, hsim, hg, h0, hbd, hsz, hds⟩
    · exact ⟨X, μ, hsim, hg, h0, hbd, hsz, hds⟩
  | nlb rid k id ty s =>
    simp only [Gh.run]
    split
    · rename_i cs hl
      split
      · rename_i nl hk
        split
        · rename_i hc
          simp only [Bool.and_eq_true, Option.isNone_iff_eq_none, decide_eq_true_eq] at hc
          have h1 := hsim.addNil hc.1 hc.2 ty s
          have hne : rid ≠ id := fun e => by rw [e, hc.1] at hl; cases hl
          have hlk : ∀ t, look ((id, Reg.sl ty s []) :: setR rid (.bx (cs.set k (.ls id 0 0 none))) st.hp) t = if t = rid then some (.bx (cs.set k (.ls id 0 0 none))) else look ((id, Reg.sl ty s []) :: st.hp) t := by
            intro t
            simp only [look]
            by_cases e : id = t
            · subst e; simp [Ne.symm hne]
            · simp only [e, if_false]
              rw [look_setR, hl]; rfl
          have hsh : ∀ t, St.sh ⟨st.env, (id, Reg.sl ty s []) :: setR rid (.bx (cs.set k (.ls id 0 0 none))) st.hp⟩ t = St.sh ⟨st.env, (id, Reg.sl ty s []) :: st.hp⟩ t := by
            intro t
            simp only [St.sh, hlk]
            split
            · rename_i e; subst e; simp [look, Ne.symm hne, hl, Reg.sh]
            · rfl
          have hsf : St.sh ⟨st.env, (id, Reg.sl ty s []) :: setR rid (.bx (cs.set k (.ls id 0 0 none))) st.hp⟩ = St.sh ⟨st.env, (id, Reg.sl ty s []) :: st.hp⟩ := funext hsh
          refine ⟨X, μ.set id none, ⟨fun t b hb => ?_, fun t r hr => ?_, ?_, ?_, ?_, h1.kbig, h1.xlt, h1.os, h1.tape, h1.output, h1.size, h1.fr⟩, hg, h0, hbd, hsz, hds⟩
          · rw [hsf]; exact h1.env t b hb
          · rw [hsf]
            simp only [hlk] at hr
            split at hr
            · rename_i e; subst e
              simp only [Option.some.injEq] at hr; subst hr
              obtain ⟨h2, g, arr, ty', hm, hg', hle, hrel⟩ := h1.reg t (.bx cs) (by simp [look, Ne.symm hne, hl])
              obtain ⟨ad, hv⟩ : ∃ ad, arr[k]? = some (.slice ad 0 0) := by
                have hklt := (List.getElem?_eq_some_iff.1 hk).1
                have hka : k < arr.size := by rw [← hle]; exact hklt
                have h3 := hrel k _ arr[k] hk (by simp [hka])
                obtain ⟨ad, e⟩ := h3.t_inv.nil_inv
                exact ⟨ad, by simp [hka, e]⟩
              refine ⟨fun j b hb => ?_, g, arr, ty', hm, hg', by simpa using hle, fun j b x hb hx => ?_⟩
              · rw [List.getElem?_set] at hb
                split at hb
                · split at hb
                  · simp only [Option.some.injEq] at hb; subst hb; rfl
                  · cases hb
                · exact h2 j b hb
              · rw [List.getElem?_set] at hb
                split at hb
                · rename_i e; subst e
                  split at hb
                  · simp only [Option.some.injEq] at hb; subst hb
                    rw [hv] at hx; cases hx
                    exact .lsnil id s 0 (by simp [St.sh, look, Reg.sh]) (by simp [Loc.set]) ad none (fun q h => by cases h)
                  · cases hb
                · exact hrel j b x hb hx
            · exact h1.reg t r hr
          · rw [hsf]; exact h1.inj
          · rw [hsf]; exact h1.loc
          · rw [hsf]; exact h1.kap
        · exact ⟨X, μ, hsim, hg, h0, hbd, hsz, hds⟩
      · exact ⟨X, μ, hsim, hg, h0, hbd, hsz, hds⟩
    · exact ⟨X, μ, hsim, hg, h0, hbd, hsz, hds⟩

theorem ghs_ok : ∀ {gs : List Gh} {st : St}, Inv Γ w0 B κ X0 N st a w → Inv Γ w0 B κ X0 N (gs.foldl (fun s g => g.run s) st) a w
  | [], _, h => h
  | g :: gs, _, h => ghs_ok (gs := gs) (Gh.run_ok g h)

def post (Γ : Tables) (w0 : World) (B : Nat) (κ : Loc) (X0 : Nat → Prop) (N : Nat) (Q : AX → St → Prop) : Exit → Act → World → Prop := fun e a w => ∃ x s, e = x.to ∧ Inv Γ w0 B κ X0 N s a w ∧ Q x s

theorem Inv.drawn (h : Inv Γ w0 B κ X0 N st a w) (n : Nat) : Inv Γ w0 B κ X0 N st a { w with drawn := n } := by
  have hb : RowKit.Below w.heap.size w { w with drawn := n } := by constructor <;> simp
  obtain ⟨X, μ, hsim, hg, h0, hbd, hsz, hds⟩ := h
  have hs : Same X w { w with drawn := n } := fun _ _ => rfl
  exact ⟨X, μ, hsim.grow hb (fun _ hb => hb) (fun _ hb => .inl hb), hg.mono hs (fun _ hb => hb), h0, hbd, hsz, hds⟩

/-- Code is sound. -/
theorem code_sound (hN : N ≤ 1000000) (hm : P.follows .mixedOrders = true) : ∀ {c : IC} {d : Code} {Q : AX → St → Prop} {st : St} {a : Act} {w : World}, chkC P N c d = true → Inv Γ w0 B κ X0 N st a w → awp P Γ c Q st → d.wp P (post Γ w0 B κ X0 N Q) a w
  | .skip, d, Q, st, a, w, hc, hI, h => by
    cases d <;> simp [chkC] at hc
    · exact wp_skip ⟨.normal, st, rfl, hI, h⟩
    · exact wp_label ⟨.normal, st, rfl, hI, h⟩
  | .reg ros gs, d, Q, st, a, w, hc, hI, h => by
    cases d <;> simp only [chkC, Bool.false_eq_true] at hc
    rename_i id ops dr
    simp only [Bool.and_eq_true, Bool.or_eq_true, Bool.not_eq_true'] at hc
    obtain ⟨s1, h1, h2⟩ := h
    have fin : ∀ a' w', Inv Γ w0 B κ X0 N s1 a' w' → post Γ w0 B κ X0 N Q .normal a' w' := fun a' w' hI' => ⟨.normal, _, rfl, ghs_ok hI', h2⟩
    cases dr with
    | false =>
      refine wp_region_list ?_
      have := steps_sound (Q := post Γ w0 B κ X0 N Q) (ops := ops.toList) hN hI hc.1 h1 fin
      rwa [Array.toArray_toList] at this
    | true =>
      have hd := hc.2.resolve_left (by simp)
      refine wp_region_any hm ?_
      have := draw_sound (Q := post Γ w0 B κ X0 N Q) (ops := ops.toList) hN (hI.drawn (w.drawn + 1)) hc.1 hd h1 fin
      rwa [Array.toArray_toList] at this
  | .seq x y, d, Q, st, a, w, hc, hI, h => by
    cases d <;> simp only [chkC, Bool.false_eq_true] at hc
    simp only [Bool.and_eq_true] at hc
    refine wp_seq (wp_mono (code_sound hN hm (c := x) hc.1 hI h) ?_)
    rintro e a w ⟨x, s, rfl, hI, hq⟩
    cases x with
    | normal => exact code_sound hN hm (c := y) hc.2 hI hq
    | exit i => exact ⟨_, s, rfl, hI, hq⟩
    | ret => exact ⟨_, s, rfl, hI, hq⟩
  | .cond o x y, d, Q, st, a, w, hc, hI, h => by
    cases d <;> simp only [chkC, Bool.false_eq_true] at hc
    simp only [Bool.and_eq_true] at hc
    obtain ⟨⟨⟨h1, h2⟩, h3⟩, h4⟩ := hc
    have := opdB_eq h1; subst this
    obtain ⟨t, h5, h6, h7⟩ := h
    obtain ⟨X, μ, hsim, hg, h0, hbd, hsz, hds⟩ := id hI
    have hev := (ev_ok (ds := a.defers) hsim hg h5 h2).t_inv.v_inv
    refine wp_cond_split (t := t) hev (fun e => code_sound hN hm (c := x) h3 hI (h6 e)) (fun e => code_sound hN hm (c := y) h4 hI (h7 e))
  | .block i x, d, Q, st, a, w, hc, hI, h => by
    cases d <;> simp only [chkC, Bool.false_eq_true] at hc
    simp only [Bool.and_eq_true, beq_iff_eq] at hc
    obtain ⟨rfl, hc⟩ := hc
    refine wp_block (wp_mono (code_sound hN hm (c := x) hc hI h) ?_)
    rintro e a w ⟨x, s, rfl, hI, hq⟩
    cases x with
    | normal => exact ⟨.normal, s, rfl, hI, hq⟩
    | ret => exact ⟨.ret, s, rfl, hI, hq⟩
    | exit j =>
      simp only [blockX] at hq
      simp only [AX.to, Exit.inBlock]
      split
      · rename_i hj; rw [if_pos hj] at hq; exact ⟨.normal, s, rfl, hI, hq⟩
      · rename_i hj; rw [if_neg hj] at hq; exact ⟨.exit j, s, rfl, hI, hq⟩
  | .loop x, d, Q, st, a, w, hc, hI, h => by
    cases d <;> simp only [chkC, Bool.false_eq_true] at hc
    rename_i y
    have least : ∀ p : Nat → Prop, (∃ n, p n) → ∃ n, p n ∧ ∀ m, p m → n ≤ m := by
      intro p ⟨n, hn⟩
      induction n using Nat.strongRecOn with
      | _ n ih =>
        by_cases hlt : ∃ m, m < n ∧ p m
        · obtain ⟨m, hm, hp⟩ := hlt; exact ih m hm hp
        · exact ⟨n, hn, fun m hm => by rcases Nat.lt_or_ge m n with h | h; exact absurd ⟨m, h, hm⟩ hlt; exact h⟩
    let p : Act → World → Nat → Prop := fun a w n => ∃ s, Inv Γ w0 B κ X0 N s a w ∧ loopN (awp P Γ x) Q n s
    classical
    refine wp_loop (fun a w => ∃ n, p a w n) (fun a w => if hp : ∃ n, p a w n then Classical.choose (least _ hp) else 0) ?_ ?_
    · obtain ⟨n, h⟩ := h; exact ⟨n, st, hI, h⟩
    · intro a w hp
      have hn := Classical.choose_spec (least _ hp)
      generalize hnn : Classical.choose (least _ hp) = n at hn
      obtain ⟨⟨s, hI, hl⟩, hmin⟩ := hn
      cases n with
      | zero => exact hl.elim
      | succ n =>
        refine wp_mono (code_sound hN hm (c := x) hc hI hl) ?_
        rintro e a' w' ⟨x', s', rfl, hI', hq⟩
        cases x' with
        | normal =>
          have hp' : ∃ n, p a' w' n := ⟨n, s', hI', hq⟩
          refine ⟨hp', ?_⟩
          show (if hp : ∃ n, p a' w' n then Classical.choose (least _ hp) else 0) < (if hp : ∃ n, p a w n then Classical.choose (least _ hp) else 0)
          rw [dif_pos hp', dif_pos hp, hnn]
          have := (Classical.choose_spec (least _ hp')).2 n ⟨s', hI', hq⟩
          omega
        | exit i => exact ⟨_, s', rfl, hI', hq⟩
        | ret => exact ⟨_, s', rfl, hI', hq⟩
  | .exit i, d, Q, st, a, w, hc, hI, h => by
    cases d <;> simp only [chkC, Bool.false_eq_true, beq_iff_eq] at hc
    subst hc
    exact wp_exit ⟨.exit i, st, rfl, hI, h⟩
  | .ret, d, Q, st, a, w, hc, hI, h => by
    cases d <;> simp [chkC] at hc
    exact wp_ret ⟨.ret, st, rfl, hI, h⟩
  | .scope x, d, Q, st, a, w, hc, hI, h => by
    cases d <;> simp only [chkC, Bool.false_eq_true] at hc
    refine wp_scope_straight (wp_mono (code_sound hN hm (c := x) hc hI h) ?_)
    rintro e a w ⟨x, s, rfl, hI, hq⟩
    cases x with
    | normal => exact ⟨.normal, s, rfl, hI, hq⟩
    | exit i => exact ⟨.exit i, s, rfl, hI, hq⟩
    | ret => exact ⟨.ret, s, rfl, hI, hq⟩
  | .gh x gs, d, Q, st, a, w, hc, hI, h => by
    have hc' : chkC P N x d = true := by cases d <;> simpa only [chkC] using hc
    refine wp_mono (code_sound hN hm (c := x) hc' hI h) ?_
    rintro e a w ⟨x, s, rfl, hI, hq⟩
    cases x with
    | normal => exact ⟨.normal, _, rfl, ghs_ok hI, hq⟩
    | exit i => exact ⟨.exit i, s, rfl, hI, hq⟩
    | ret => exact ⟨.ret, s, rfl, hI, hq⟩
  | .dead, d, Q, st, a, w, hc, hI, h => h.elim
end
end Go.Lg

/- THE LOGIC, part 28: from a function's code to its contract. Conditions: none. -/
set_option linter.unusedSimpArgs false
set_option linter.unusedVariables false
namespace Go.Lg
open Go

/-- Where a result lies: in a slot, or in a variable (how many cells; is it an aggregate). -/
inductive RV where
  | tmp (t : Nat)
  | cell (t n : Nat) (g : Bool)

def chkRV (P : Program) : RV → ResultVar → Bool
  | .tmp t, .tmp u => t == u
  | .cell t n g, .cell u ty => t == u && szO P ty == some n && aggO P ty == some g && (g || n == 1)
  | _, _ => false
def chkRVs (P : Program) : List RV → List ResultVar → Bool
  | [], [] => true
  | a :: as, b :: bs => chkRV P a b && chkRVs P as bs
  | _, _ => false

def retA (s : St) : RV → Option (Prop × AV)
  | .tmp t => (look s.env t).map fun a => (True, a)
  | .cell t n g => match look s.env t with
    | some (.lp id _ k) => match look s.hp id with
      | some (.bx cs) => some (k + n ≤ cs.length, wrapA g ((cs.drop k).take n))
      | _ => none
    | _ => none
def retT (s : St) (rv : RV) : Option (Prop × T) := (retA s rv).bind fun q => (reify s.hp 4 q.2).map fun t => (q.1, t)

def resOf (s : St) : List RV → Option (Prop × T)
  | [] => some (True, .tup [])
  | [a] => retT s a
  | [a, b] => (retT s a).bind fun p => (retT s b).map fun q => (p.1 ∧ q.1, .tup [p.2, q.2])
  | [a, b, c] => (retT s a).bind fun p => (retT s b).bind fun q => (retT s c).map fun r => (p.1 ∧ q.1 ∧ r.1, .tup [p.2, q.2, r.2])
  | _ => none

/-- The function, checked. -/
def chkF (P : Program) (f : FuncId) (ic : IC) (N n : Nat) (rvs : List RV) : Bool := match P.funcs[f]? with
  | some fn => (match fn.body with | some c => chkC P N ic c | none => false) && !(fn.name == "runtime.NumGoroutine") && fn.ntmps == N && decide (N ≤ 1000000) && decide (n ≤ N) && chkRVs P rvs fn.results.toList && P.follows .mixedOrders
  | none => false

def params : Nat → List T → List (Nat × AV)
  | _, [] => []
  | k, t :: ts => (k, .t t) :: params (k + 1) ts

theorem look_params {ts : List T} : ∀ {k i : Nat} {a : AV}, look (params k ts) i = some a → k ≤ i ∧ ∃ t, ts[i - k]? = some t ∧ a = .t t := by
  induction ts with
  | nil => intro k i a h; simp [params, look] at h
  | cons t ts ih =>
    intro k i a h
    simp only [params, look] at h
    split at h
    · rename_i e; subst e; simp only [Option.some.injEq] at h; subst h; exact ⟨Nat.le_refl _, t, by simp, rfl⟩
    · obtain ⟨h1, u, h2, h3⟩ := ih h
      refine ⟨by omega, u, ?_, h3⟩
      have : i - k = i - (k + 1) + 1 := by omega
      rw [this]; simpa using h2

/-- What a function's code must come to: the results read as this. -/
def retQ (rvs : List RV) (res : T) : AX → St → Prop
  | .exit _, _ => False
  | _, s => ∃ c, resOf s rvs = some (c, res) ∧ c

section
variable {P : Program} {Γ : Tables} {w0 : World} {B : Nat} {κ : Loc} {X0 X : Nat → Prop} {μ : Loc} {st : St} {N : Nat} {a : Act} {w : World} {tm : Array Value}

def rvRun (tm : Array Value) : ResultVar → Go.Sem Value
  | .tmp t => pure (tm.getD t undef)
  | .cell a t => do loadVar t (← asAddr (tm.getD a undef))

theorem retA_ok (h : Sim w0 B κ X μ st tm w) {rv : RV} {r : ResultVar} (hc : chkRV P rv r = true) {c : Prop} {x : AV} (hr : retA st rv = some (c, x)) (hcc : c) : ∃ v, (rvRun tm r).run P w = .ok v w ∧ AR w X μ st.sh x v := by
  cases rv with
  | tmp t =>
    cases r <;> simp [chkRV] at hc
    subst hc
    simp only [retA, Option.map_eq_some_iff, Prod.mk.injEq] at hr
    obtain ⟨b, hb, _, rfl⟩ := hr
    exact ⟨_, rfl, h.env t b hb⟩
  | cell t n g =>
    cases r <;> simp [chkRV] at hc
    rename_i u ty
    obtain ⟨⟨⟨rfl, hz⟩, ha⟩, hn⟩ := hc
    have hn : (g || n == 1) = true := by simpa using hn
    simp only [retA] at hr
    split at hr
    · rename_i id i k hl0
      split at hr
      · rename_i cs hl
        simp only [Option.some.injEq, Prod.mk.injEq] at hr
        obtain ⟨rfl, rfl⟩ := hr
        obtain ⟨gb, m, hm, hp⟩ := (h.env t _ hl0).lp_inv
        rcases hp with ⟨s, q, hs, _⟩ | ⟨hs, rfl, he⟩
        · rw [sh_of hl] at hs; cases hs
        obtain ⟨h1, g', arr, ty', hm', hheap, hsz, hr⟩ := h.reg id _ hl
        rw [hm] at hm'; cases hm'
        have hr : ARs w X μ st.sh cs arr.toList := ⟨by simp [hsz], fun k a x h2 h3 => hr k a x h2 (by simpa using h3)⟩
        have h1 : onesA cs = true := List.all_eq_true.2 fun t ht => by obtain ⟨j, hj, rfl⟩ := List.getElem_of_mem ht; exact h1 j _ (by simp [hj])
        have hlen : ((arr.toList.drop k).take n).length = n := by simp; omega
        refine ⟨if g then .agg ((arr.toList.drop k).take n).toArray else ((arr.toList.drop k).take n).headD undef, ?_, wrapA_ok ((hr.drop k).take n) (onesA_sub h1 k n) (by rw [hlen]; exact hn)⟩
        have hrun := run_loadAt (P := P) (w := w) hz ha hn (b := gb) (off := k) hlen (fun j x hj => by
          rw [List.getElem?_take] at hj
          split at hj
          · rw [List.getElem?_drop] at hj
            rw [cell_of_row w gb _ arr ty' (0, 0) hheap]; simpa using hj
          · cases hj)
        have e : rvRun tm (.cell t ty) = (Instr.loadAt ty (.pointer (some ⟨gb, k, none⟩))) := by
          simp only [rvRun, he, asAddr, Instr.loadAt, Instr.sureAddr]
        rw [e]; exact hrun
      · cases hr
    · cases hr

theorem retT_ok (h : Sim w0 B κ X μ st tm w) {rv : RV} {r : ResultVar} (hc : chkRV P rv r = true) {c : Prop} {t : T} (hr : retT st rv = some (c, t)) (hcc : c) : ∃ v, (rvRun tm r).run P w = .ok v w ∧ TR w (fun b => X b ∨ locs st μ b) t v := by
  simp only [retT, Option.bind_eq_some_iff, Option.map_eq_some_iff, Prod.mk.injEq] at hr
  obtain ⟨⟨c', x⟩, hq, t', ht, rfl, rfl⟩ := hr
  obtain ⟨v, h1, h2⟩ := retA_ok h hc hq hcc
  exact ⟨v, h1, reify_ok h 4 h2 ht⟩

theorem resOf_ok (h : Sim w0 B κ X μ st tm w) {fn : Func} {rvs : List RV} (hc : chkRVs P rvs fn.results.toList = true) {c : Prop} {res : T} (hr : resOf st rvs = some (c, res)) (hcc : c) :
    ∃ v, (results fn tm).run P w = .ok v w ∧ TR w (fun b => X b ∨ locs st μ b) res v := by
  have hres : results fn tm = (do let vs ← fn.results.mapM (rvRun tm); pure (if h : vs.size = 1 then vs[0] else .tuple vs)) := rfl
  have hfr : fn.results = fn.results.toList.toArray := by simp
  generalize hl : fn.results.toList = l at hc hfr
  match rvs, l, hc with
  | [], [], _ =>
    simp only [resOf, Option.some.injEq, Prod.mk.injEq] at hr
    obtain ⟨rfl, rfl⟩ := hr
    exact ⟨.tuple #[], by rw [hres, hfr]; simp, TR.mk_tup (TRs.nil _ _)⟩
  | [a], [x], hc =>
    simp only [chkRVs, Bool.and_eq_true] at hc
    obtain ⟨v, h1, h2⟩ := retT_ok h hc.1 hr hcc
    exact ⟨v, by rw [hres, hfr]; simp [h1], h2⟩
  | [a, b], [x, y], hc =>
    simp only [chkRVs, Bool.and_eq_true] at hc
    simp only [resOf, Option.bind_eq_some_iff, Option.map_eq_some_iff, Prod.mk.injEq] at hr
    obtain ⟨p, hp, q, hq, rfl, rfl⟩ := hr
    obtain ⟨v, h1, h2⟩ := retT_ok h hc.1 hp hcc.1
    obtain ⟨u, h3, h4⟩ := retT_ok h hc.2.1 hq hcc.2
    exact ⟨.tuple #[v, u], by rw [hres, hfr]; simp [h1, h3], TR.mk_tup (TRs.cons h2 (TRs.cons h4 (TRs.nil _ _)))⟩
  | [a, b, d], [x, y, z], hc =>
    simp only [chkRVs, Bool.and_eq_true] at hc
    simp only [resOf, Option.bind_eq_some_iff, Option.map_eq_some_iff, Prod.mk.injEq] at hr
    obtain ⟨p, hp, q, hq, r, hr, rfl, rfl⟩ := hr
    obtain ⟨v, h1, h2⟩ := retT_ok h hc.1 hp hcc.1
    obtain ⟨u, h3, h4⟩ := retT_ok h hc.2.1 hq hcc.2.1
    obtain ⟨z, h5, h6⟩ := retT_ok h hc.2.2.1 hr hcc.2.2
    exact ⟨.tuple #[v, u, z], by rw [hres, hfr]; simp [h1, h3, h5], TR.mk_tup (TRs.cons h2 (TRs.cons h4 (TRs.cons h6 (TRs.nil _ _))))⟩
  | _ :: _ :: _ :: _ :: _, _, _ => simp [resOf] at hr
  | [], _ :: _, hc => simp [chkRVs] at hc
  | _ :: _, [], hc => simp [chkRVs] at hc
  | [_], _ :: _ :: _, hc => simp [chkRVs] at hc
  | [_, _], [_], hc => simp [chkRVs] at hc
  | [_, _], _ :: _ :: _ :: _, hc => simp [chkRVs] at hc
  | [_, _, _], [_], hc => simp [chkRVs] at hc
  | [_, _, _], [_, _], hc => simp [chkRVs] at hc
  | [_, _, _], _ :: _ :: _ :: _ :: _, hc => simp [chkRVs] at hc

theorem chkF_run {f : FuncId} {ic : IC} {n : Nat} {rvs : List RV} (hc : chkF P f ic N n rvs = true) (vs : Array Value) : (callFunc f vs).run P w = .ok (.enter f vs) w := by
  unfold chkF at hc
  split at hc
  · rename_i fn hf
    simp only [Bool.and_eq_true, Bool.not_eq_true'] at hc
    obtain ⟨⟨⟨⟨⟨⟨h1, h2⟩, h3⟩, h4⟩, h5⟩, h6⟩, h7⟩ := hc
    cases hb : fn.body with
    | none => rw [hb] at h1; cases h1
    | some c =>
      have h2' : ¬ fn.name = "runtime.NumGoroutine" := by simpa using h2
      simp [callFunc, hf, h2', hb]
  · cases hc

/-- The state in which a function begins. -/
theorem Inv.start {ts : List T} {vs : List Value} (hg : Gl Γ w X) (hx : ∀ b, X b → b < w.heap.size) (hts : TRs w X ts vs) (hn : vs.length ≤ N) :
    Inv Γ w w.heap.size (fun _ => none) X N ⟨params 0 ts, []⟩ { tmps := vs.toArray ++ Array.replicate (N - vs.toArray.size) undef, defers := [] } w := by
  refine ⟨X, fun _ => none, ⟨?_, fun id r h => by simp [look] at h, fun _ _ _ _ _ _ _ h => (by cases h), fun _ _ _ _ h => (by cases h), fun _ _ _ => rfl, fun _ _ h => (by cases h), hx, rfl, rfl, rfl, Nat.le_refl _, fun _ _ _ => rfl⟩, hg, fun _ h => h, fun _ h => .inl h, ?_, rfl⟩
  · intro t a ht
    obtain ⟨_, u, hu, rfl⟩ := look_params ht
    obtain ⟨x, h1, h2⟩ := hts.get hu
    simp only [Nat.sub_zero] at h1
    have hlt : t < vs.length := (List.getElem?_eq_some_iff.1 h1).1
    have : (vs.toArray ++ Array.replicate (N - vs.toArray.size) undef).getD t undef = x := by
      rw [Array.getD_eq_getD_getElem?, Array.getElem?_append_left (by simpa using hlt)]
      simp [h1]
    rw [this]; exact .t _ _ h2
  · simp; omega

theorem pure_entry {f : FuncId} {ic : IC} {n : Nat} {rvs : List RV} {args : List T} {res : T} (hc : chkF P f ic N n rvs = true) (hn : args.length = n) (h : awp P Γ ic (retQ rvs res) ⟨params 0 args, []⟩) : PureCalls P Γ f args res := by
  intro w X vs hg hx hts
  refine .inl ⟨chkF_run hc _, ?_⟩
  unfold chkF at hc
  split at hc
  case h_2 => cases hc
  rename_i fn hf
  simp only [Bool.and_eq_true, Bool.not_eq_true', decide_eq_true_eq, beq_iff_eq] at hc
  obtain ⟨⟨⟨⟨⟨⟨h1, h2⟩, h3⟩, h4⟩, h5⟩, h6⟩, h7⟩ := hc
  cases hb : fn.body with
  | none => rw [hb] at h1; cases h1
  | some c =>
    rw [hb] at h1
    subst h3
    refine calls_of_wp hf hb ?_
    have hI := Inv.start (N := fn.ntmps) hg hx hts (by rw [← hts.1, hn]; exact h5)
    refine wp_mono (code_sound h4 h7 h1 hI h) ?_
    rintro e a w' ⟨x, s, rfl, ⟨X', μ, hsim, hg', h0, hbd, hsz, hds⟩, hq⟩
    have fin : ∀ c, resOf s rvs = some (c, res) → c → a.defers = [] ∧ ∃ v, (results fn a.tmps).run P w' = .ok v w' ∧ ∃ u, Ending.returned v = .returned u ∧ RowKit.Below w.heap.size w w' ∧ TR w' (fun b => X b ∨ (w.heap.size ≤ b ∧ b < w'.heap.size)) res u := by
      intro c hr hcc
      obtain ⟨v, h8, h9⟩ := resOf_ok hsim h6 hr hcc
      refine ⟨hds, v, h8, v, rfl, ⟨hsim.os, hsim.tape, hsim.output, hsim.size, fun k hk => hsim.fr k hk (fun id n h => by cases h)⟩, h9.mono (fun _ _ => rfl) fun b hb => ?_⟩
      rcases hb with hb | ⟨id, n, hi, hm⟩
      · rcases hbd b hb with h | h | ⟨_, _, h⟩
        · exact .inl h
        · exact .inr ⟨h, hsim.xlt b hb⟩
        · cases h
      · obtain ⟨_, h10, h11⟩ := hsim.loc id b n hi hm
        refine .inr ⟨?_, h10⟩
        rcases Nat.lt_or_ge b w.heap.size with h | h
        · obtain ⟨_, _, h⟩ := h11 h; cases h
        · exact h
    cases x with
    | normal => obtain ⟨c, hr, hcc⟩ := hq; exact fin c hr hcc
    | ret => obtain ⟨c, hr, hcc⟩ := hq; exact fin c hr hcc
    | exit i => exact hq.elim

/-- Flat: it leads to no memory but the regions. -/
def flatA : AV → Prop
  | .t x => flatT x = true
  | .ag cs => ∀ c ∈ cs, match c with
    | .t x => flatT x = true
    | .fn _ cs => cs = []
    | _ => True
  | .fn _ cs => cs = []
  | _ => True
def flatReg : Reg → Prop
  | .sl _ _ es => ∀ e ∈ es, ∀ t ∈ e, flatT t = true
  | .bx cs => ∀ c ∈ cs, flatA c
  | .mp es => ∀ e ∈ es, flatT e.2 = true
  | .it _ _ => True
def flatL {α : Type} (p : α → Prop) : List (Nat × α) → Prop
  | [] => True
  | x :: l => p x.2 ∧ flatL p l
theorem flatL_look {α : Type} {p : α → Prop} : ∀ {l : List (Nat × α)} {t : Nat} {a : α}, flatL p l → look l t = some a → p a
  | [], _, _, _, h => by simp [look] at h
  | (k, v) :: l, t, a, h, hl => by
    simp only [look] at hl
    split at hl
    · simp only [Option.some.injEq] at hl; subst hl; exact h.1
    · exact flatL_look h.2 hl
def flatSt (s : St) : Prop := flatL flatA s.env ∧ flatL flatReg s.hp

theorem flatA_ok {sh : Nat → Option Sh} {a : AV} {x : Value} {Y : Nat → Prop} (h : AR w X μ sh a x) (hf : flatA a) : AR w Y μ sh a x := by
  have key : ∀ {c : AV} {y : Value}, AR w X μ sh c y → (∀ cs, c ≠ .ag cs) → (match c with | .t x => flatT x = true | .fn _ cs => cs = [] | _ => True) → AR w Y μ sh c y := by
    intro c y h hna hf
    cases h with
    | t y v hy => exact .t _ _ (flatT_ok hy hf)
    | fn f cs xs hlen hrel => simp only at hf; subst hf; exact .fn f [] xs hlen (fun k a x h => by simp at h)
    | ag cs => exact absurd rfl (hna cs)
    | lsnil i s n hs hm oa cap hq => exact .lsnil i s n hs hm oa cap hq
    | ls i off len s n g m c cap hs hm hle hlc hcm hfit hfull hq ad had => exact .ls i off len s n g m c cap hs hm hle hlc hcm hfit hfull hq ad had
    | lpsl i j k s n g m hs hm => exact .lpsl i j k s n g m hs hm
    | lpbx i k g m hs hm => exact .lpbx i k g m hs hm
    | lm i g m hs hm => exact .lm i g m hs hm
    | lb i g m hs hm hle => exact .lb i g m hs hm hle
    | li i g m hs hm => exact .li i g m hs hm
    | dead v h => exact .dead _ h
    | un => exact .un
  by_cases hg : ∃ cs, a = .ag cs
  · obtain ⟨cs, rfl⟩ := hg
    obtain ⟨xs, rfl, h1, hr⟩ := h.ag_inv
    exact AR.mk_ag h1 ⟨hr.1, fun k c y hc hy => key (hr.2 k c y hc hy) (fun cs e => by have := onesA_get h1 hc; rw [e] at this; simp [AV.one] at this) (hf c (List.mem_of_getElem? hc))⟩
  · refine key h (fun cs e => hg ⟨cs, e⟩) ?_
    cases a <;> first | exact hf | exact True.intro | exact absurd ⟨_, rfl⟩ hg

theorem Sim.flat (h : Sim w0 B κ X μ st tm w) (hf : flatSt st) : Sim w0 B κ (fun _ => False) μ st tm w := by
  refine ⟨fun t a ht => flatA_ok (h.env t a ht) (flatL_look hf.1 ht), ?_, h.inj, fun id g n hi hm => ⟨fun h => h, (h.loc id g n hi hm).2⟩, h.kap, h.kbig, fun _ h => h.elim, h.os, h.tape, h.output, h.size, h.fr⟩
  intro id r hr
  have hfr := flatL_look hf.2 hr
  have := h.reg id r hr
  cases r with
  | sl ty s es =>
    refine ⟨this.1, this.2.imp (fun h => h) fun ⟨g, arr, hm, hg, hle, hr⟩ => ⟨g, arr, hm, hg, hle, fun i k e t x h1 h2 h3 => flatT_ok (hr i k e t x h1 h2 h3) (hfr e (List.mem_of_getElem? h1) t (List.mem_of_getElem? h2))⟩⟩
  | it s pos => exact this
  | mp es =>
    obtain ⟨g, n, clock, ms, hm, hg, hle, hr⟩ := this
    exact ⟨g, n, clock, ms, hm, hg, hle, fun i e m h1 h2 => ⟨(hr i e m h1 h2).1, flatT_ok (hr i e m h1 h2).2 (hfr e (List.mem_of_getElem? h1))⟩⟩
  | bx cs =>
    obtain ⟨h1, g, arr, ty, hm, hg, hle, hr⟩ := this
    exact ⟨h1, g, arr, ty, hm, hg, hle, fun k a x ha hx => flatA_ok (hr k a x ha hx) (hfr a (List.mem_of_getElem? ha))⟩

/-- .. and all that is left is flat. -/
def retQF (rvs : List RV) (res : T) : AX → St → Prop
  | .exit _, _ => False
  | _, s => ∃ c, resOf s rvs = some (c, res) ∧ c ∧ flatSt s

theorem fresh_entry {f : FuncId} {ic : IC} {n : Nat} {rvs : List RV} {args : List T} {res : T} (hc : chkF P f ic N n rvs = true) (hn : args.length = n) (h : awp P Γ ic (retQF rvs res) ⟨params 0 args, []⟩) : FreshCalls P Γ f args res := by
  intro w X vs hg hx hts
  refine .inl ⟨chkF_run hc _, ?_⟩
  unfold chkF at hc
  split at hc
  case h_2 => cases hc
  rename_i fn hf
  simp only [Bool.and_eq_true, Bool.not_eq_true', decide_eq_true_eq, beq_iff_eq] at hc
  obtain ⟨⟨⟨⟨⟨⟨h1, h2⟩, h3⟩, h4⟩, h5⟩, h6⟩, h7⟩ := hc
  cases hb : fn.body with
  | none => rw [hb] at h1; cases h1
  | some c =>
    rw [hb] at h1
    subst h3
    refine calls_of_wp hf hb ?_
    have hI := Inv.start (N := fn.ntmps) hg hx hts (by rw [← hts.1, hn]; exact h5)
    refine wp_mono (code_sound h4 h7 h1 hI h) ?_
    rintro e a w' ⟨x, s, rfl, ⟨X', μ, hsim, hg', h0, hbd, hsz, hds⟩, hq⟩
    have fin : ∀ c, resOf s rvs = some (c, res) → c → flatSt s → a.defers = [] ∧ ∃ v, (results fn a.tmps).run P w' = .ok v w' ∧ ∃ u, Ending.returned v = .returned u ∧ RowKit.Below w.heap.size w w' ∧ TR w' (fun b => w.heap.size ≤ b ∧ b < w'.heap.size) res u := by
      intro c hr hcc hfl
      obtain ⟨v, h8, h9⟩ := resOf_ok (hsim.flat hfl) h6 hr hcc
      refine ⟨hds, v, h8, v, rfl, ⟨hsim.os, hsim.tape, hsim.output, hsim.size, fun k hk => hsim.fr k hk (fun id n h => by cases h)⟩, h9.mono (fun _ _ => rfl) fun b hb => ?_⟩
      rcases hb with hb | ⟨id, n, hi, hm⟩
      · exact hb.elim
      · obtain ⟨_, h10, h11⟩ := hsim.loc id b n hi hm
        refine ⟨?_, h10⟩
        rcases Nat.lt_or_ge b w.heap.size with h | h
        · obtain ⟨_, _, h⟩ := h11 h; cases h
        · exact h
    cases x with
    | normal => obtain ⟨c, hr, hcc, hfl⟩ := hq; exact fin c hr hcc hfl
    | ret => obtain ⟨c, hr, hcc, hfl⟩ := hq; exact fin c hr hcc hfl
    | exit i => exact hq.elim


/-- Parameters that may lead to regions. -/
def avps : Nat → List AV → List (Nat × AV)
  | _, [] => []
  | k, a :: as => (k, a) :: avps (k + 1) as

theorem look_avps {ts : List AV} : ∀ {k i : Nat} {a : AV}, look (avps k ts) i = some a → k ≤ i ∧ ts[i - k]? = some a := by
  induction ts with
  | nil => intro k i a h; simp [avps, look] at h
  | cons t ts ih =>
    intro k i a h
    simp only [avps, look] at h
    split at h
    · rename_i e; subst e; simp only [Option.some.injEq] at h; subst h; exact ⟨Nat.le_refl _, by simp⟩
    · obtain ⟨h1, h2⟩ := ih h
      refine ⟨by omega, ?_⟩
      have : i - k = i - (k + 1) + 1 := by omega
      rw [this]; simpa using h2

/-- The results, with the regions that they lead to. -/
def resA (s : St) : List RV → Option (Prop × AV)
  | [] => some (True, .t (.tup []))
  | [a] => retA s a
  | [a, b] => (retA s a).bind fun p => (retA s b).bind fun q => (toT p.2).bind fun x => (toT q.2).map fun y => (p.1 ∧ q.1, .t (.tup [x, y]))
  | _ => none

def retQH (rvs : List RV) (res : AV) (hp' : List (Nat × Reg)) : AX → St → Prop
  | .exit _, _ => False
  | _, s => ∃ c, resA s rvs = some (c, res) ∧ c ∧ s.hp = hp'

theorem resA_ok (h : Sim w0 B κ X μ st tm w) {fn : Func} {rvs : List RV} (hc : chkRVs P rvs fn.results.toList = true) {c : Prop} {res : AV} (hr : resA st rvs = some (c, res)) (hcc : c) :
    ∃ v, (results fn tm).run P w = .ok v w ∧ AR w X μ st.sh res v := by
  have hres : results fn tm = (do let vs ← fn.results.mapM (rvRun tm); pure (if h : vs.size = 1 then vs[0] else .tuple vs)) := rfl
  have hfr : fn.results = fn.results.toList.toArray := by simp
  generalize hl : fn.results.toList = l at hc hfr
  match rvs, l, hc with
  | [], [], _ =>
    simp only [resA, Option.some.injEq, Prod.mk.injEq] at hr
    obtain ⟨rfl, rfl⟩ := hr
    exact ⟨.tuple #[], by rw [hres, hfr]; simp, .t _ _ (TR.mk_tup (TRs.nil _ _))⟩
  | [a], [x], hc =>
    simp only [chkRVs, Bool.and_eq_true] at hc
    obtain ⟨v, h1, h2⟩ := retA_ok h hc.1 hr hcc
    exact ⟨v, by rw [hres, hfr]; simp [h1], h2⟩
  | [a, b], [x, y], hc =>
    simp only [chkRVs, Bool.and_eq_true] at hc
    simp only [resA, Option.bind_eq_some_iff, Option.map_eq_some_iff, Prod.mk.injEq] at hr
    obtain ⟨p, hp, q, hq, x', hx', y', hy', rfl, rfl⟩ := hr
    obtain ⟨v, h1, h2⟩ := retA_ok h hc.1 hp hcc.1
    obtain ⟨u, h3, h4⟩ := retA_ok h hc.2.1 hq hcc.2
    exact ⟨.tuple #[v, u], by rw [hres, hfr]; simp [h1, h3], .t _ _ (TR.mk_tup (TRs.cons (toT_ok h2 hx') (TRs.cons (toT_ok h4 hy') (TRs.nil _ _))))⟩
  | _ :: _ :: _ :: _, _, _ => simp [resA] at hr
  | [], _ :: _, hc => simp [chkRVs] at hc
  | _ :: _, [], hc => simp [chkRVs] at hc
  | [_], _ :: _ :: _, hc => simp [chkRVs] at hc
  | [_, _], [_], hc => simp [chkRVs] at hc
  | [_, _], _ :: _ :: _ :: _, hc => simp [chkRVs] at hc

theorem h_entry {f : FuncId} {ic : IC} {n : Nat} {rvs : List RV} {args : List AV} {hp hp' : List (Nat × Reg)} {res : AV} (hc : chkF P f ic N n rvs = true) (hn : args.length = n) (h : awp P Γ ic (retQH rvs res hp') ⟨avps 0 args, hp⟩) : HCalls P Γ f hp args res hp' := by
  intro w X κ vs hg hk hs hts
  refine .inl ⟨chkF_run hc _, ?_⟩
  unfold chkF at hc
  split at hc
  case h_2 => cases hc
  rename_i fn hf
  simp only [Bool.and_eq_true, Bool.not_eq_true', decide_eq_true_eq, beq_iff_eq] at hc
  obtain ⟨⟨⟨⟨⟨⟨h1, h2⟩, h3⟩, h4⟩, h5⟩, h6⟩, h7⟩ := hc
  cases hb : fn.body with
  | none => rw [hb] at h1; cases h1
  | some c =>
    rw [hb] at h1
    subst h3
    refine calls_of_wp hf hb ?_
    have hlen : vs.length ≤ fn.ntmps := by rw [← hts.1, hn]; exact h5
    have hI : Inv Γ w w.heap.size κ X fn.ntmps ⟨avps 0 args, hp⟩ { tmps := vs.toArray ++ Array.replicate (fn.ntmps - vs.toArray.size) undef, defers := [] } w := by
      refine ⟨X, κ, ⟨?_, hs.reg, hs.inj, hs.loc, hs.kap, hs.kbig, hs.xlt, rfl, rfl, rfl, Nat.le_refl _, fun _ _ _ => rfl⟩, hg, fun _ h => h, fun _ h => .inl h, ?_, rfl⟩
      · intro t a ht
        obtain ⟨_, hu⟩ := look_avps ht
        obtain ⟨x, h1, h2⟩ := hts.get hu
        simp only [Nat.sub_zero] at h1
        have hlt : t < vs.length := (List.getElem?_eq_some_iff.1 h1).1
        have : (vs.toArray ++ Array.replicate (fn.ntmps - vs.toArray.size) undef).getD t undef = x := by
          rw [Array.getD_eq_getD_getElem?, Array.getElem?_append_left (by simpa using hlt)]
          simp [h1]
        rw [this]; exact h2
      · simp; omega
    refine wp_mono (code_sound h4 h7 h1 hI h) ?_
    rintro e a w' ⟨x, s, rfl, ⟨X', μ', hsim, hg', h0, hbd, hsz, hds⟩, hq⟩
    have fin : ∀ c, resA s rvs = some (c, res) → c → s.hp = hp' → a.defers = [] ∧ ∃ v, (results fn a.tmps).run P w' = .ok v w' ∧ ∃ u, Ending.returned v = .returned u ∧
        ∃ X' μ', Sim w w.heap.size κ X' μ' ⟨[], hp'⟩ #[] w' ∧ AR w' X' μ' (St.sh ⟨[], hp'⟩) res u ∧ (∀ b, X b → X' b) ∧ (∀ b, X' b → X b ∨ w.heap.size ≤ b ∨ ∃ id n, κ id = some (b, n)) := by
      intro c hr hcc hh
      obtain ⟨v, h8, h9⟩ := resA_ok hsim h6 hr hcc
      subst hh
      exact ⟨hds, v, h8, v, rfl, X', μ', ⟨fun t a ht => by simp [look] at ht, hsim.reg, hsim.inj, hsim.loc, hsim.kap, hsim.kbig, hsim.xlt, hsim.os, hsim.tape, hsim.output, hsim.size, hsim.fr⟩, h9, h0, hbd⟩
    cases x with
    | normal => obtain ⟨c, hr, hcc, hh⟩ := hq; exact fin c hr hcc hh
    | ret => obtain ⟨c, hr, hcc, hh⟩ := hq; exact fin c hr hcc hh
    | exit i => exact hq.elim

end
end Go.Lg

/- THE LOGIC, part 29: running code by simp. Conditions: none. -/
set_option linter.unusedSimpArgs false
set_option linter.unusedVariables false
namespace Go.Lg
open Go

def sV (l : List UInt8) : Value := .string ⟨l.toArray⟩

/-- A mark that keeps simp out of a continuation. -/
structure Tag {α : Sort _} (a : α) : Type where

def Later (A : Prop) (_ : Tag A) : Prop := A

/-- An outcome, with what comes behind it. -/
def useK (x : Option (Prop × AV × St)) (K : AV → St → Prop) (_ : Tag K) : Prop := match x with
  | some (c, r, st1) => c ∧ K r st1
  | none => False
def asK (x : Option (List AV)) (K : List AV → Prop) (_ : Tag K) : Prop := match x with
  | some as => K as
  | none => False
def fnK (x : Option (FuncId × List AV)) (K : FuncId → List AV → Prop) (_ : Tag K) : Prop := match x with
  | some p => K p.1 p.2
  | none => False
def condK (x : Option AV) (A B : Prop) (_ : Tag A) (_ : Tag B) : Prop := match x with
  | some (.t (.v (.bool t))) => (t = true → A) ∧ (t = false → B)
  | _ => False
def callK (P : Program) (Γ : Tables) (hp : List (Nat × Reg)) (f : FuncId) (as : List AV) (K : T → Prop) (_ : Tag K) : Prop := ∃ res, CallOk P Γ hp f as res ∧ K res

def hcallK (P : Program) (Γ : Tables) (st : St) (f : FuncId) (rs : List Nat) (base : Nat) (hp : List (Nat × Reg)) (as : List AV) (K : AV → St → Prop) (_ : Tag K) : Prop :=
  ∃ res hp', HCalls P Γ f hp as res hp' ∧ okB rs base st.hp hp' ∧ K (renRef (fun i => some (bwd rs base i)) res) (backR rs base hp' st)

/-- Steps, with what comes behind them. -/
def execK (P : Program) (Γ : Tables) (d : Nat) (io : IOp) (st : St) (K : AV → St → Prop) : Prop := match io with
  | .call f args => asK (evs Γ st.env args) (fun as => callK P Γ st.hp f as (fun res => K (.t res) st) ⟨⟩) ⟨⟩
  | .callv x args => fnK ((ev Γ st.env x).bind fnOf) (fun f cs => asK (evs Γ st.env args) (fun as => callK P Γ st.hp f (as ++ cs) (fun res => K (.t res) st) ⟨⟩) ⟨⟩) ⟨⟩
  | .hcall f args rs base => asK (evs Γ st.env args) (fun as => rs.Nodup ∧ hcallK P Γ st f rs base (handR rs st.hp) (as.map (renRef (fwd rs))) K ⟨⟩) ⟨⟩
  | io => useK (sem Γ d io st) K ⟨⟩
def wantK (x : Option Bool) (A B : Prop) (_ : Tag A) (_ : Tag B) : Prop := match x with
  | some true => A
  | some false => B
  | none => False
def stepK (P : Program) (Γ : Tables) (ro : RO) (st : St) (K : St → Prop) : Prop := wantK (wantO st.env ro.guard) (execK P Γ ro.d ro.op st fun r st1 => K (st1.put ro.dst r)) (K (st.put ro.dst .un)) ⟨⟩ ⟨⟩
def stepsK (P : Program) (Γ : Tables) : (ros : List RO) → (st : St) → (K : St → Prop) → Tag K → Prop
  | [], st, K, _ => K st
  | ro :: ros, st, K, t => stepK P Γ ro st fun st1 => stepsK P Γ ros st1 K t

theorem execK_ok {P : Program} {Γ : Tables} {d : Nat} {io : IOp} {st : St} {K : AV → St → Prop} (h : execK P Γ d io st K) : ∃ r st1, aexec P Γ d io st r st1 ∧ K r st1 := by
  have gen : useK (sem Γ d io st) K ⟨⟩ → ∃ r st1, (∃ c, sem Γ d io st = some (c, r, st1) ∧ c) ∧ K r st1 := by
    intro h
    unfold useK at h
    split at h
    · rename_i c r st1 hs; exact ⟨r, st1, ⟨c, hs, h.1⟩, h.2⟩
    · exact h.elim
  cases io with
  | call f args =>
    simp only [execK, asK] at h
    split at h
    · rename_i as has; obtain ⟨res, h1, h2⟩ := h; exact ⟨_, _, ⟨as, res, has, h1, rfl, rfl⟩, h2⟩
    · exact h.elim
  | callv x args =>
    simp only [execK, fnK] at h
    split at h
    · rename_i p hp
      obtain ⟨a, ha, hf⟩ := Option.bind_eq_some_iff.1 hp
      simp only [asK] at h
      split at h
      · rename_i as has; obtain ⟨res, h1, h2⟩ := h; exact ⟨_, _, ⟨a, p.1, p.2, as, res, ha, hf, has, h1, rfl, rfl⟩, h2⟩
      · exact h.elim
    · exact h.elim
  | hcall f args rs base =>
    simp only [execK, asK] at h
    split at h
    · rename_i as has; obtain ⟨hnd, res, hp', h1, h2, h3⟩ := h; exact ⟨_, _, ⟨as, res, hp', has, hnd, h1, h2, rfl, rfl⟩, h3⟩
    · exact h.elim
  | _ => exact gen h

theorem stepsK_ok {P : Program} {Γ : Tables} : ∀ {ros : List RO} {st : St} {K : St → Prop}, stepsK P Γ ros st K ⟨⟩ → ∃ s1, asteps P Γ ros st s1 ∧ K s1
  | [], st, K, h => ⟨st, rfl, h⟩
  | ro :: ros, st, K, h => by
    simp only [stepsK, stepK, wantK] at h
    split at h
    · rename_i hw
      obtain ⟨r, st1, h1, h2⟩ := execK_ok h
      obtain ⟨s1, h3, h4⟩ := stepsK_ok (ros := ros) h2
      exact ⟨s1, ⟨_, .inl ⟨hw, r, st1, h1, rfl⟩, h3⟩, h4⟩
    · rename_i hw
      obtain ⟨s1, h3, h4⟩ := stepsK_ok (ros := ros) h
      exact ⟨s1, ⟨_, .inr ⟨hw, rfl⟩, h3⟩, h4⟩
    · exact h.elim

def ghs (gs : List Gh) (s : St) : St := gs.foldl (fun s g => g.run s) s

/-- What the code does, to be run by simp. -/
def run (P : Program) (Γ : Tables) : IC → (AX → St → Prop) → St → Prop
  | .skip, Q, s => Q .normal s
  | .reg ros gs, Q, s => stepsK P Γ ros s (fun s1 => Q .normal (ghs gs s1)) ⟨⟩
  | .seq a b, Q, s => run P Γ a (thenX (run P Γ b Q) Q) s
  | .cond c a b, Q, s => condK (ev Γ s.env c) (run P Γ a Q s) (run P Γ b Q s) ⟨⟩ ⟨⟩
  | .block id a, Q, s => run P Γ a (blockX id Q) s
  | .loop a, Q, s => awp P Γ (.loop a) Q s
  | .exit i, Q, s => Q (.exit i) s
  | .ret, Q, s => Q .ret s
  | .scope a, Q, s => run P Γ a Q s
  | .gh a gs, Q, s => run P Γ a (thenX (fun s => Q .normal (ghs gs s)) Q) s
  | .dead, _, _ => False

theorem run_awp {P : Program} {Γ : Tables} : ∀ {c : IC} {Q : AX → St → Prop} {s : St}, run P Γ c Q s → awp P Γ c Q s
  | .skip, _, _, h => h
  | .reg ros gs, _, _, h => stepsK_ok h
  | .seq a b, Q, s, h => awp_mono (c := a) (run_awp (c := a) h) fun e s h => by
    cases e with
    | normal => exact run_awp (c := b) h
    | exit i => exact h
    | ret => exact h
  | .cond c a b, Q, s, h => by
    simp only [run, condK] at h
    split at h
    · rename_i t ht; exact ⟨t, ht, fun e => run_awp (c := a) (h.1 e), fun e => run_awp (c := b) (h.2 e)⟩
    · exact h.elim
  | .block id a, Q, s, h => run_awp (c := a) h
  | .loop a, Q, s, h => h
  | .exit _, _, _, h => h
  | .ret, _, _, h => h
  | .scope a, Q, s, h => run_awp (c := a) h
  | .gh a gs, Q, s, h => awp_mono (c := a) (run_awp (c := a) h) fun e s h => by
    cases e with
    | normal => exact h
    | exit i => exact h
    | ret => exact h
  | .dead, _, _, h => h.elim

/-- The results read as this; it is returned; 'fl': .. and all that is left is flat. -/
def ret (fl : Bool) (rvs : List RV) (R : T → Prop) : AX → St → Prop
  | .exit _, _ => False
  | .normal, s | .ret, s => (match resOf s rvs with | some (c, r) => c ∧ R r | none => False) ∧ (fl = true → flatSt s)

theorem ret_Q {rvs : List RV} {R : T → Prop} {e : AX} {s : St} {fl : Bool} (h : ret fl rvs R e s) : ∃ res, R res ∧ (if fl then retQF rvs res e s else retQ rvs res e s) := by
  cases e with
  | exit i => exact h.elim
  | normal =>
    obtain ⟨h, hf⟩ := h
    split at h
    · rename_i c r hr
      refine ⟨r, h.2, ?_⟩
      cases fl
      · exact ⟨c, hr, h.1⟩
      · exact ⟨c, hr, h.1, hf rfl⟩
    · exact h.elim
  | ret =>
    obtain ⟨h, hf⟩ := h
    split at h
    · rename_i c r hr
      refine ⟨r, h.2, ?_⟩
      cases fl
      · exact ⟨c, hr, h.1⟩
      · exact ⟨c, hr, h.1, hf rfl⟩
    · exact h.elim

theorem run_pure {P : Program} {Γ : Tables} {f : FuncId} {ic : IC} {N n : Nat} {rvs : List RV} {args : List T} {R : T → Prop} (hc : chkF P f ic N n rvs = true) (hn : args.length = n) (h : run P Γ ic (ret false rvs R) ⟨params 0 args, []⟩) : ∃ res, PureCalls P Γ f args res ∧ R res := by
  obtain ⟨e, s, h1, h2⟩ := awp_pick (run_awp h)
  obtain ⟨res, hR, hq⟩ := ret_Q h1
  exact ⟨res, pure_entry hc hn (awp_mono h2 fun e s ⟨he, hs⟩ => by subst he; subst hs; exact hq), hR⟩

theorem run_fresh {P : Program} {Γ : Tables} {f : FuncId} {ic : IC} {N n : Nat} {rvs : List RV} {args : List T} {R : T → Prop} (hc : chkF P f ic N n rvs = true) (hn : args.length = n) (h : run P Γ ic (ret true rvs R) ⟨params 0 args, []⟩) : ∃ res, FreshCalls P Γ f args res ∧ R res := by
  obtain ⟨e, s, h1, h2⟩ := awp_pick (run_awp h)
  obtain ⟨res, hR, hq⟩ := ret_Q h1
  exact ⟨res, fresh_entry hc hn (awp_mono h2 fun e s ⟨he, hs⟩ => by subst he; subst hs; exact hq), hR⟩

/-- The results, with the regions behind. -/
def retH (rvs : List RV) (R : AV → List (Nat × Reg) → Prop) : AX → St → Prop
  | .exit _, _ => False
  | .normal, s | .ret, s => match resA s rvs with | some (c, r) => c ∧ R r s.hp | none => False

theorem retH_Q {rvs : List RV} {R : AV → List (Nat × Reg) → Prop} {e : AX} {s : St} (h : retH rvs R e s) : ∃ res hp', R res hp' ∧ retQH rvs res hp' e s := by
  have key : ∀ s : St, (match resA s rvs with | some (c, r) => c ∧ R r s.hp | none => False) → ∃ res hp', R res hp' ∧ ∃ c, resA s rvs = some (c, res) ∧ c ∧ s.hp = hp' := by
    intro s h
    split at h
    · rename_i c r hr; exact ⟨r, s.hp, h.2, c, hr, h.1, rfl⟩
    · exact h.elim
  cases e with
  | exit i => exact h.elim
  | normal => exact key s h
  | ret => exact key s h

theorem run_hand {P : Program} {Γ : Tables} {f : FuncId} {ic : IC} {N n : Nat} {rvs : List RV} {hp : List (Nat × Reg)} {args : List AV} {R : AV → List (Nat × Reg) → Prop} (hc : chkF P f ic N n rvs = true) (hn : args.length = n) (h : run P Γ ic (retH rvs R) ⟨avps 0 args, hp⟩) :
    ∃ res hp', HCalls P Γ f hp args res hp' ∧ R res hp' := by
  obtain ⟨e, s, h1, h2⟩ := awp_pick (run_awp h)
  obtain ⟨res, hp', hR, hq⟩ := retH_Q h1
  exact ⟨res, hp', h_entry hc hn (awp_mono h2 fun e s ⟨he, hs⟩ => by subst he; subst hs; exact hq), hR⟩

theorem wrap_i64 {n : Int} (h1 : -9223372036854775808 ≤ n) (h2 : n ≤ 9223372036854775807) : IntKind.i64.wrap n = n := by
  simp [IntKind.wrap, IntKind.signed, IntKind.bits]
  split <;> omega
theorem wrap_u8 {n : Int} (h1 : 0 ≤ n) (h2 : n ≤ 255) : IntKind.u8.wrap n = n := by
  simp [IntKind.wrap, IntKind.signed, IntKind.bits]
  omega

section
variable {P : Program} {Γ : Tables} {Q Q' : AX → St → Prop} {s s' : St} {hp hp' : List (Nat × Reg)}

/-- A loop, one round. -/
theorem run_loop {a : IC} (h : ∀ K : St → Prop, K = run P Γ (.loop a) Q → run P Γ a (thenX K Q) s) : run P Γ (.loop a) Q s := awp_loop (run_awp (h _ rfl))

@[simp ↓] theorem run_seq {a b : IC} : run P Γ (.seq a b) Q s = run P Γ a (thenX (run P Γ b Q) Q) s := Eq.trans rfl rfl
@[simp ↓] theorem run_reg {ros : List RO} {gs : List Gh} : run P Γ (.reg ros gs) Q s = stepsK P Γ ros s (fun s1 => Q .normal (ghs gs s1)) ⟨⟩ := Eq.trans rfl rfl
@[simp ↓] theorem run_cond {c : Operand} {a b : IC} : run P Γ (.cond c a b) Q s = condK (ev Γ s.env c) (run P Γ a Q s) (run P Γ b Q s) ⟨⟩ ⟨⟩ := Eq.trans rfl rfl
@[simp ↓] theorem run_block {id : Nat} {a : IC} : run P Γ (.block id a) Q s = run P Γ a (blockX id Q) s := Eq.trans rfl rfl
@[simp ↓] theorem run_scope {a : IC} : run P Γ (.scope a) Q s = run P Γ a Q s := Eq.trans rfl rfl
@[simp ↓] theorem run_gh {a : IC} {gs : List Gh} : run P Γ (.gh a gs) Q s = run P Γ a (thenX (fun s => Q .normal (ghs gs s)) Q) s := Eq.trans rfl rfl
@[simp ↓] theorem run_skip : run P Γ .skip Q s = Q .normal s := Eq.trans rfl rfl
@[simp ↓] theorem run_exit {i : Nat} : run P Γ (.exit i) Q s = Q (.exit i) s := Eq.trans rfl rfl
@[simp ↓] theorem run_ret : run P Γ .ret Q s = Q .ret s := Eq.trans rfl rfl
@[simp ↓] theorem run_dead : run P Γ .dead Q s = False := Eq.trans rfl rfl
@[congr] theorem run_congr {c : IC} {s' : St} (h : s = s') : run P Γ c Q s = run P Γ c Q s' := by rw [h]
@[congr] theorem stepK_congr {ro : RO} {K : St → Prop} {s' : St} (h : s = s') : stepK P Γ ro s K = stepK P Γ ro s' K := by rw [h]
@[congr] theorem execK_congr {d : Nat} {io : IOp} {K : AV → St → Prop} {s' : St} (h : s = s') : execK P Γ d io s K = execK P Γ d io s' K := by rw [h]
@[congr] theorem thenX_congr {n : St → Prop} {e e' : AX} {s' : St} (h : e = e') (h' : s = s') : thenX n Q e s = thenX n Q e' s' := by rw [h, h']
@[congr] theorem blockX_congr {id : Nat} {e e' : AX} {s' : St} (h : e = e') (h' : s = s') : blockX id Q e s = blockX id Q e' s' := by rw [h, h']

@[simp ↓] theorem useK_some {c : Prop} {r : AV} {K : AV → St → Prop} : useK (some (c, r, s)) K ⟨⟩ = (c ∧ K r s) := Eq.trans rfl rfl
@[simp ↓] theorem useK_none {K : AV → St → Prop} : useK none K ⟨⟩ = False := Eq.trans rfl rfl
@[simp ↓] theorem asK_some {as : List AV} {K : List AV → Prop} : asK (some as) K ⟨⟩ = K as := Eq.trans rfl rfl
@[simp ↓] theorem fnK_some {f : FuncId} {cs : List AV} {K : FuncId → List AV → Prop} : fnK (some (f, cs)) K ⟨⟩ = K f cs := Eq.trans rfl rfl
@[simp ↓, simp] theorem condK_true {A B : Prop} : condK (some (.t (.v (.bool true)))) A B ⟨⟩ ⟨⟩ = A := by simp [condK]
@[simp ↓, simp] theorem condK_false {A B : Prop} : condK (some (.t (.v (.bool false)))) A B ⟨⟩ ⟨⟩ = B := by simp [condK]
@[simp low] theorem condK_some {t : Bool} {A B : Prop} : condK (some (.t (.v (.bool t)))) A B ⟨⟩ ⟨⟩ = ((t = true → Later A ⟨⟩) ∧ (t = false → Later B ⟨⟩)) := Eq.trans rfl rfl
@[simp ↓] theorem wantK_true {A B : Prop} : wantK (some true) A B ⟨⟩ ⟨⟩ = A := Eq.trans rfl rfl
@[simp ↓] theorem wantK_false {A B : Prop} : wantK (some false) A B ⟨⟩ ⟨⟩ = B := Eq.trans rfl rfl
@[simp ↓, simp] theorem stepsK_nil {K : St → Prop} : stepsK P Γ [] s K ⟨⟩ = K s := Eq.trans rfl rfl
@[simp ↓, simp] theorem stepsK_snn {d : Nat}  {io : IOp} {ros : List RO} {K : St → Prop} :
    stepsK P Γ (⟨some d, io, none, none⟩ :: ros) s K ⟨⟩ = execK P Γ d io s fun q st1 => stepsK P Γ ros ⟨(d, q) :: st1.env, st1.hp⟩ K ⟨⟩ := Eq.trans rfl rfl
@[simp ↓, simp] theorem stepsK_snr {d : Nat}  {r : Nat} {io : IOp} {ros : List RO} {K : St → Prop} :
    stepsK P Γ (⟨some d, io, none, some r⟩ :: ros) s K ⟨⟩ = execK P Γ r io s fun q st1 => stepsK P Γ ros ⟨(d, q) :: st1.env, st1.hp⟩ K ⟨⟩ := Eq.trans rfl rfl
@[simp ↓, simp] theorem stepsK_sgn {d : Nat} {g : Nat} {b : Bool} {io : IOp} {ros : List RO} {K : St → Prop} :
    stepsK P Γ (⟨some d, io, some (g, b), none⟩ :: ros) s K ⟨⟩ = wantK (wantO s.env (some (g, b))) (execK P Γ d io s fun q st1 => stepsK P Γ ros ⟨(d, q) :: st1.env, st1.hp⟩ K ⟨⟩) (stepsK P Γ ros ⟨(d, .un) :: s.env, s.hp⟩ K ⟨⟩) ⟨⟩ ⟨⟩ := Eq.trans rfl rfl
@[simp ↓, simp] theorem stepsK_sgr {d : Nat} {g : Nat} {b : Bool} {r : Nat} {io : IOp} {ros : List RO} {K : St → Prop} :
    stepsK P Γ (⟨some d, io, some (g, b), some r⟩ :: ros) s K ⟨⟩ = wantK (wantO s.env (some (g, b))) (execK P Γ r io s fun q st1 => stepsK P Γ ros ⟨(d, q) :: st1.env, st1.hp⟩ K ⟨⟩) (stepsK P Γ ros ⟨(d, .un) :: s.env, s.hp⟩ K ⟨⟩) ⟨⟩ ⟨⟩ := Eq.trans rfl rfl
@[simp ↓, simp] theorem stepsK_nnn   {io : IOp} {ros : List RO} {K : St → Prop} :
    stepsK P Γ (⟨none, io, none, none⟩ :: ros) s K ⟨⟩ = execK P Γ 0 io s fun q st1 => stepsK P Γ ros st1 K ⟨⟩ := Eq.trans rfl rfl
@[simp ↓, simp] theorem stepsK_ngn  {g : Nat} {b : Bool} {io : IOp} {ros : List RO} {K : St → Prop} :
    stepsK P Γ (⟨none, io, some (g, b), none⟩ :: ros) s K ⟨⟩ = wantK (wantO s.env (some (g, b))) (execK P Γ 0 io s fun q st1 => stepsK P Γ ros st1 K ⟨⟩) (stepsK P Γ ros s K ⟨⟩) ⟨⟩ ⟨⟩ := Eq.trans rfl rfl
@[simp ↓] theorem thenX_normal {n : St → Prop} : thenX n Q .normal s = n s := Eq.trans rfl rfl
@[simp ↓] theorem thenX_exit {n : St → Prop} {i : Nat} : thenX n Q (.exit i) s = Q (.exit i) s := Eq.trans rfl rfl
@[simp ↓] theorem thenX_ret {n : St → Prop} : thenX n Q .ret s = Q .ret s := Eq.trans rfl rfl
@[simp ↓] theorem blockX_normal {id : Nat} : blockX id Q .normal s = Q .normal s := Eq.trans rfl rfl
@[simp ↓] theorem blockX_exit {id i : Nat} : blockX id Q (.exit i) s = if i = id then Q .normal s else Q (.exit i) s := Eq.trans rfl rfl
@[simp ↓] theorem blockX_ret {id : Nat} : blockX id Q .ret s = Q .ret s := Eq.trans rfl rfl
@[simp ↓] theorem ghs_nil : ghs [] s = s := Eq.trans rfl rfl
@[simp ↓] theorem ghs_cons {g : Gh} {gs : List Gh} : ghs (g :: gs) s = ghs gs (g.run s) := Eq.trans rfl rfl
@[simp] theorem keep_nil {α : Type} {l : List (Nat × α)} : Lg.keep [] l = [] := Eq.trans rfl rfl
@[simp] theorem keep_cons {α : Type} {k : Nat} {ks : List Nat} {l : List (Nat × α)} : Lg.keep (k :: ks) l = match look l k with | some v => (k, v) :: Lg.keep ks l | none => Lg.keep ks l := by
  unfold Lg.keep
  rw [List.filterMap_cons]
  cases look l k <;> rfl
@[simp ↓] theorem sem_mv {d : Nat} {st : St} {x : Operand} : sem Γ d (.mv x) st = (
   (ev Γ st.env x).map fun a => (True, a, st)) := Eq.trans rfl rfl
@[simp ↓] theorem execK_mv {d : Nat} {st : St} {K : AV → St → Prop} {x : Operand} : execK P Γ d (.mv x) st K = useK (sem Γ d (.mv x) st) K ⟨⟩ := Eq.trans rfl rfl
@[simp ↓] theorem sem_pick {d : Nat} {st : St} {c : Operand} {a : Operand} {b : Operand} : sem Γ d (.pick c a b) st = (
   match ev Γ st.env c, ev Γ st.env a, ev Γ st.env b with
    | some (.t (.v (.bool p))), some a, some b => some (True, pickAV p a b, st)
    | _, _, _ => none) := Eq.trans rfl rfl
@[simp ↓] theorem execK_pick {d : Nat} {st : St} {K : AV → St → Prop} {c : Operand} {a : Operand} {b : Operand} : execK P Γ d (.pick c a b) st K = useK (sem Γ d (.pick c a b) st) K ⟨⟩ := Eq.trans rfl rfl
@[simp ↓] theorem sem_alloc {d : Nat} {st : St} {fz : Bool} {zs : List Value} : sem Γ d (.alloc fz zs) st = (
   
    if fz then some (True, .t (.ip (zs.map constT) 0), st)
    else some (look st.hp d = none, .lp d 0 0, ⟨st.env, (d, .bx (zs.map fun z => .t (constT z))) :: st.hp⟩)) := Eq.trans rfl rfl
@[simp ↓] theorem execK_alloc {d : Nat} {st : St} {K : AV → St → Prop} {fz : Bool} {zs : List Value} : execK P Γ d (.alloc fz zs) st K = useK (sem Γ d (.alloc fz zs) st) K ⟨⟩ := Eq.trans rfl rfl
@[simp ↓] theorem sem_box {d : Nat} {st : St} {fz : Bool} {x : Operand} : sem Γ d (.box fz x) st = (
   (ev Γ st.env x).bind fun a =>
    if fz then (toTs a.cells).map fun ts => (onesT ts = true, .t (.ip ts 0), st)
    else some (look st.hp d = none ∧ onesA a.cells = true, .lp d 0 0, ⟨st.env, (d, .bx a.cells) :: st.hp⟩)) := Eq.trans rfl rfl
@[simp ↓] theorem execK_box {d : Nat} {st : St} {K : AV → St → Prop} {fz : Bool} {x : Operand} : execK P Γ d (.box fz x) st K = useK (sem Γ d (.box fz x) st) K ⟨⟩ := Eq.trans rfl rfl
@[simp ↓] theorem sem_build {d : Nat} {st : St} {parts : List (Nat × Operand)} : sem Γ d (.build parts) st = (
   (evs Γ st.env (parts.map (·.2))).map fun as => (as.map (·.cells.length) = parts.map (·.1) ∧ onesA (as.flatMap AV.cells) = true, .ag (as.flatMap AV.cells), st)) := Eq.trans rfl rfl
@[simp ↓] theorem execK_build {d : Nat} {st : St} {K : AV → St → Prop} {parts : List (Nat × Operand)} : execK P Γ d (.build parts) st K = useK (sem Γ d (.build parts) st) K ⟨⟩ := Eq.trans rfl rfl
@[simp ↓] theorem sem_bsl {d : Nat} {st : St} {fz : Bool} {ty : Nat} {s : Nat} {parts : List Operand} : sem Γ d (.bsl fz ty s parts) st = (
   (evs Γ st.env parts).bind fun as => (optAll (as.map fun a => toTs a.cells)).map fun es =>
    if fz then ((∀ e ∈ es, e.length = s ∧ onesT e = true), .t (.sl es (some es.length) (some false)), st)
    else (look st.hp d = none ∧ (∀ e ∈ es, e.length = s ∧ onesT e = true), .ls d 0 es.length none, ⟨st.env, (d, .sl ty s es) :: st.hp⟩)) := Eq.trans rfl rfl
@[simp ↓] theorem execK_bsl {d : Nat} {st : St} {K : AV → St → Prop} {fz : Bool} {ty : Nat} {s : Nat} {parts : List Operand} : execK P Γ d (.bsl fz ty s parts) st K = useK (sem Γ d (.bsl fz ty s parts) st) K ⟨⟩ := Eq.trans rfl rfl
@[simp ↓] theorem sem_load {d : Nat} {st : St} {n : Nat} {g : Bool} {a : Operand} : sem Γ d (.load n g a) st = (
   match ev Γ st.env a with
    | some (.t (.ip cs k)) => some (k + n ≤ cs.length, .t (wrapT g ((cs.drop k).take n)), st)
    | some (.lp id i k) => match look st.hp id with
      | some (.sl _ s es) => some (i < es.length ∧ k + n ≤ s, .t (wrapT g (((es.getD i []).drop k).take n)), st)
      | some (.bx cs) => some (i = 0 ∧ k + n ≤ cs.length, wrapA g ((cs.drop k).take n), st)
      | _ => none
    | _ => none) := Eq.trans rfl rfl
@[simp ↓] theorem execK_load {d : Nat} {st : St} {K : AV → St → Prop} {n : Nat} {g : Bool} {a : Operand} : execK P Γ d (.load n g a) st K = useK (sem Γ d (.load n g a) st) K ⟨⟩ := Eq.trans rfl rfl
@[simp ↓] theorem sem_store {d : Nat} {st : St} {n : Nat} {a : Operand} {x : Operand} : sem Γ d (.store n a x) st = (
   (ev Γ st.env x).bind fun v => match ev Γ st.env a with
    | some (.lp id i k) => match look st.hp id with
      | some (.sl ty s es) => (toTs v.cells).map fun ts =>
        (i < es.length ∧ k + n ≤ s ∧ ts.length = n ∧ onesT ts = true, .un,
          ⟨st.env, setR id (.sl ty s (es.set i (if k = 0 ∧ n = s then ts else (es.getD i []).take k ++ ts ++ (es.getD i []).drop (k + n)))) st.hp⟩)
      | some (.bx cs) => some (i = 0 ∧ k + n ≤ cs.length ∧ v.cells.length = n ∧ onesA v.cells = true, .un, ⟨st.env, setR id (.bx (cs.take k ++ v.cells ++ cs.drop (k + n))) st.hp⟩)
      | _ => none
    | _ => none) := Eq.trans rfl rfl
@[simp ↓] theorem execK_store {d : Nat} {st : St} {K : AV → St → Prop} {n : Nat} {a : Operand} {x : Operand} : execK P Γ d (.store n a x) st K = useK (sem Γ d (.store n a x) st) K ⟨⟩ := Eq.trans rfl rfl
@[simp ↓] theorem sem_fadr {d : Nat} {st : St} {off : Nat} {a : Operand} : sem Γ d (.fadr off a) st = (
   match ev Γ st.env a with
    | some (.t (.ip cs k)) => some (True, .t (.ip cs (k + off)), st)
    | some (.lp id i k) => some (True, .lp id i (k + off), st)
    | _ => none) := Eq.trans rfl rfl
@[simp ↓] theorem execK_fadr {d : Nat} {st : St} {K : AV → St → Prop} {off : Nat} {a : Operand} : execK P Γ d (.fadr off a) st K = useK (sem Γ d (.fadr off a) st) K ⟨⟩ := Eq.trans rfl rfl
@[simp ↓] theorem sem_fld {d : Nat} {st : St} {off : Nat} {n : Nat} {g : Bool} {x : Operand} : sem Γ d (.fld off n g x) st = (
   (ev Γ st.env x).bind fun a => match a with
    | .ag cs => some (off + n ≤ cs.length, wrapA g ((cs.drop off).take n), st)
    | .t (.agg ts) => some (off + n ≤ ts.length, .t (wrapT g ((ts.drop off).take n)), st)
    | _ => none) := Eq.trans rfl rfl
@[simp ↓] theorem execK_fld {d : Nat} {st : St} {K : AV → St → Prop} {off : Nat} {n : Nat} {g : Bool} {x : Operand} : execK P Γ d (.fld off n g x) st K = useK (sem Γ d (.fld off n g x) st) K ⟨⟩ := Eq.trans rfl rfl
@[simp ↓] theorem sem_iadr {d : Nat} {st : St} {s : Nat} {x : Operand} {i : Operand} : sem Γ d (.iadr s x i) st = (
   match ev Γ st.env x, ev Γ st.env i with
    | some (.t (.sl es _ _)), some (.t (.v (.int _ n))) => some (0 ≤ n ∧ n < es.length ∧ wid s es, .t (.ip (es.getD n.toNat []) 0), st)
    | some (.ls id off len _), some (.t (.v (.int _ n))) => match look st.hp id with
      | some (.sl _ q _) => some (q = s ∧ 0 ≤ n ∧ n < len, .lp id (off + n.toNat) 0, st)
      | _ => none
    | some (.lb id m), some (.t (.v (.int _ n))) => match look st.hp id with
      | some (.bx _) => some (s = 1 ∧ 0 ≤ n ∧ n < m, .lp id 0 n.toNat, st)
      | _ => none
    | _, _ => none) := Eq.trans rfl rfl
@[simp ↓] theorem execK_iadr {d : Nat} {st : St} {K : AV → St → Prop} {s : Nat} {x : Operand} {i : Operand} : execK P Γ d (.iadr s x i) st K = useK (sem Γ d (.iadr s x i) st) K ⟨⟩ := Eq.trans rfl rfl
@[simp ↓] theorem sem_iadrA {d : Nat} {st : St} {len : Nat} {s : Nat} {x : Operand} {i : Operand} : sem Γ d (.iadrA len s x i) st = (
   match ev Γ st.env x, ev Γ st.env i with
    | some (.t (.ip cs k)), some (.t (.v (.int _ n))) => some (0 ≤ n ∧ n < len, .t (.ip cs (k + n.toNat * s)), st)
    | some (.lp id j k), some (.t (.v (.int _ n))) => some (0 ≤ n ∧ n < len, .lp id j (k + n.toNat * s), st)
    | _, _ => none) := Eq.trans rfl rfl
@[simp ↓] theorem execK_iadrA {d : Nat} {st : St} {K : AV → St → Prop} {len : Nat} {s : Nat} {x : Operand} {i : Operand} : execK P Γ d (.iadrA len s x i) st K = useK (sem Γ d (.iadrA len s x i) st) K ⟨⟩ := Eq.trans rfl rfl
@[simp ↓] theorem sem_idxS {d : Nat} {st : St} {x : Operand} {i : Operand} : sem Γ d (.idxS x i) st = (
   match ev Γ st.env x, ev Γ st.env i with
    | some (.t (.v (.string s))), some (.t (.v (.int _ n))) => some (0 ≤ n ∧ n < s.size, .t (.v (.int .u8 (s.data.getD n.toNat 0).toNat)), st)
    | _, _ => none) := Eq.trans rfl rfl
@[simp ↓] theorem execK_idxS {d : Nat} {st : St} {K : AV → St → Prop} {x : Operand} {i : Operand} : execK P Γ d (.idxS x i) st K = useK (sem Γ d (.idxS x i) st) K ⟨⟩ := Eq.trans rfl rfl
@[simp ↓] theorem sem_idxA {d : Nat} {st : St} {len : Nat} {s : Nat} {g : Bool} {x : Operand} {i : Operand} : sem Γ d (.idxA len s g x i) st = (
   match ev Γ st.env x, ev Γ st.env i with
    | some (.t (.agg ts)), some (.t (.v (.int _ n))) => some (0 ≤ n ∧ n < len ∧ n.toNat * s + s ≤ ts.length, .t (wrapT g ((ts.drop (n.toNat * s)).take s)), st)
    | some (.ag cs), some (.t (.v (.int _ n))) => some (0 ≤ n ∧ n < len ∧ n.toNat * s + s ≤ cs.length, wrapA g ((cs.drop (n.toNat * s)).take s), st)
    | _, _ => none) := Eq.trans rfl rfl
@[simp ↓] theorem execK_idxA {d : Nat} {st : St} {K : AV → St → Prop} {len : Nat} {s : Nat} {g : Bool} {x : Operand} {i : Operand} : execK P Γ d (.idxA len s g x i) st K = useK (sem Γ d (.idxA len s g x i) st) K ⟨⟩ := Eq.trans rfl rfl
@[simp ↓] theorem sem_bin {d : Nat} {st : St} {op : BinOp} {x : Operand} {y : Operand} : sem Γ d (.bin op x y) st = (
   match ev Γ st.env x, ev Γ st.env y with
    | some (.t (.v a)), some (.t (.v b)) => (binV op a b).map fun r => (r.1, .t (.v r.2), st)
    | _, _ => none) := Eq.trans rfl rfl
@[simp ↓] theorem execK_bin {d : Nat} {st : St} {K : AV → St → Prop} {op : BinOp} {x : Operand} {y : Operand} : execK P Γ d (.bin op x y) st K = useK (sem Γ d (.bin op x y) st) K ⟨⟩ := Eq.trans rfl rfl
@[simp ↓] theorem sem_isNil {d : Nat} {st : St} {pos : Bool} {x : Operand} : sem Γ d (.isNil pos x) st = (
   match ev Γ st.env x with
    | some (.t (.sl es _ nl)) => match nl with
      | some q => some (True, .t (.v (.bool (q == pos))), st)
      | none => some (es ≠ [], .t (.v (.bool (!pos))), st)
    | _ => none) := Eq.trans rfl rfl
@[simp ↓] theorem execK_isNil {d : Nat} {st : St} {K : AV → St → Prop} {pos : Bool} {x : Operand} : execK P Γ d (.isNil pos x) st K = useK (sem Γ d (.isNil pos x) st) K ⟨⟩ := Eq.trans rfl rfl
@[simp ↓] theorem sem_eqb {d : Nat} {st : St} {pos : Bool} {x : Operand} {y : Operand} : sem Γ d (.eqb pos x y) st = (
   match ev Γ st.env x, ev Γ st.env y with
    | some (.t (.v (.bool a))), some (.t (.v (.bool b))) => some (True, .t (.v (.bool (if pos then a == b else a != b))), st)
    | _, _ => none) := Eq.trans rfl rfl
@[simp ↓] theorem execK_eqb {d : Nat} {st : St} {K : AV → St → Prop} {pos : Bool} {x : Operand} {y : Operand} : execK P Γ d (.eqb pos x y) st K = useK (sem Γ d (.eqb pos x y) st) K ⟨⟩ := Eq.trans rfl rfl
@[simp ↓] theorem sem_un {d : Nat} {st : St} {op : UnOp} {x : Operand} : sem Γ d (.un op x) st = (
   match ev Γ st.env x with
    | some (.t (.v a)) => (unV op a).map fun r => (True, .t (.v r), st)
    | _ => none) := Eq.trans rfl rfl
@[simp ↓] theorem execK_un {d : Nat} {st : St} {K : AV → St → Prop} {op : UnOp} {x : Operand} : execK P Γ d (.un op x) st K = useK (sem Γ d (.un op x) st) K ⟨⟩ := Eq.trans rfl rfl
@[simp ↓] theorem sem_conv {d : Nat} {st : St} {k : IntKind} {x : Operand} : sem Γ d (.conv k x) st = (
   match ev Γ st.env x with
    | some (.t (.v (.int _ n))) => some (True, .t (.v (.int k (k.wrap n))), st)
    | _ => none) := Eq.trans rfl rfl
@[simp ↓] theorem execK_conv {d : Nat} {st : St} {K : AV → St → Prop} {k : IntKind} {x : Operand} : execK P Γ d (.conv k x) st K = useK (sem Γ d (.conv k x) st) K ⟨⟩ := Eq.trans rfl rfl
@[simp ↓] theorem sem_bytesStr {d : Nat} {st : St} {x : Operand} : sem Γ d (.bytesStr x) st = (
   ((ev Γ st.env x).bind (elemsOf st.hp)).bind fun es => (bytesOf es).map fun bs => (True, .t (.v (.string ⟨bs.toArray⟩)), st)) := Eq.trans rfl rfl
@[simp ↓] theorem execK_bytesStr {d : Nat} {st : St} {K : AV → St → Prop} {x : Operand} : execK P Γ d (.bytesStr x) st K = useK (sem Γ d (.bytesStr x) st) K ⟨⟩ := Eq.trans rfl rfl
@[simp ↓] theorem sem_runeStr {d : Nat} {st : St} {x : Operand} : sem Γ d (.runeStr x) st = (
   match ev Γ st.env x with
    | some (.t (.v (.int _ n))) => some (True, .t (.v (.string (Utf8.encode n))), st)
    | _ => none) := Eq.trans rfl rfl
@[simp ↓] theorem execK_runeStr {d : Nat} {st : St} {K : AV → St → Prop} {x : Operand} : execK P Γ d (.runeStr x) st K = useK (sem Γ d (.runeStr x) st) K ⟨⟩ := Eq.trans rfl rfl
@[simp ↓] theorem sem_len {d : Nat} {st : St} {k : Nat} {x : Operand} : sem Γ d (.len k x) st = (
   (ev Γ st.env x).bind fun a => if lenK k a then (lenOf st.hp a).map fun (n : Nat) => (True, .t (.v (.int .i64 (n : Int))), st) else none) := Eq.trans rfl rfl
@[simp ↓] theorem execK_len {d : Nat} {st : St} {K : AV → St → Prop} {k : Nat} {x : Operand} : execK P Γ d (.len k x) st K = useK (sem Γ d (.len k x) st) K ⟨⟩ := Eq.trans rfl rfl
@[simp ↓] theorem sem_cap {d : Nat} {st : St} {x : Operand} : sem Γ d (.cap x) st = (
   match ev Γ st.env x with
    | some (.t (.sl _ (some c) _)) => some (True, .t (.v (.int .i64 c)), st)
    | some (.ls _ _ _ (some c)) => some (True, .t (.v (.int .i64 c)), st)
    | _ => none) := Eq.trans rfl rfl
@[simp ↓] theorem execK_cap {d : Nat} {st : St} {K : AV → St → Prop} {x : Operand} : execK P Γ d (.cap x) st K = useK (sem Γ d (.cap x) st) K ⟨⟩ := Eq.trans rfl rfl
@[simp ↓] theorem sem_mmx {d : Nat} {st : St} {mx : Bool} {xs : List Operand} : sem Γ d (.mmx mx xs) st = (
   (evs Γ st.env xs).bind fun as => (mmxV mx as none).map fun r => (sameKind r.1 as = true, .t (.v (.int r.1 r.2)), st)) := Eq.trans rfl rfl
@[simp ↓] theorem execK_mmx {d : Nat} {st : St} {K : AV → St → Prop} {mx : Bool} {xs : List Operand} : execK P Γ d (.mmx mx xs) st K = useK (sem Γ d (.mmx mx xs) st) K ⟨⟩ := Eq.trans rfl rfl
@[simp ↓] theorem sem_app {d : Nat} {st : St} {fz : Bool} {ty : Nat} {s : Nat} {b : Operand} {x : Operand} : sem Γ d (.app fz ty s b x) st = (
   ((ev Γ st.env x).bind (elemsOf st.hp)).bind fun news => (ev Γ st.env b).bind fun a =>
    let fin (c0 : Prop) (es : List (List T)) (st' : St) : Option (Prop × AV × St) :=
      let c : Prop := wid s news ∧ c0
      if fz then some (c, .t (.sl es none none), st')
      else some (c ∧ look st'.hp d = none, .ls d 0 es.length none, ⟨st'.env, (d, .sl ty s es) :: st'.hp⟩)
    match a with
    | .t (.sl es (some c) _) => fin (wid s es ∧ c = es.length ∧ es.length + news.length ≤ 2147483648 ∧ (fz = true ∨ news ≠ [] ∨ es = [])) (es ++ news) st
    | .ls id off len (some c) => match look st.hp id with
      | some (.sl t q es) => fin (t = ty ∧ q = s ∧ c = len ∧ len + news.length ≤ 2147483648 ∧ (news ≠ [] ∨ len = 0)) ((es.drop off).take len ++ news) st
      | _ => none
    | .ls id 0 len none => match look st.hp id with
      | some (.sl t q es) => fin (t = ty ∧ q = s ∧ len + news.length ≤ 2147483648) (es.take len ++ news) (st.kill id)
      | _ => none
    | _ => none) := Eq.trans rfl rfl
@[simp ↓] theorem execK_app {d : Nat} {st : St} {K : AV → St → Prop} {fz : Bool} {ty : Nat} {s : Nat} {b : Operand} {x : Operand} : execK P Γ d (.app fz ty s b x) st K = useK (sem Γ d (.app fz ty s b x) st) K ⟨⟩ := Eq.trans rfl rfl
@[simp ↓] theorem sem_appT {d : Nat} {st : St} {u0 : Nat} {s : Nat} {b : Operand} {x : Operand} : sem Γ d (.appT u0 s b x) st = (
   ((ev Γ st.env x).bind (elemsOf st.hp)).bind fun news => match ev Γ st.env b with
    | some (.t (.sl es (some c) _)) => some (wid s news ∧ wid s es ∧ c = es.length ∧ es.length + news.length ≤ 2147483648, .t (.sl (es ++ news) none none), st)
    | _ => none) := Eq.trans rfl rfl
@[simp ↓] theorem execK_appT {d : Nat} {st : St} {K : AV → St → Prop} {u0 : Nat} {s : Nat} {b : Operand} {x : Operand} : execK P Γ d (.appT u0 s b x) st K = useK (sem Γ d (.appT u0 s b x) st) K ⟨⟩ := Eq.trans rfl rfl
@[simp ↓] theorem sem_slice {d : Nat} {st : St} {s : Nat} {x : Operand} {lo : Option Operand} {hi : Option Operand} {mx : Option Operand} : sem Γ d (.slice s x lo hi mx) st = (
   (ev Γ st.env x).bind fun a =>
    match a with
    | .t (.v (.string b)) => (numO Γ st.env lo 0).bind fun l => (numO Γ st.env hi b.size).map fun h => (s = 0 ∧ l.1 ∧ h.1 ∧ l.2 ≤ h.2 ∧ h.2 ≤ b.size, .t (.v (.string (b.extract l.2 h.2))), st)
    | .t (.sl es cap nl) => (numO Γ st.env lo 0).bind fun l => (numO Γ st.env hi es.length).bind fun h => match mx with
      | none => some (s ≠ 0 ∧ wid s es ∧ l.1 ∧ h.1 ∧ l.2 ≤ h.2 ∧ h.2 ≤ es.length, .t (.sl ((es.drop l.2).take (h.2 - l.2)) (cap.map (· - l.2)) nl), st)
      | some _ => (numO Γ st.env mx 0).map fun m => (s ≠ 0 ∧ wid s es ∧ l.1 ∧ h.1 ∧ m.1 ∧ l.2 ≤ h.2 ∧ h.2 ≤ m.2 ∧ m.2 ≤ es.length, .t (.sl ((es.drop l.2).take (h.2 - l.2)) (some (m.2 - l.2)) nl), st)
    | .ls id off len cap => (numO Γ st.env lo 0).bind fun l => (numO Γ st.env hi len).bind fun h => match look st.hp id with
     | some (.sl _ q _) => match mx with
      | none => some (s ≠ 0 ∧ q = s ∧ l.1 ∧ h.1 ∧ l.2 ≤ h.2 ∧ h.2 ≤ len, .ls id (off + l.2) (h.2 - l.2) (cap.map (· - l.2)), st)
      | some _ => (numO Γ st.env mx 0).map fun m => (s ≠ 0 ∧ q = s ∧ l.1 ∧ h.1 ∧ m.1 ∧ l.2 ≤ h.2 ∧ h.2 ≤ m.2 ∧ m.2 ≤ len, .ls id (off + l.2) (h.2 - l.2) (some (m.2 - l.2)), st)
     | _ => none
    | _ => none) := Eq.trans rfl rfl
@[simp ↓] theorem execK_slice {d : Nat} {st : St} {K : AV → St → Prop} {s : Nat} {x : Operand} {lo : Option Operand} {hi : Option Operand} {mx : Option Operand} : execK P Γ d (.slice s x lo hi mx) st K = useK (sem Γ d (.slice s x lo hi mx) st) K ⟨⟩ := Eq.trans rfl rfl
@[simp ↓] theorem sem_mk {d : Nat} {st : St} {ty : Nat} {s : Nat} {zs : List Value} {l : Operand} {c : Operand} : sem Γ d (.mk ty s zs l c) st = (
   match ev Γ st.env l, ev Γ st.env c with
    | some (.t (.v (.int _ n))), some (.t (.v (.int _ m))) =>
      some (look st.hp d = none ∧ 0 ≤ n ∧ n ≤ m ∧ m ≤ 2147483648, .ls d 0 n.toNat none, ⟨st.env, (d, .sl ty s (List.replicate n.toNat (zs.map constT))) :: st.hp⟩)
    | _, _ => none) := Eq.trans rfl rfl
@[simp ↓] theorem execK_mk {d : Nat} {st : St} {K : AV → St → Prop} {ty : Nat} {s : Nat} {zs : List Value} {l : Operand} {c : Operand} : execK P Γ d (.mk ty s zs l c) st K = useK (sem Γ d (.mk ty s zs l c) st) K ⟨⟩ := Eq.trans rfl rfl
@[simp ↓] theorem sem_mkf {d : Nat} {st : St} {f : FuncId} {caps : List Operand} : sem Γ d (.mkf f caps) st = (
   (evs Γ st.env caps).map fun as => (onesA as = true, (match toTs as with | some ts => .t (.fn f ts) | none => .fn f as), st)) := Eq.trans rfl rfl
@[simp ↓] theorem execK_mkf {d : Nat} {st : St} {K : AV → St → Prop} {f : FuncId} {caps : List Operand} : execK P Γ d (.mkf f caps) st K = useK (sem Γ d (.mkf f caps) st) K ⟨⟩ := Eq.trans rfl rfl
@[simp ↓] theorem sem_ext {d : Nat} {st : St} {x : Operand} {i : Nat} : sem Γ d (.ext x i) st = (
   match ev Γ st.env x with
    | some (.t (.tup vs)) => (vs[i]?).map fun t => (True, .t t, st)
    | _ => none) := Eq.trans rfl rfl
@[simp ↓] theorem execK_ext {d : Nat} {st : St} {K : AV → St → Prop} {x : Operand} {i : Nat} : execK P Γ d (.ext x i) st K = useK (sem Γ d (.ext x i) st) K ⟨⟩ := Eq.trans rfl rfl
@[simp ↓] theorem sem_nck {d : Nat} {st : St} {x : Operand} : sem Γ d (.nck x) st = (
   match ev Γ st.env x with
    | some (.t (.ip cs k)) => some (True, .t (.ip cs k), st)
    | some (.lp id i k) => some (True, .lp id i k, st)
    | some (.t (.fn f cs)) => some (True, .t (.fn f cs), st)
    | some (.fn f cs) => some (True, .fn f cs, st)
    | _ => none) := Eq.trans rfl rfl
@[simp ↓] theorem execK_nck {d : Nat} {st : St} {K : AV → St → Prop} {x : Operand} : execK P Γ d (.nck x) st K = useK (sem Γ d (.nck x) st) K ⟨⟩ := Eq.trans rfl rfl
@[simp ↓] theorem sem_mkmap {d : Nat} {st : St}  : sem Γ d (.mkmap ) st = (
   some (look st.hp d = none, .lm d, ⟨st.env, (d, .mp []) :: st.hp⟩)) := Eq.trans rfl rfl
@[simp ↓] theorem execK_mkmap {d : Nat} {st : St} {K : AV → St → Prop}  : execK P Γ d (.mkmap ) st K = useK (sem Γ d (.mkmap ) st) K ⟨⟩ := Eq.trans rfl rfl
@[simp ↓] theorem sem_mkB {d : Nat} {st : St} {u0 : Nat} {zs : List Value} {l : Operand} {c : Operand} : sem Γ d (.mkB u0 zs l c) st = (
   match ev Γ st.env l, ev Γ st.env c with
    | some (.t (.v (.int _ n))), some (.t (.v (.int _ m))) =>
      some (look st.hp d = none ∧ 0 ≤ n ∧ n = m ∧ m ≤ 2147483648, .lb d n.toNat, ⟨st.env, (d, .bx (List.replicate n.toNat (.t (constT (zs.headD undef))))) :: st.hp⟩)
    | _, _ => none) := Eq.trans rfl rfl
@[simp ↓] theorem execK_mkB {d : Nat} {st : St} {K : AV → St → Prop} {u0 : Nat} {zs : List Value} {l : Operand} {c : Operand} : execK P Γ d (.mkB u0 zs l c) st K = useK (sem Γ d (.mkB u0 zs l c) st) K ⟨⟩ := Eq.trans rfl rfl
@[simp ↓] theorem sem_rng {d : Nat} {st : St} {x : Operand} : sem Γ d (.rng x) st = (
   match ev Γ st.env x with
    | some (.t (.v (.string s))) => some (look st.hp d = none, .li d, ⟨st.env, (d, .it s 0) :: st.hp⟩)
    | _ => none) := Eq.trans rfl rfl
@[simp ↓] theorem execK_rng {d : Nat} {st : St} {K : AV → St → Prop} {x : Operand} : execK P Γ d (.rng x) st K = useK (sem Γ d (.rng x) st) K ⟨⟩ := Eq.trans rfl rfl
@[simp ↓] theorem sem_nxt {d : Nat} {st : St} {x : Operand} : sem Γ d (.nxt x) st = (
   match ev Γ st.env x with
    | some (.li id) => match look st.hp id with
      | some (.it s pos) => if pos < s.size then some (True, .t (.tup [.v (.bool true), .v (.int .i64 pos), .v (.int .i32 (Utf8.decode s pos).1)]), ⟨st.env, setR id (.it s (pos + (Utf8.decode s pos).2)) st.hp⟩)
        else some (True, .t (.tup [.v (.bool false)]), st)
      | _ => none
    | _ => none) := Eq.trans rfl rfl
@[simp ↓] theorem execK_nxt {d : Nat} {st : St} {K : AV → St → Prop} {x : Operand} : execK P Γ d (.nxt x) st K = useK (sem Γ d (.nxt x) st) K ⟨⟩ := Eq.trans rfl rfl
@[simp ↓] theorem sem_lkup {d : Nat} {st : St} {kt : KT} {zv : Value} {ok : Bool} {m : Operand} {k : Operand} : sem Γ d (.lkup kt zv ok m k) st = (
   match ev Γ st.env k with
    | some (.t (.v kv)) =>
      let out (es : List (Value × T)) : Prop × AV × St :=
        (kt.fits kv = true ∧ keysFit kt es, if ok then .t (.tup [(findM kv es).getD (constTT zv), .v (.bool (findM kv es).isSome)]) else .t ((findM kv es).getD (constTT zv)), st)
      match ev Γ st.env m with
      | some (.t (.mp es)) => some (out es)
      | some (.lm id) => match look st.hp id with
        | some (.mp es) => some (out es)
        | _ => none
      | _ => none
    | _ => none) := Eq.trans rfl rfl
@[simp ↓] theorem execK_lkup {d : Nat} {st : St} {K : AV → St → Prop} {kt : KT} {zv : Value} {ok : Bool} {m : Operand} {k : Operand} : execK P Γ d (.lkup kt zv ok m k) st K = useK (sem Γ d (.lkup kt zv ok m k) st) K ⟨⟩ := Eq.trans rfl rfl
@[simp ↓] theorem sem_mup {d : Nat} {st : St} {kt : KT} {m : Operand} {k : Operand} {x : Operand} : sem Γ d (.mup kt m k x) st = (
   match ev Γ st.env k, ev Γ st.env m with
    | some (.t (.v kv)), some (.lm id) => match look st.hp id with
      | some (.mp es) => ((ev Γ st.env x).bind toT).map fun t => (kt.fits kv = true ∧ keysFit kt es, .un, ⟨st.env, setR id (.mp (setM kv t es)) st.hp⟩)
      | _ => none
    | _, _ => none) := Eq.trans rfl rfl
@[simp ↓] theorem execK_mup {d : Nat} {st : St} {K : AV → St → Prop} {kt : KT} {m : Operand} {k : Operand} {x : Operand} : execK P Γ d (.mup kt m k x) st K = useK (sem Γ d (.mup kt m k x) st) K ⟨⟩ := Eq.trans rfl rfl
@[simp ↓] theorem sem_stR {d : Nat} {st : St} {id : Nat} {n : Nat} {a : Operand} {x : Operand} : sem Γ d (.stR id n a x) st = (
   if pointsTo id (ev Γ st.env a) then ((ev Γ st.env x).bind fun v => match ev Γ st.env a with
      | some (.lp id i k) => match look st.hp id with
        | some (.sl ty s es) => (toTs v.cells).map fun ts =>
          (i < es.length ∧ k + n ≤ s ∧ ts.length = n ∧ onesT ts = true, .un,
            ⟨st.env, setR id (.sl ty s (es.set i (if k = 0 ∧ n = s then ts else (es.getD i []).take k ++ ts ++ (es.getD i []).drop (k + n)))) st.hp⟩)
        | some (.bx cs) => some (i = 0 ∧ k + n ≤ cs.length ∧ v.cells.length = n ∧ onesA v.cells = true, .un, ⟨st.env, setR id (.bx (cs.take k ++ v.cells ++ cs.drop (k + n))) st.hp⟩)
        | _ => none
      | _ => none) else none) := Eq.trans rfl rfl
@[simp ↓] theorem execK_stR {d : Nat} {st : St} {K : AV → St → Prop} {id : Nat} {n : Nat} {a : Operand} {x : Operand} : execK P Γ d (.stR id n a x) st K = useK (sem Γ d (.stR id n a x) st) K ⟨⟩ := Eq.trans rfl rfl
@[simp ↓] theorem sem_ldR {d : Nat} {st : St} {id : Nat} {n : Nat} {g : Bool} {a : Operand} : sem Γ d (.ldR id n g a) st = (
   if pointsTo id (ev Γ st.env a) then (match ev Γ st.env a with
      | some (.t (.ip cs k)) => some (k + n ≤ cs.length, .t (wrapT g ((cs.drop k).take n)), st)
      | some (.lp id i k) => match look st.hp id with
        | some (.sl _ s es) => some (i < es.length ∧ k + n ≤ s, .t (wrapT g (((es.getD i []).drop k).take n)), st)
        | some (.bx cs) => some (i = 0 ∧ k + n ≤ cs.length, wrapA g ((cs.drop k).take n), st)
        | _ => none
      | _ => none) else none) := Eq.trans rfl rfl
@[simp ↓] theorem execK_ldR {d : Nat} {st : St} {K : AV → St → Prop} {id : Nat} {n : Nat} {g : Bool} {a : Operand} : execK P Γ d (.ldR id n g a) st K = useK (sem Γ d (.ldR id n g a) st) K ⟨⟩ := Eq.trans rfl rfl
@[simp ↓] theorem sem_ldT {d : Nat} {st : St} {n : Nat} {g : Bool} {a : Operand} : sem Γ d (.ldT n g a) st = (
   match ev Γ st.env a with
    | some (.t (.ip cs k)) => some (k + n ≤ cs.length, .t (wrapT g ((cs.drop k).take n)), st)
    | _ => none) := Eq.trans rfl rfl
@[simp ↓] theorem execK_ldT {d : Nat} {st : St} {K : AV → St → Prop} {n : Nat} {g : Bool} {a : Operand} : execK P Γ d (.ldT n g a) st K = useK (sem Γ d (.ldT n g a) st) K ⟨⟩ := Eq.trans rfl rfl
@[simp ↓] theorem sem_lkT {d : Nat} {st : St} {kt : KT} {zv : Value} {ok : Bool} {m : Operand} {k : Operand} : sem Γ d (.lkT kt zv ok m k) st = (
   match ev Γ st.env k, ev Γ st.env m with
    | some (.t (.v kv)), some (.t (.mp es)) => some (kt.fits kv = true ∧ keysFit kt es, if ok then .t (.tup [(findM kv es).getD (constTT zv), .v (.bool (findM kv es).isSome)]) else .t ((findM kv es).getD (constTT zv)), st)
    | _, _ => none) := Eq.trans rfl rfl
@[simp ↓] theorem execK_lkT {d : Nat} {st : St} {K : AV → St → Prop} {kt : KT} {zv : Value} {ok : Bool} {m : Operand} {k : Operand} : execK P Γ d (.lkT kt zv ok m k) st K = useK (sem Γ d (.lkT kt zv ok m k) st) K ⟨⟩ := Eq.trans rfl rfl
@[simp ↓] theorem execK_call {d : Nat} {st : St} {K : AV → St → Prop} {f : FuncId} {args : List Operand} : execK P Γ d (.call f args) st K = asK (evs Γ st.env args) (fun as => callK P Γ st.hp f as (fun res => K (.t res) st) ⟨⟩) ⟨⟩ := Eq.trans rfl rfl
@[simp ↓] theorem execK_callv {d : Nat} {st : St} {K : AV → St → Prop} {x : Operand} {args : List Operand} : execK P Γ d (.callv x args) st K = fnK ((ev Γ st.env x).bind fnOf) (fun f cs => asK (evs Γ st.env args) (fun as => callK P Γ st.hp f (as ++ cs) (fun res => K (.t res) st) ⟨⟩) ⟨⟩) ⟨⟩ := Eq.trans rfl rfl
@[simp ↓] theorem execK_hcall {d : Nat} {st : St} {K : AV → St → Prop} {f : FuncId} {args : List Operand} {rs : List Nat} {base : Nat} : execK P Γ d (.hcall f args rs base) st K = asK (evs Γ st.env args) (fun as => rs.Nodup ∧ hcallK P Γ st f rs base (handR rs st.hp) (as.map (renRef (fwd rs))) K ⟨⟩) ⟨⟩ := Eq.trans rfl rfl
@[simp] theorem ev_tmp {e : List (Nat × AV)} {t : Nat} : ev Γ e (.tmp t) = look e t := Eq.trans rfl rfl
@[simp] theorem ev_const {e : List (Nat × AV)} {v : Value} : ev Γ e (.const v) = some (constAV v) := Eq.trans rfl rfl
@[simp] theorem ev_global {e : List (Nat × AV)} {g : Nat} : ev Γ e (.global g) = (Γ g).map fun cs => .t (.ip cs 0) := Eq.trans rfl rfl
@[simp] theorem ev_func {e : List (Nat × AV)} {f : FuncId} : ev Γ e (.func f) = some (.t (.fn f [])) := Eq.trans rfl rfl
@[simp] theorem evs_eq {e : List (Nat × AV)} {xs : List Operand} : evs Γ e xs = optAll (xs.map (ev Γ e)) := Eq.trans rfl rfl
@[simp] theorem wantO_none {e : List (Nat × AV)} : wantO e none = some true := Eq.trans rfl rfl
@[simp] theorem wantO_some {e : List (Nat × AV)} {g : Nat} {b : Bool} : wantO e (some (g, b)) = match look e g with
    | some (.t (.v (.bool p))) => some (p == b)
    | some .un => some false
    | _ => none := Eq.trans rfl rfl
end

attribute [simp] RO.d St.put optAll look params Gh.run killAll retA retT resOf reify constAV constTT constT
  binV unV mmxV sameKind lenOf lenK wrapT wrapA AV.cells toTs toT toT1 pickAV elemsOf numO setR fnOf St.kill killRef kill1 killReg del pointsTo avps resA handR fwd bwd newsR gone oldsR backR okB renRef ren1 ren0 renReg notAg toName renHp frzN Reg.sh List.filter_cons

end Go.Lg

/- THE LOGIC, last part: from a row's data to trees, and from a call that changes nothing to a row's end. Conditions: none. -/
set_option linter.unusedSimpArgs false
set_option linter.unusedVariables false
namespace Go.Lg
open Go Go.RowKit

def Old (w : World) (b : Nat) : Prop := b < w.heap.size

/-- The data of the type read as trees of this shape. -/
def Rd (P : Program) (t : TypeId) (S : List T → Prop) : Prop :=
  ∀ (H : Type) (enc : TypeId × Value → H) (w : World) (held : Bool) (fuel : Nat) (cs : List Value) (x : DataW H × List MemPlace), DataW.trod enc P w 0 (fun _ => true) held fuel t cs = some x → ∃ ts, S ts ∧ TRs w (Old w) ts cs ∧ ∀ u ∈ ts, u.one = true

theorem cell_lt {w : World} {a : Addr} {v : Value} (h : w.cell? a = some v) : a.block < w.heap.size := by
  unfold World.cell? at h
  split at h
  · rename_i hb
    have := Array.getElem?_eq_some_iff.1 hb
    exact this.1
  · simp at h

variable {P : Program} {t e : TypeId}

theorem TRs.one1 {w : World} {X : Nat → Prop} {u : T} {v : Value} (h : TR w X u v) : TRs w X [u] [v] := TRs.cons h (TRs.nil w X)

theorem Rd.mono {S S' : List T → Prop} (h : Rd P t S) (hs : ∀ ts, S ts → S' ts) : Rd P t S' := fun H enc w held fuel cs x hx => by
  obtain ⟨ts, h1, h2, h3⟩ := h H enc w held fuel cs x hx
  exact ⟨ts, hs ts h1, h2, h3⟩

theorem rd_int {k : IntKind} (ht : P.underlying t = some (.int k)) : Rd P t fun ts => ∃ n, ts = [.v (.int k n)] ∧ (Lit.int k n).wf = true := by
  intro H enc w held fuel cs x h
  obtain ⟨n, rfl, _, hw⟩ := DataW.trod_int ht h
  exact ⟨[.v (.int k n)], ⟨n, rfl, hw⟩, TRs.one1 (.v _), by intro u hu; simp at hu; subst hu; rfl⟩
theorem rd_bool (ht : P.underlying t = some .bool) : Rd P t fun ts => ∃ b, ts = [.v (.bool b)] := by
  intro H enc w held fuel cs x h
  obtain ⟨b, rfl, _⟩ := DataW.trod_bool ht h
  exact ⟨[.v (.bool b)], ⟨b, rfl⟩, TRs.one1 (.v _), by intro u hu; simp at hu; subst hu; rfl⟩
theorem rd_string (ht : P.underlying t = some .string) : Rd P t fun ts => ∃ s : ByteArray, ts = [.v (.string s)] ∧ s.size ≤ maxLen := by
  intro H enc w held fuel cs x h
  obtain ⟨s, rfl, _, hs⟩ := DataW.trod_string ht h
  exact ⟨[.v (.string s)], ⟨s, rfl, hs⟩, TRs.one1 (.v _), by intro u hu; simp at hu; subst hu; rfl⟩

theorem list_pick {α : Type} {Q : Nat → α → Prop} : ∀ (n : Nat), (∀ i, i < n → ∃ a, Q i a) → ∃ l : List α, l.length = n ∧ ∀ i a, l[i]? = some a → Q i a
  | 0, _ => ⟨[], rfl, fun i a h => by simp at h⟩
  | n + 1, h => by
    obtain ⟨l, hl, hq⟩ := list_pick n fun i hi => h i (by omega)
    obtain ⟨a, ha⟩ := h n (by omega)
    refine ⟨l ++ [a], by simp [hl], fun i b hb => ?_⟩
    by_cases hi : i < n
    · rw [List.getElem?_append_left (by omega)] at hb; exact hq i b hb
    · have : i = n := by
        have := (List.getElem?_eq_some_iff.1 hb).1
        simp at this; omega
      subst this
      rw [List.getElem?_append_right (by omega), hl] at hb
      simp at hb; subst hb; exact ha

theorem rd_slice {s : Nat} {S : List T → Prop} (ht : P.underlying t = some (.slice e)) (hc : P.cellsOf e = s) (hs : 0 < s) (he : Rd P e S) :
    Rd P t fun ts => ∃ es cap nl, ts = [.sl es cap nl] ∧ es.length ≤ maxLen ∧ ∀ x ∈ es, S x ∧ x.length = s := by
  intro H enc w held fuel cs x h
  rcases DataW.trod_slice ht h with ⟨rfl, _⟩ | ⟨a, len, cap, elems, rest, n, rfl, rfl, _, _, hlc, hcm, hel, hat, _, _⟩
  · exact ⟨[.sl [] (some 0) (some true)], ⟨[], _, _, rfl, by simp, by simp⟩, TRs.one1 (.nil _ _ none 0 (by rintro n ⟨⟩; rfl) (by rintro b ⟨⟩; rfl) (fun _ => rfl)), by intro u hu; simp at hu; subst hu; rfl⟩
  by_cases h0 : len = 0
  · subst h0
    exact ⟨[.sl [] none none], ⟨[], _, _, rfl, by simp, by simp⟩, TRs.one1 (.nil _ _ (some a) cap (fun _ h => by cases h) (fun _ h => by cases h) (fun h => by cases h)), by intro u hu; simp at hu; subst hu; rfl⟩
  obtain ⟨b, off, spot⟩ := a
  obtain ⟨hsp, hb⟩ : spot = none ∧ b < w.heap.size := by
    have h1 := hat 0 (by omega)
    rw [List.getElem?_eq_getElem (by omega), Option.bind_eq_some_iff] at h1
    obtain ⟨cs', h2, h3⟩ := h1
    unfold World.cells? at h2
    rw [if_pos (Nat.zero_le _)] at h2
    have hl := mapM_some_length h2
    simp only [List.length_range, hc] at hl
    have h4 := mapM_some_get h2 0 0 (by simp [hc, hs])
    rw [List.getElem?_eq_getElem (by omega)] at h4
    simp [Addr.add] at h4
    exact ⟨World.cell?_spot h4, cell_lt h4⟩
  subst hsp
  have hadd : ∀ k, (Addr.mk b off none).add k = ⟨b, off + k, none⟩ := fun k => by
    unfold Addr.add
    split
    · rename_i h; subst h; rfl
    · rfl
  have hadd2 : ∀ o k, (Addr.mk b o none).add k = ⟨b, o + k, none⟩ := fun o k => by
    unfold Addr.add
    split
    · rename_i h; subst h; rfl
    · rfl
  have hone : ∀ i, i < len → ∃ el : List T, S el ∧ el.length = s ∧ (∀ u ∈ el, u.one = true) ∧ ∀ k, k < s → ∃ v, w.cell? ⟨b, off + i * s + k, none⟩ = some v ∧ ∀ u, el[k]? = some u → TR w (Old w) u v := fun i hi => by
    have h1 := hat i hi
    rw [List.getElem?_eq_getElem (by omega), Option.bind_eq_some_iff] at h1
    obtain ⟨cs', h2, h3⟩ := h1
    obtain ⟨el, hS, htr, ho⟩ := he H enc w held n cs' _ h3
    unfold World.cells? at h2
    rw [if_pos (Nat.zero_le _)] at h2
    have hl := mapM_some_length h2
    simp only [List.length_range, hc] at hl
    refine ⟨el, hS, by rw [htr.1, hl], ho, fun k hk => ?_⟩
    have h4 := mapM_some_get h2 k k (by simp [hc, hk])
    rw [List.getElem?_eq_getElem (by omega), hadd, hadd2, hc] at h4
    exact ⟨cs'[k], h4, fun u hu => htr.2 k u _ hu (List.getElem?_eq_getElem (by omega))⟩
  obtain ⟨es, hlen, hes⟩ := list_pick len hone
  have hget : ∀ i (hi : i < es.length), es[i]? = some es[i] := fun i hi => List.getElem?_eq_getElem hi
  refine ⟨[.sl es none none], ⟨es, none, none, rfl, by omega, fun x hx => ?_⟩, ?_, by intro u hu; simp at hu; subst hu; rfl⟩
  · obtain ⟨i, hi, rfl⟩ := List.getElem_of_mem hx
    have := hes i _ (hget i hi)
    exact ⟨this.1, this.2.1⟩
  · rw [← hlen]
    refine TRs.one1 (.sl es none none s b off cap (fun i k => (w.cell? ⟨b, off + i * s + k, none⟩).getD .nilFunc) ?_ ?_ ?_ ?_ hb (by omega) (fun _ h => by cases h) (fun _ h => by cases h))
    · intro i k hi hk
      obtain ⟨v, hv, _⟩ := (hes i _ (hget i hi)).2.2.2 k hk
      simp [hv]
    · intro i el hi
      exact (hes i _ hi).2.1
    · intro i k el u hi hu
      have hq := hes i _ hi
      have hk : k < s := by rw [← hq.2.1]; exact (List.getElem?_eq_some_iff.1 hu).1
      obtain ⟨v, hv, hr⟩ := hq.2.2.2 k hk
      simp only [hv, Option.getD_some]
      exact hr u hu
    · intro i k el u hi hu
      exact (hes i _ hi).2.2.1 u (List.mem_of_getElem? hu)

/-- Parts in a row. -/
def Parts : List (Nat × (List T → Prop)) → List T → Prop
  | [], ts => ts = []
  | (_, S) :: l, ts => ∃ a b, ts = a ++ b ∧ S a ∧ Parts l b

inductive Flds (P : Program) : Nat → List Field → List (Nat × (List T → Prop)) → Prop
  | nil (o : Nat) : Flds P o [] []
  | cons {o n : Nat} {f : Field} {S : List T → Prop} {fl : List Field} {l : List (Nat × (List T → Prop))} (h1 : f.offset = o) (h2 : P.cellsOf f.type = n) (h3 : Rd P f.type S) (h : Flds P (o + n) fl l) : Flds P o (f :: fl) ((n, S) :: l)

def total : List (Nat × (List T → Prop)) → Nat
  | [] => 0
  | (n, _) :: l => n + total l

theorem flds_read {H : Type} {enc : TypeId × Value → H} {w : World} {held : Bool} {m : Nat} {cs : List Value} : ∀ {fl : List Field} {l : List (Nat × (List T → Prop))} {o : Nat}, Flds P o fl l → (∀ f ∈ fl, ∃ x, DataW.trod enc P w 0 (fun _ => true) held m f.type ((cs.drop f.offset).take (P.cellsOf f.type)) = some x) → cs.length = o + total l →
    ∃ ts, Parts l ts ∧ TRs w (Old w) ts (cs.drop o) ∧ ∀ u ∈ ts, u.one = true
  | _, _, o, .nil _, _, hl => ⟨[], rfl, by rw [List.drop_of_length_le (by simp [total] at hl; omega)]; exact TRs.nil w _, by simp⟩
  | _, _, o, .cons (n := n) (f := f) (S := S) (l := l) h1 h2 h3 h, hx, hl => by
    obtain ⟨x, hx0⟩ := hx f List.mem_cons_self
    rw [h1, h2] at hx0
    obtain ⟨a, ha, hta, hoa⟩ := h3 H enc w held m _ _ hx0
    obtain ⟨b, hb, htb, hob⟩ := flds_read h (fun g hg => hx g (List.mem_cons_of_mem _ hg)) (by simp only [total] at hl; omega)
    refine ⟨a ++ b, ⟨a, b, rfl, ha, hb⟩, ?_, fun u hu => ?_⟩
    · have := hta.append htb
      rwa [← List.drop_drop, List.take_append_drop] at this
    · rcases List.mem_append.1 hu with hu | hu
      · exact hoa u hu
      · exact hob u hu

theorem rd_struct {fs : Array Field} {l : List (Nat × (List T → Prop))} (ht : P.underlying t = some (.struct fs)) (hc : P.cellsOf t = total l) (hf : Flds P 0 fs.toList l) : Rd P t (Parts l) := by
  intro H enc w held fuel cs x h
  obtain ⟨xs, m, rfl, rfl, hcl, hn, hat⟩ := DataW.trod_struct ht h
  have := flds_read (enc := enc) (w := w) (held := held) (m := m) (cs := cs) hf (fun f hf' => by
    obtain ⟨i, hi, rfl⟩ := List.getElem_of_mem hf'
    have := hat i fs.toList[i] (by simp at hi; simp [hi])
    rw [List.getElem?_eq_getElem (by simp at hi; omega)] at this
    exact ⟨_, this⟩) (by omega)
  simpa using this

theorem arr_read {H : Type} {enc : TypeId × Value → H} {w : World} {held : Bool} {m s : Nat} {S : List T → Prop} (he : Rd P e S) (hs : P.cellsOf e = s) : ∀ (n : Nat) (cs : List Value), (∀ i, i < n → ∃ x, DataW.trod enc P w 0 (fun _ => true) held m e ((cs.drop (i * s)).take s) = some x) → cs.length = n * s →
    ∃ ts, Parts (List.replicate n (s, S)) ts ∧ TRs w (Old w) ts cs ∧ ∀ u ∈ ts, u.one = true
  | 0, cs, _, hl => ⟨[], rfl, by have h0 : cs = [] := List.eq_nil_of_length_eq_zero (by simpa using hl); rw [h0]; exact TRs.nil w _, by simp⟩
  | n + 1, cs, hx, hl => by
    obtain ⟨x, hx0⟩ := hx 0 (by omega)
    simp only [Nat.zero_mul, List.drop_zero] at hx0
    obtain ⟨a, ha, hta, hoa⟩ := he H enc w held m _ _ hx0
    have hl' : cs.length = n * s + s := by rw [hl, Nat.add_mul, Nat.one_mul]
    obtain ⟨b, hb, htb, hob⟩ := arr_read he hs n (cs.drop s) (fun i hi => by
      obtain ⟨x, hx1⟩ := hx (i + 1) (by omega)
      rw [Nat.add_mul, Nat.one_mul, Nat.add_comm (i * s)] at hx1
      exact ⟨x, by rw [List.drop_drop]; exact hx1⟩) (by simp; omega)
    refine ⟨a ++ b, ⟨a, b, rfl, ha, hb⟩, ?_, fun u hu => ?_⟩
    · have := hta.append htb
      rwa [List.take_append_drop] at this
    · rcases List.mem_append.1 hu with hu | hu
      · exact hoa u hu
      · exact hob u hu

theorem rd_array {n s : Nat} {S : List T → Prop} (ht : P.underlying t = some (.array n e)) (hs : P.cellsOf e = s) (hc : P.cellsOf t = n * s) (he : Rd P e S) : Rd P t (Parts (List.replicate n (s, S))) := by
  intro H enc w held fuel cs x h
  obtain ⟨xs, m, rfl, rfl, hcl, hn, hat⟩ := DataW.trod_array ht h
  refine arr_read (enc := enc) (held := held) (m := m) he hs n cs (fun i hi => ?_) (by omega)
  have := hat i hi
  rw [hs, List.getElem?_eq_getElem (by omega)] at this
  exact ⟨_, this⟩

/-- A struct that is handed over. -/
theorem tr_agg {w : World} {X : Nat → Prop} {ts : List T} {cs : Array Value} (h : TRs w X ts cs.toList) (ho : ∀ u ∈ ts, u.one = true) : TR w X (.agg ts) (.agg cs) := by
  have : cs = cs.toList.toArray := by simp
  rw [this]
  exact .agg ts cs.toList h.1 (fun k u hk => ho u (List.mem_of_getElem? hk)) h.2

/-- A table of pairs of ints. -/
theorem pair_cells {H : Type} {enc : TypeId × Value → H} {w : World} {base : Nat} {sp : Nat → Bool} {held : Bool} {fuel : Nat} {n : Nat} {q : TypeId} {k : IntKind} {cs : List Value} {l : List (Int × Int)} {p : List MemPlace}
    (ht : P.underlying t = some (.array n e)) (he : P.underlying e = some (.array 2 q)) (hq : P.underlying q = some (.int k)) (hcq : P.cellsOf q = 1) (hce : P.cellsOf e = 2) (hct : P.cellsOf t = n * 2)
    (h : DataW.trod enc P w base sp held fuel t cs = some (.agg (l.map fun x => .agg [.lit (.int k x.1), .lit (.int k x.2)]), p)) : cs = l.flatMap fun x => [.int k x.1, .int k x.2] := by
  obtain ⟨xs, m, rfl, hx, hcl, hn, hat⟩ := DataW.trod_array ht h
  simp only [Prod.mk.injEq, DataW.agg.injEq] at hx
  have hxs := hx.1
  have hl : l.length = n := by have := congrArg List.length hxs; simp at this; omega
  have hi : ∀ i (h : i < l.length), (cs.drop (i * 2)).take 2 = [.int k l[i].1, .int k l[i].2] := fun i hi => by
    have h1 := hat i (by omega)
    rw [hce, List.getElem?_eq_getElem (by omega)] at h1
    have h2 : xs[i].1 = .agg [.lit (.int k l[i].1), .lit (.int k l[i].2)] := by
      have := congrArg (fun z => z[i]?) hxs
      simp only [List.getElem?_map, List.getElem?_eq_getElem hi, List.getElem?_eq_getElem (show i < xs.length by omega), Option.map_some, Option.some.injEq] at this
      exact this.symm
    have h3 : xs[i] = (.agg [.lit (.int k l[i].1), .lit (.int k l[i].2)], xs[i].2) := by rw [← h2]
    rw [h3] at h1
    exact Lib.cells_of_tab (zs := [l[i].1, l[i].2]) he hq hcq hce h1
  have hcl' : cs.length = l.length * 2 := by omega
  clear h hat hx hxs hcl hn hct ht hl
  induction l generalizing cs with
  | nil => exact List.eq_nil_of_length_eq_zero (by simpa using hcl')
  | cons x l ih =>
    have h0 := hi 0 (by simp)
    simp only [Nat.zero_mul, List.drop_zero, List.getElem_cons_zero] at h0
    have hr := ih (cs := cs.drop 2) (fun i h => by
      have := hi (i + 1) (by simpa using h)
      rw [Nat.add_mul, Nat.one_mul, Nat.add_comm (i * 2)] at this
      simpa [List.drop_drop] using this) (by simp at hcl' ⊢; omega)
    rw [List.flatMap_cons, ← h0, ← hr, List.take_append_drop]

theorem trodAll_below {H : Type} {enc : TypeId × Value → H} {W W' : World} (hl : laidOutB P = true) (hb : Below W.heap.size W W') : ∀ {ts : List TypeId} {vs : List Value} {ds : List (DataW H)} {p : List MemPlace}, (∀ t ∈ ts, P.readableRec t = true ∧ t < P.types.size) → DataW.TrodAll enc P W 0 (fun _ => true) true ts vs ds p → (∀ x ∈ p, x.block < W.heap.size) → DataW.TrodAll enc P W' 0 (fun b => decide (b < W.heap.size)) true ts vs ds p
  | [], [], [], _, _, h, _ => h
  | [], [], _ :: _, _, _, h, _ => h.elim
  | [], _ :: _, _, _, _, h, _ => by cases h
  | _ :: _, [], _, _, _, h, _ => by cases h
  | _ :: _, _ :: _, [], _, _, h, _ => by cases h
  | t :: ts, v :: vs, d :: ds, _, hr, h, hlt => by
    obtain ⟨p1, q1, h1, h2, rfl⟩ := h
    have hr0 := hr t List.mem_cons_self
    exact ⟨p1, q1, Below.trod hl hr0.1 hr0.2 h1 hb (fun x hx => hlt x (List.mem_append_left _ hx)), trodAll_below hl hb (fun t' ht => hr t' (List.mem_cons_of_mem _ ht)) h2 (fun x hx => hlt x (List.mem_append_right _ hx)), rfl⟩

/-- A law's end: nothing old has changed, the answer is true. -/
theorem law_post {H : Type} {enc : TypeId × Value → H} {f : Func} {s : ChangeSpec} {W W' : World} {args : Array Value} {ds gs : List (DataW H)} {before : List MemPlace} {tb : TypeId}
    (hl : laidOutB P = true) (hr : ∀ t ∈ f.params.toList, P.readableRec t = true ∧ t < P.types.size) (hv : s.vars = []) (hres : f.resultTypes = #[tb]) (htb : P.underlying tb = some .bool)
    (hW : DataW.Whole enc P f.params.toList s.vars false W args.toList ds gs before) (hfn : (s.fn H (ds ++ gs)).results = [.lit (.bool true)]) (hfa : (s.fn H (ds ++ gs)).args = ds) (hfv : (s.fn H (ds ++ gs)).vars = []) (hb : Below W.heap.size W W') :
    s.post enc P f false true false false W args (.bool true) W' := by
  have hW' := hW
  obtain ⟨p, q, hA, hV, rfl, _, _⟩ := hW
  have hlt : ∀ x ∈ p ++ q, x.block < W.heap.size := fun x hx => by simpa using hW'.lt x hx
  have hargs := trodAll_below hl hb hr hA (fun x hx => hlt x (List.mem_append_left _ hx))
  rw [hv] at hV
  obtain ⟨rfl, rfl⟩ := ChangeShapes.trodVars_none hV
  refine ⟨ds, [], p ++ [], [], p, [], hW', ?_, ?_, ?_, hb.frame _, fun h => by cases h⟩
  · rw [hfn, hres]
    exact ChangeShapes.trodAll_mk1 (RowKit.shut_bool htb _)
  · rw [hfa]; exact hargs
  · rw [hv, hfv]; rfl

/-- .. and from the logic's contract to the call. -/
theorem law_calls {Γ : Tables} {f : FuncId} {N n : Nat} {ic : IC} {rvs : List RV} {args : List T} {W : World} {vs : List Value} (hc : chkF P f ic N n rvs = true) (h : PureCalls P Γ f args (.v (.bool true))) (hg : Gl Γ W (Old W)) (ha : TRs W (Old W) args vs) :
    Calls P f vs.toArray W fun e W' => e = .returned (.bool true) ∧ Below W.heap.size W W' := by
  rcases h W (Old W) vs hg (fun b hb => hb) ha with ⟨_, h2⟩ | ⟨v, h1, _⟩
  · refine h2.mono fun e W' ⟨v, he, hb, hr⟩ => ?_
    cases hr
    exact ⟨he, hb⟩
  · rw [chkF_run hc] at h1
    cases h1
end Go.Lg
