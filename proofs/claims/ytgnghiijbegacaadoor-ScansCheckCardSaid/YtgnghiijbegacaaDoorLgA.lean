/- THE LOGIC, part 1: trees (immutable data as the program's values read), and their relation to the values of a world. Conditions: none. -/
import Derived.Tactics2
import Derived.Below
namespace Go.Lg
open Go

/-- An immutable datum: a value that leads to no memory, a slice, a struct, a tuple, a pointer into an immutable variable, a function with captured data, a map. -/
inductive T where
  | v (x : Value)
  | sl (es : List (List T)) (cap : Option Nat) (nl : Option Bool)
  | agg (cs : List T)
  | tup (vs : List T)
  | ip (cs : List T) (k : Nat)
  | fn (f : FuncId) (cs : List T)
  | mp (es : List (Value × T))

def T.one : T → Bool
  | .v x => x.oneCell'
  | .agg _ | .tup _ => false
  | _ => true

/-- The tree reads as the value, in the world, where every block that it reaches lies in X. -/
inductive TR (w : World) (X : Nat → Prop) : T → Value → Prop
  | v (x : Value) : TR w X (.v x) x
  | nil (cap : Option Nat) (nl : Option Bool) (a : Option Addr) (c : Nat) (hc : ∀ n, cap = some n → c = n) (hn : ∀ b, nl = some b → a.isNone = b) (hz : a = none → c = 0) : TR w X (.sl [] cap nl) (.slice a 0 c)
  | sl (es : List (List T)) (cap : Option Nat) (nl : Option Bool) (s b off c : Nat) (f : Nat → Nat → Value)
      (hcell : ∀ i k, i < es.length → k < s → w.cell? ⟨b, off + i * s + k, none⟩ = some (f i k))
      (hlen : ∀ (i : Nat) (e : List T), es[i]? = some e → e.length = s)
      (hrel : ∀ (i k : Nat) (e : List T) (t : T), es[i]? = some e → e[k]? = some t → TR w X t (f i k))
      (hone : ∀ (i k : Nat) (e : List T) (t : T), es[i]? = some e → e[k]? = some t → t.one = true)
      (hx : X b) (hle : es.length ≤ c) (hc : ∀ n, cap = some n → c = n) (hn : ∀ q, nl = some q → q = false) : TR w X (.sl es cap nl) (.slice (some ⟨b, off, none⟩) es.length c)
  | agg (cs : List T) (xs : List Value) (hlen : cs.length = xs.length) (hone : ∀ (k : Nat) (t : T), cs[k]? = some t → t.one = true) (hrel : ∀ (k : Nat) (t : T) (x : Value), cs[k]? = some t → xs[k]? = some x → TR w X t x) : TR w X (.agg cs) (.agg xs.toArray)
  | tup (cs : List T) (xs : List Value) (hlen : cs.length = xs.length) (hrel : ∀ (k : Nat) (t : T) (x : Value), cs[k]? = some t → xs[k]? = some x → TR w X t x) : TR w X (.tup cs) (.tuple xs.toArray)
  | ip (cs : List T) (k b off : Nat) (f : Nat → Value) (hcell : ∀ j, j < cs.length → w.cell? ⟨b, off + j, none⟩ = some (f j)) (hrel : ∀ (j : Nat) (t : T), cs[j]? = some t → TR w X t (f j))
      (hone : ∀ (j : Nat) (t : T), cs[j]? = some t → t.one = true) (hx : X b) : TR w X (.ip cs k) (.pointer (some ⟨b, off + k, none⟩))
  | fn (f : FuncId) (cs : List T) (xs : List Value) (hlen : cs.length = xs.length) (hrel : ∀ (k : Nat) (t : T) (x : Value), cs[k]? = some t → xs[k]? = some x → TR w X t x) : TR w X (.fn f cs) (.func (.func f) #[] xs.toArray)
  | mpnil : TR w X (.mp []) (.map none)
  | mp (es : List (Value × T)) (r clock : Nat) (ms : List MapEntry) (hheap : w.heap[r]? = some (.map ms.toArray clock)) (hx : X r) (hlen : es.length = ms.length)
      (hkey : ∀ (i : Nat) (e : Value × T) (m : MapEntry), es[i]? = some e → ms[i]? = some m → m.key = e.1)
      (hrel : ∀ (i : Nat) (e : Value × T) (m : MapEntry), es[i]? = some e → ms[i]? = some m → TR w X e.2 m.val) : TR w X (.mp es) (.map (some r))

/-- Blocks of X hold what they held. -/
def Same (X : Nat → Prop) (w w' : World) : Prop := ∀ b, X b → w'.heap[b]? = w.heap[b]?

theorem Same.cell {X : Nat → Prop} {w w' : World} (h : Same X w w') {b o : Nat} (hb : X b) : w'.cell? ⟨b, o, none⟩ = w.cell? ⟨b, o, none⟩ := World.cell?_of_block (w := w) (h b hb)

theorem TR.mono {w w' : World} {X Y : Nat → Prop} (hs : Same X w w') (hxy : ∀ b, X b → Y b) {t : T} {x : Value} (h : TR w X t x) : TR w' Y t x := by
  induction h with
  | v x => exact .v x
  | nil cap nl a c hc hn hz => exact .nil cap nl a c hc hn hz
  | sl es cap nl s b off c f hcell hlen hrel hone hx hle hc hn ih => exact .sl es cap nl s b off c f (fun i k hi hk => (hs.cell hx).trans (hcell i k hi hk)) hlen ih hone (hxy b hx) hle hc hn
  | agg cs xs hlen hone hrel ih => exact .agg cs xs hlen hone ih
  | tup cs xs hlen hrel ih => exact .tup cs xs hlen ih
  | ip cs k b off f hcell hrel hone hx ih => exact .ip cs k b off f (fun j hj => (hs.cell hx).trans (hcell j hj)) ih hone (hxy b hx)
  | fn f cs xs hlen hrel ih => exact .fn f cs xs hlen ih
  | mpnil => exact .mpnil
  | mp es r clock ms hheap hx hlen hkey hrel ih => exact .mp es r clock ms ((hs r hx).trans hheap) (hxy r hx) hlen hkey ih

/-- A list of trees against a list of values. -/
def TRs (w : World) (X : Nat → Prop) (cs : List T) (xs : List Value) : Prop := cs.length = xs.length ∧ ∀ (k : Nat) (t : T) (x : Value), cs[k]? = some t → xs[k]? = some x → TR w X t x

theorem TRs.mono {w w' : World} {X Y : Nat → Prop} (hs : Same X w w') (hxy : ∀ b, X b → Y b) {cs : List T} {xs : List Value} (h : TRs w X cs xs) : TRs w' Y cs xs :=
  ⟨h.1, fun k t x ht hx => (h.2 k t x ht hx).mono hs hxy⟩

theorem TRs.nil (w : World) (X : Nat → Prop) : TRs w X [] [] := ⟨rfl, fun k t x h => by simp at h⟩
theorem TRs.cons {w : World} {X : Nat → Prop} {t : T} {x : Value} {cs : List T} {xs : List Value} (h : TR w X t x) (hs : TRs w X cs xs) : TRs w X (t :: cs) (x :: xs) :=
  ⟨by simp [hs.1], fun k t' x' ht hx => by
    cases k with
    | zero => simp at ht hx; subst ht; subst hx; exact h
    | succ k => simp at ht hx; exact hs.2 k t' x' ht hx⟩
theorem TRs.cons_inv {w : World} {X : Nat → Prop} {t : T} {cs : List T} {xs : List Value} (h : TRs w X (t :: cs) xs) : ∃ x ys, xs = x :: ys ∧ TR w X t x ∧ TRs w X cs ys := by
  cases xs with
  | nil => exact absurd h.1 (by simp)
  | cons x ys => exact ⟨x, ys, rfl, h.2 0 t x rfl rfl, by have := h.1; simpa using this, fun k t' x' ht hx => h.2 (k + 1) t' x' (by simpa using ht) (by simpa using hx)⟩
theorem TRs.nil_inv {w : World} {X : Nat → Prop} {xs : List Value} (h : TRs w X [] xs) : xs = [] := List.eq_nil_of_length_eq_zero h.1.symm
theorem TRs.get {w : World} {X : Nat → Prop} {cs : List T} {xs : List Value} (h : TRs w X cs xs) {k : Nat} {t : T} (ht : cs[k]? = some t) : ∃ x, xs[k]? = some x ∧ TR w X t x := by
  have hk : k < xs.length := by rw [← h.1]; exact (List.getElem?_eq_some_iff.1 ht).1
  exact ⟨xs[k], by simp [hk], h.2 k t _ ht (by simp [hk])⟩
theorem TRs.drop {w : World} {X : Nat → Prop} {cs : List T} {xs : List Value} (h : TRs w X cs xs) (n : Nat) : TRs w X (cs.drop n) (xs.drop n) :=
  ⟨by simp [h.1], fun k t x ht hx => h.2 (n + k) t x (by simpa using ht) (by simpa using hx)⟩
theorem TRs.take {w : World} {X : Nat → Prop} {cs : List T} {xs : List Value} (h : TRs w X cs xs) (n : Nat) : TRs w X (cs.take n) (xs.take n) := by
  refine ⟨by simp [h.1], fun k t x ht hx => ?_⟩
  rw [List.getElem?_take] at ht hx
  split at ht
  · rename_i hk; rw [if_pos hk] at hx; exact h.2 k t x ht hx
  · cases ht
theorem TRs.append {w : World} {X : Nat → Prop} {cs ds : List T} {xs ys : List Value} (h : TRs w X cs xs) (g : TRs w X ds ys) : TRs w X (cs ++ ds) (xs ++ ys) := by
  induction cs generalizing xs with
  | nil => rw [h.nil_inv]; simpa using g
  | cons t cs ih =>
    obtain ⟨x, zs, rfl, hx, hz⟩ := h.cons_inv
    exact TRs.cons hx (ih hz)

theorem TR.one {w : World} {X : Nat → Prop} {t : T} {x : Value} (h : TR w X t x) (h1 : t.one = true) : x.oneCell' = true := by
  cases h <;> first | exact h1 | rfl | simp [T.one] at h1

end Go.Lg

/- THE LOGIC, part 2: abstract states (slots and local regions of memory) and their relation to a frame's temporaries and a world. Conditions: none. -/
namespace Go.Lg
open Go

/-- What a slot holds: a tree, or something that leads to a region of the function's own memory. -/
inductive AV where
  | t (x : T)
  | ls (id off len : Nat) (cap : Option Nat)
  | lp (id i k : Nat)
  | ag (cs : List AV)
  | fn (f : FuncId) (cs : List AV)
  | lm (id : Nat)
  | lb (id m : Nat)
  | li (id : Nat)
  | dead
  | un

/-- One cell holds it. -/
def AV.one : AV → Bool
  | .t x => x.one
  | .ag _ | .un => false
  | _ => true

/-- A region of the function's own memory: the elements of a slice (each 's' cells), one variable, a map. -/
inductive Reg where
  | sl (ty s : Nat) (es : List (List T))
  | bx (cs : List AV)
  | mp (es : List (Value × T))
  | it (s : ByteArray) (pos : Nat)

/-- The make of a region, without its contents. -/
inductive Sh where
  | sl (s n : Nat)
  | bx
  | mp
  | it

def Reg.sh : Reg → Sh
  | .sl _ s es => .sl s es.length
  | .bx _ => .bx
  | .mp _ => .mp
  | .it _ _ => .it

def look {α : Type} : List (Nat × α) → Nat → Option α
  | [], _ => none
  | (k, v) :: e, t => if k = t then some v else look e t

theorem look_map {α β : Type} (f : α → β) (l : List (Nat × α)) (t : Nat) : look (l.map fun p => (p.1, f p.2)) t = (look l t).map f := by
  induction l with
  | nil => rfl
  | cons p l ih =>
    simp only [List.map_cons, look]
    split
    · rfl
    · exact ih

/-- The entries of the given keys alone. -/
def keep {α : Type} (ks : List Nat) (l : List (Nat × α)) : List (Nat × α) := ks.filterMap fun k => (look l k).map fun v => (k, v)

theorem look_keep {α : Type} (ks : List Nat) (l : List (Nat × α)) (t : Nat) (a : α) (h : look (keep ks l) t = some a) : look l t = some a ∧ t ∈ ks := by
  induction ks with
  | nil => simp [keep, look] at h
  | cons k ks ih =>
    unfold keep at h ih
    rw [List.filterMap_cons] at h
    cases hk : look l k with
    | none =>
      rw [hk] at h
      have := ih h
      exact ⟨this.1, List.mem_cons_of_mem _ this.2⟩
    | some v =>
      rw [hk] at h
      simp only [Option.map_some, look] at h
      split at h
      · rename_i hkt; subst hkt; simp only [Option.some.injEq] at h; subst h; exact ⟨hk, List.mem_cons_self⟩
      · have := ih h
        exact ⟨this.1, List.mem_cons_of_mem _ this.2⟩

def del {α : Type} (k : Nat) (l : List (Nat × α)) : List (Nat × α) := l.filter fun p => p.1 != k

theorem look_del {α : Type} (k : Nat) (l : List (Nat × α)) (t : Nat) : look (del k l) t = if t = k then none else look l t := by
  induction l with
  | nil => simp [del, look]
  | cons p l ih =>
    unfold del at ih ⊢
    rw [List.filter_cons]
    by_cases hp : p.1 = k
    · simp only [hp, bne_self_eq_false, Bool.false_eq_true, ↓reduceIte, ih]
      by_cases ht : t = k
      · simp [ht]
      · have : ¬ p.1 = t := fun e => ht (e.symm.trans hp)
        simp [ht, look, this]
    · have hpk : (p.1 != k) = true := by simp [hp]
      simp only [hpk, ↓reduceIte, look, ih]
      by_cases hpt : p.1 = t
      · have : ¬ t = k := fun e => hp (hpt.trans e)
        simp [hpt, this]
      · simp [hpt]

structure St where
  env : List (Nat × AV)
  hp : List (Nat × Reg)

/-- Where a region lies: its block, and how many cells that block has. -/
abbrev Loc := Nat → Option (Nat × Nat)

/-- What a slot holds against a value. 'sh' gives the make of each region. -/
inductive AR (w : World) (X : Nat → Prop) (μ : Loc) (sh : Nat → Option Sh) : AV → Value → Prop
  | t (x : T) (v : Value) (h : TR w X x v) : AR w X μ sh (.t x) v
  | lsnil (id s n : Nat) (hs : sh id = some (.sl s n)) (hm : μ id = none) (a : Option Addr) (cap : Option Nat) (hc : ∀ q, cap = some q → q = 0) : AR w X μ sh (.ls id 0 0 cap) (.slice a 0 0)
  | ls (id off len s n g m c : Nat) (cap : Option Nat) (hs : sh id = some (.sl s n)) (hm : μ id = some (g, m)) (hle : off + len ≤ n) (hlc : len ≤ c) (hcm : c ≤ maxLen) (hfit : (off + c) * s ≤ m)
      (hfull : cap = none → (off + c) * s = m) (hc : ∀ q, cap = some q → c = q) (a : Addr) (ha : c ≠ 0 ∨ off = 0 → a = ⟨g, off * s, none⟩) : AR w X μ sh (.ls id off len cap) (.slice (some a) len c)
  | lpsl (id i k s n g m : Nat) (hs : sh id = some (.sl s n)) (hm : μ id = some (g, m)) : AR w X μ sh (.lp id i k) (.pointer (some ⟨g, i * s + k, none⟩))
  | lpbx (id k g m : Nat) (hs : sh id = some .bx) (hm : μ id = some (g, m)) : AR w X μ sh (.lp id 0 k) (.pointer (some ⟨g, k, none⟩))
  | ag (cs : List AV) (xs : List Value) (hlen : cs.length = xs.length) (hone : ∀ (k : Nat) (a : AV), cs[k]? = some a → a.one = true) (hrel : ∀ (k : Nat) (a : AV) (x : Value), cs[k]? = some a → xs[k]? = some x → AR w X μ sh a x) : AR w X μ sh (.ag cs) (.agg xs.toArray)
  | fn (f : FuncId) (cs : List AV) (xs : List Value) (hlen : cs.length = xs.length) (hrel : ∀ (k : Nat) (a : AV) (x : Value), cs[k]? = some a → xs[k]? = some x → AR w X μ sh a x) : AR w X μ sh (.fn f cs) (.func (.func f) #[] xs.toArray)
  | lm (id g m : Nat) (hs : sh id = some .mp) (hm : μ id = some (g, m)) : AR w X μ sh (.lm id) (.map (some g))
  | lb (id g m : Nat) (hs : sh id = some .bx) (hm : μ id = some (g, m)) (hle : m ≤ maxLen) : AR w X μ sh (.lb id m) (.slice (some ⟨g, 0, none⟩) m m)
  | li (id g m : Nat) (hs : sh id = some .it) (hm : μ id = some (g, m)) : AR w X μ sh (.li id) (.pointer (some ⟨g, 0, none⟩))
  | dead (v : Value) (h : v.oneCell' = true) : AR w X μ sh .dead v
  | un : AR w X μ sh .un undef

theorem AR.mono {w w' : World} {X Y : Nat → Prop} {μ μ' : Loc} {sh sh' : Nat → Option Sh} (hs : Same X w w') (hxy : ∀ b, X b → Y b)
    (hsh : ∀ id q, sh id = some q → sh' id = some q ∧ μ' id = μ id) {a : AV} {x : Value} (h : AR w X μ sh a x) : AR w' Y μ' sh' a x := by
  induction h with
  | t x v h => exact .t x v (h.mono hs hxy)
  | lsnil id s n h hm a cap hc => exact .lsnil id s n (hsh _ _ h).1 ((hsh _ _ h).2.trans hm) a cap hc
  | ls id off len s n g m c cap h hm hle hlc hcm hfit hfull hc a ha => exact .ls id off len s n g m c cap (hsh _ _ h).1 ((hsh _ _ h).2.trans hm) hle hlc hcm hfit hfull hc a ha
  | lpsl id i k s n g m h hm => exact .lpsl id i k s n g m (hsh _ _ h).1 ((hsh _ _ h).2.trans hm)
  | lpbx id k g m h hm => exact .lpbx id k g m (hsh _ _ h).1 ((hsh _ _ h).2.trans hm)
  | ag cs xs hlen hone hrel ih => exact .ag cs xs hlen hone ih
  | fn f cs xs hlen hrel ih => exact .fn f cs xs hlen ih
  | lm id g m h hm => exact .lm id g m (hsh _ _ h).1 ((hsh _ _ h).2.trans hm)
  | lb id g m h hm hle => exact .lb id g m (hsh _ _ h).1 ((hsh _ _ h).2.trans hm) hle
  | li id g m h hm => exact .li id g m (hsh _ _ h).1 ((hsh _ _ h).2.trans hm)
  | dead v h => exact .dead v h
  | un => exact .un

theorem AR.one {w : World} {X : Nat → Prop} {μ : Loc} {sh : Nat → Option Sh} {a : AV} {x : Value} (h : AR w X μ sh a x) (h1 : a.one = true) : x.oneCell' = true := by
  cases h with
  | t x v h => exact h.one h1
  | dead v h => exact h
  | ag => simp [AV.one] at h1
  | un => simp [AV.one] at h1
  | _ => rfl

/-- The region against the memory. -/
def RegOk (w : World) (X : Nat → Prop) (μ : Loc) (sh : Nat → Option Sh) (id : Nat) : Reg → Prop
  | .sl ty s es => (∀ (i : Nat) (e : List T), es[i]? = some e → e.length = s ∧ ∀ (k : Nat) (t : T), e[k]? = some t → t.one = true) ∧
      ((es = [] ∧ μ id = none) ∨ ∃ g arr, μ id = some (g, arr.size) ∧ w.heap[g]? = some (.cells arr ty (0, 0)) ∧ es.length * s ≤ arr.size ∧
        ∀ (i k : Nat) (e : List T) (t : T) (x : Value), es[i]? = some e → e[k]? = some t → arr[i * s + k]? = some x → TR w X t x)
  | .bx cs => (∀ (k : Nat) (a : AV), cs[k]? = some a → a.one = true) ∧ ∃ g arr ty, μ id = some (g, arr.size) ∧ w.heap[g]? = some (.cells arr ty (0, 0)) ∧ cs.length = arr.size ∧
        ∀ (k : Nat) (a : AV) (x : Value), cs[k]? = some a → arr[k]? = some x → AR w X μ sh a x
  | .mp es => ∃ (g n clock : Nat) (ms : List MapEntry), μ id = some (g, n) ∧ w.heap[g]? = some (.map ms.toArray clock) ∧ es.length = ms.length ∧
        ∀ (i : Nat) (e : Value × T) (m : MapEntry), es[i]? = some e → ms[i]? = some m → m.key = e.1 ∧ TR w X e.2 m.val
  | .it s pos => ∃ g n, μ id = some (g, n) ∧ w.heap[g]? = some (.stringIter s pos)

def St.sh (st : St) (id : Nat) : Option Sh := (look st.hp id).map Reg.sh

/-- The function's state, related. 'κ': where the regions lie that came in (their numbers are great ones, which no slot has). -/
structure Sim (w0 : World) (B : Nat) (κ : Loc) (X : Nat → Prop) (μ : Loc) (st : St) (tm : Array Value) (w : World) : Prop where
  env : ∀ t a, look st.env t = some a → AR w X μ st.sh a (tm.getD t undef)
  reg : ∀ id r, look st.hp id = some r → RegOk w X μ st.sh id r
  inj : ∀ id id' g n n', st.sh id ≠ none → st.sh id' ≠ none → μ id = some (g, n) → μ id' = some (g, n') → id = id'
  loc : ∀ id g n, st.sh id ≠ none → μ id = some (g, n) → ¬ X g ∧ g < w.heap.size ∧ (g < B → ∃ id' n', κ id' = some (g, n'))
  kap : ∀ id, 1000000 ≤ id → st.sh id ≠ none → μ id = κ id
  kbig : ∀ id l, κ id = some l → 1000000 ≤ id
  xlt : ∀ b, X b → b < w.heap.size
  os : w.os = w0.os
  tape : w.tape = w0.tape
  output : w.output = w0.output
  size : B ≤ w.heap.size
  fr : ∀ k, k < B → (∀ id n, κ id ≠ some (k, n)) → w.heap[k]? = w0.heap[k]?

theorem RegOk.mono {w w' : World} {X Y : Nat → Prop} {μ μ' : Loc} {sh sh' : Nat → Option Sh} {id : Nat} {r : Reg} (hs : Same X w w') (hxy : ∀ b, X b → Y b)
    (hsh : ∀ id q, sh id = some q → sh' id = some q ∧ μ' id = μ id) (hid : μ' id = μ id) (hb : ∀ g n, μ id = some (g, n) → w'.heap[g]? = w.heap[g]?) (h : RegOk w X μ sh id r) : RegOk w' Y μ' sh' id r := by
  cases r with
  | sl ty s es =>
    obtain ⟨hl, h⟩ := h
    refine ⟨hl, ?_⟩
    rcases h with ⟨he, hm⟩ | ⟨g, arr, hm, hg, hle, hr⟩
    · exact .inl ⟨he, hid.trans hm⟩
    · exact .inr ⟨g, arr, hid.trans hm, (hb g _ hm).trans hg, hle, fun i k e t x h1 h2 h3 => (hr i k e t x h1 h2 h3).mono hs hxy⟩
  | bx cs =>
    obtain ⟨h1, g, arr, ty, hm, hg, hle, hr⟩ := h
    exact ⟨h1, g, arr, ty, hid.trans hm, (hb g _ hm).trans hg, hle, fun k a x h1 h2 => (hr k a x h1 h2).mono hs hxy hsh⟩
  | mp es =>
    obtain ⟨g, n, clock, ms, hm, hg, hle, hr⟩ := h
    exact ⟨g, n, clock, ms, hid.trans hm, (hb g _ hm).trans hg, hle, fun i e m h1 h2 => ⟨(hr i e m h1 h2).1, (hr i e m h1 h2).2.mono hs hxy⟩⟩
  | it s pos =>
    obtain ⟨g, n, hm, hg⟩ := h
    exact ⟨g, n, hid.trans hm, (hb g _ hm).trans hg⟩

theorem St.sh_none {st : St} {id : Nat} : st.sh id = none ↔ look st.hp id = none := by
  unfold St.sh; cases look st.hp id <;> simp

/-- New blocks, of which some may count as immutable from now on. -/
theorem Sim.grow {w0 : World} {B : Nat} {κ : Loc} {X X' : Nat → Prop} {μ : Loc} {st : St} {tm : Array Value} {w w' : World} (h : Sim w0 B κ X μ st tm w)
    (hb : RowKit.Below w.heap.size w w') (hX : ∀ b, X b → X' b) (hX' : ∀ b, X' b → X b ∨ (w.heap.size ≤ b ∧ b < w'.heap.size)) : Sim w0 B κ X' μ st tm w' := by
  have hs : Same X w w' := fun b hx => hb.block b (h.xlt b hx)
  refine ⟨fun t a ht => (h.env t a ht).mono hs hX (fun id q hq => ⟨hq, rfl⟩), fun id r hr => (h.reg id r hr).mono hs hX (fun id q hq => ⟨hq, rfl⟩) rfl ?_, h.inj, ?_, h.kap, h.kbig, ?_,
    hb.os.trans h.os, hb.tape.trans h.tape, hb.output.trans h.output, Nat.le_trans h.size hb.size, fun k hk hn => (hb.block k (Nat.lt_of_lt_of_le hk h.size)).trans (h.fr k hk hn)⟩
  · intro g n hm
    exact hb.block g (h.loc id g n (by simp [St.sh, hr]) hm).2.1
  · intro id g n hi hm
    obtain ⟨h1, h2, h3⟩ := h.loc id g n hi hm
    refine ⟨fun hx => ?_, Nat.lt_of_lt_of_le h2 hb.size, h3⟩
    rcases hX' g hx with hx | hx
    · exact h1 hx
    · omega
  · intro b hx
    rcases hX' b hx with hx | hx
    · exact Nat.lt_of_lt_of_le (h.xlt b hx) hb.size
    · exact hx.2

def Loc.set (μ : Loc) (d : Nat) (l : Option (Nat × Nat)) : Loc := fun id => if id = d then l else μ id

/-- A new region. -/
theorem Sim.addReg {w0 : World} {B : Nat} {κ : Loc} {X : Nat → Prop} {μ : Loc} {st : St} {tm : Array Value} {w : World} (h : Sim w0 B κ X μ st tm w) {d : Nat} (hd : look st.hp d = none) (hbig : d < 1000000)
    (r : Reg) (l : Option (Nat × Nat)) (hl : ∀ g n, l = some (g, n) → ¬ X g ∧ g < w.heap.size ∧ (g < B → ∃ id' n', κ id' = some (g, n')) ∧ ∀ id n', st.sh id ≠ none → μ id ≠ some (g, n'))
    (hr : RegOk w X (μ.set d l) (St.sh ⟨st.env, (d, r) :: st.hp⟩) d r) : Sim w0 B κ X (μ.set d l) ⟨st.env, (d, r) :: st.hp⟩ tm w := by
  have hsd : st.sh d = none := St.sh_none.2 hd
  have hsh : ∀ id q, st.sh id = some q → St.sh ⟨st.env, (d, r) :: st.hp⟩ id = some q ∧ μ.set d l id = μ id := by
    intro id q hq
    have hne : id ≠ d := by intro e; subst e; rw [hsd] at hq; cases hq
    refine ⟨?_, by simp [Loc.set, hne]⟩
    simpa [St.sh, look, Ne.symm hne] using hq
  have hinv : ∀ id, St.sh ⟨st.env, (d, r) :: st.hp⟩ id ≠ none → id = d ∨ (id ≠ d ∧ st.sh id ≠ none) := by
    intro id hi
    by_cases e : id = d
    · exact .inl e
    · refine .inr ⟨e, ?_⟩
      simpa [St.sh, look, Ne.symm e] using hi
  refine ⟨fun t a ht => (h.env t a ht).mono (fun _ _ => rfl) (fun _ hx => hx) hsh, ?_, ?_, ?_, ?_, h.kbig, h.xlt, h.os, h.tape, h.output, h.size, h.fr⟩
  · intro id r' hr'
    simp only [look] at hr'
    split at hr'
    · rename_i e; subst e; simp only [Option.some.injEq] at hr'; subst hr'; exact hr
    · rename_i hne
      have : μ.set d l id = μ id := by simp [Loc.set, Ne.symm hne]
      exact (h.reg id r' hr').mono (fun _ _ => rfl) (fun _ hx => hx) hsh this (fun _ _ _ => rfl)
  · intro id id' g n n' hi hi' hm hm'
    rcases hinv id hi with e | ⟨e, e'⟩ <;> rcases hinv id' hi' with f | ⟨f, f'⟩
    · rw [e, f]
    · subst e
      simp only [Loc.set, ↓reduceIte, f] at hm hm'
      exact absurd hm' ((hl g n hm).2.2.2 id' n' f')
    · subst f
      simp only [Loc.set, ↓reduceIte, e] at hm hm'
      exact absurd hm ((hl g n' hm').2.2.2 id n e')
    · simp only [Loc.set, e, f, ↓reduceIte] at hm hm'
      exact h.inj id id' g n n' e' f' hm hm'
  · intro id g n hi hm
    rcases hinv id hi with e | ⟨e, e'⟩
    · subst e
      simp only [Loc.set, ↓reduceIte] at hm
      obtain ⟨h1, h2, h3, _⟩ := hl g n hm
      exact ⟨h1, h2, h3⟩
    · simp only [Loc.set, e, ↓reduceIte] at hm
      exact h.loc id g n e' hm
  · intro id hk hi
    have e : id ≠ d := by omega
    rcases hinv id hi with f | ⟨_, e'⟩
    · exact absurd f e
    · simp only [Loc.set, e, ↓reduceIte]; exact h.kap id hk e'

/-- A slot is written. -/
theorem Sim.put {w0 : World} {B : Nat} {κ : Loc} {X : Nat → Prop} {μ : Loc} {st : St} {tm : Array Value} {w : World} (h : Sim w0 B κ X μ st tm w) {d : Nat} (hd : d < tm.size) {a : AV} {v : Value}
    (ha : AR w X μ st.sh a v) : Sim w0 B κ X μ ⟨(d, a) :: st.env, st.hp⟩ (tm.setIfInBounds d v) w := by
  refine ⟨?_, h.reg, h.inj, h.loc, h.kap, h.kbig, h.xlt, h.os, h.tape, h.output, h.size, h.fr⟩
  intro t b ht
  simp only [look] at ht
  split at ht
  · rename_i e; subst e; simp only [Option.some.injEq] at ht; subst ht
    show AR w X μ st.sh a _
    simpa [Array.getD, hd] using ha
  · rename_i e
    have := h.env t b ht
    show AR w X μ st.sh b _
    simpa [Array.getD_eq_getD_getElem?, Array.getElem?_setIfInBounds, e] using this

/-- Slots and regions are let go. -/
theorem Sim.sub {w0 : World} {B : Nat} {κ : Loc} {X : Nat → Prop} {μ : Loc} {st : St} {tm : Array Value} {w : World} (h : Sim w0 B κ X μ st tm w) (env' : List (Nat × AV))
    (he : ∀ t a, look env' t = some a → look st.env t = some a) : Sim w0 B κ X μ ⟨env', st.hp⟩ tm w :=
  ⟨fun t a ht => h.env t a (he t a ht), h.reg, h.inj, h.loc, h.kap, h.kbig, h.xlt, h.os, h.tape, h.output, h.size, h.fr⟩

end Go.Lg

/- THE LOGIC, part 3: the operations on abstract states. Conditions: none. -/
namespace Go.Lg
open Go

/-- The kinds of keys of a map. -/
inductive KT where
  | int (k : IntKind)
  | str
  | bl

/-- The operations, with what of the types they need. -/
inductive IOp where
  | mv (x : Operand)
  | pick (c a b : Operand)
  | alloc (fz : Bool) (zs : List Value)
  | box (fz : Bool) (x : Operand)
  | build (parts : List (Nat × Operand))
  | bsl (fz : Bool) (ty s : Nat) (parts : List Operand)
  | load (n : Nat) (g : Bool) (a : Operand)
  | store (n : Nat) (a x : Operand)
  | fadr (off : Nat) (a : Operand)
  | fld (off n : Nat) (g : Bool) (x : Operand)
  | iadr (s : Nat) (x i : Operand)
  | iadrA (len s : Nat) (x i : Operand)
  | idxS (x i : Operand)
  | idxA (len s : Nat) (g : Bool) (x i : Operand)
  | bin (op : BinOp) (x y : Operand)
  | isNil (pos : Bool) (x : Operand)
  | eqb (pos : Bool) (x y : Operand)
  | un (op : UnOp) (x : Operand)
  | conv (k : IntKind) (x : Operand)
  | bytesStr (x : Operand)
  | runeStr (x : Operand)
  | len (k : Nat) (x : Operand)
  | cap (x : Operand)
  | mmx (mx : Bool) (xs : List Operand)
  | app (fz : Bool) (ty s : Nat) (b x : Operand)
  | appT (ty s : Nat) (b x : Operand)
  | slice (s : Nat) (x : Operand) (lo hi mx : Option Operand)
  | mk (ty s : Nat) (zs : List Value) (l c : Operand)
  | mkf (f : FuncId) (caps : List Operand)
  | ext (x : Operand) (i : Nat)
  | nck (x : Operand)
  | mkmap
  | mkB (ty : Nat) (zs : List Value) (l c : Operand)
  | rng (x : Operand)
  | nxt (x : Operand)
  | lkup (kt : KT) (zv : Value) (ok : Bool) (m k : Operand)
  | mup (kt : KT) (m k x : Operand)
  | stR (id n : Nat) (a x : Operand)
  | ldR (id n : Nat) (g : Bool) (a : Operand)
  | ldT (n : Nat) (g : Bool) (a : Operand)
  | lkT (kt : KT) (zv : Value) (ok : Bool) (m k : Operand)
  | hcall (f : FuncId) (args : List Operand) (rs : List Nat) (base : Nat)
  | call (f : FuncId) (args : List Operand)
  | callv (x : Operand) (args : List Operand)

abbrev Tables := Nat → Option (List T)

def constT : Value → T
  | .slice none 0 0 => .sl [] (some 0) (some true)
  | .map none => .mp []
  | v => .v v
def constTT : Value → T
  | .agg cs => .agg (cs.toList.map constT)
  | v => constT v
def constAV (v : Value) : AV := .t (constTT v)

def ev (Γ : Tables) (env : List (Nat × AV)) : Operand → Option AV
  | .tmp t => look env t
  | .const v => some (constAV v)
  | .global g => (Γ g).map fun cs => .t (.ip cs 0)
  | .func f => some (.t (.fn f []))

def optAll {α : Type} : List (Option α) → Option (List α)
  | [] => some []
  | none :: _ => none
  | some a :: l => (optAll l).map (a :: ·)

def evs (Γ : Tables) (env : List (Nat × AV)) (xs : List Operand) : Option (List AV) := optAll (xs.map (ev Γ env))

/-- The cells that the value lies in. -/
def AV.cells : AV → List AV
  | .ag cs => cs
  | .t (.agg ts) => ts.map .t
  | a => [a]

def toT1 : AV → Option T
  | .t x => some x
  | _ => none
/-- The value as a tree, where it leads to no region. -/
def toT : AV → Option T
  | .t x => some x
  | .ag cs => (optAll (cs.map toT1)).map .agg
  | .fn f cs => (optAll (cs.map toT1)).map (.fn f)
  | _ => none
def toTs (as : List AV) : Option (List T) := optAll (as.map toT1)

/-- The value as a tree, the regions read as they stand. -/
def reify (hp : List (Nat × Reg)) : Nat → AV → Option T
  | _, .t x => some x
  | 0, _ => none
  | n + 1, .ag cs => (optAll (cs.map (reify hp n))).map .agg
  | n + 1, .fn f cs => (optAll (cs.map (reify hp n))).map (.fn f)
  | _ + 1, .ls id off len cap => match look hp id with
    | some (.sl _ _ es) => some (.sl ((es.drop off).take len) cap none)
    | _ => none
  | n + 1, .lp id i k => match look hp id with
    | some (.sl _ _ es) => some (.ip (es.getD i []) k)
    | some (.bx cs) => (optAll (cs.map (reify hp n))).map fun ts => .ip ts k
    | _ => none
  | _ + 1, .lm id => match look hp id with
    | some (.mp es) => some (.mp es)
    | _ => none
  | n + 1, .lb id m => match look hp id with
    | some (.bx cs) => (optAll (cs.map (reify hp n))).map fun ts => .sl (ts.map fun t => [t]) (some m) none
    | _ => none
  | _ + 1, .li _ => none
  | _ + 1, .dead => none
  | _ + 1, .un => none

def onesT (ts : List T) : Bool := ts.all T.one
def onesA (as : List AV) : Bool := as.all AV.one

def pickAV (p : Bool) : AV → AV → AV
  | .t (.v (.bool x)), .t (.v (.bool y)) => .t (.v (.bool (if p then x else y)))
  | .t (.v (.int k x)), .t (.v (.int j y)) => if k = j then .t (.v (.int k (if p then x else y))) else if p then .t (.v (.int k x)) else .t (.v (.int j y))
  | a, b => if p then a else b

def setR (id : Nat) (r : Reg) : List (Nat × Reg) → List (Nat × Reg)
  | [] => []
  | (k, v) :: e => if k = id then (k, r) :: e else (k, v) :: setR id r e

/-- The value no longer leads to region id. -/
def kill1 (id : Nat) : AV → AV
  | .ls i off len cap => if i = id then .dead else .ls i off len cap
  | .lp i a b => if i = id then .dead else .lp i a b
  | .lm i => if i = id then .dead else .lm i
  | .lb i m => if i = id then .dead else .lb i m
  | .li i => if i = id then .dead else .li i
  | .fn f [] => .fn f []
  | .fn _ (_ :: _) => .dead
  | .t x => .t x
  | .dead => .dead
  | .un => .un
  | .ag cs => .ag cs
def killRef (id : Nat) : AV → AV
  | .ag cs => .ag (cs.map (kill1 id))
  | a => kill1 id a
def killReg (id : Nat) : Reg → Reg
  | .bx cs => .bx (cs.map (killRef id))
  | r => r
def St.kill (id : Nat) (st : St) : St :=
  ⟨st.env.map fun p => (p.1, killRef id p.2), (del id st.hp).map fun p => (p.1, killReg id p.2)⟩

def binV : BinOp → Value → Value → Option (Prop × Value)
  | .add, .int k a, .int j b => if k = j then some (True, .int k (k.wrap (a + b))) else none
  | .sub, .int k a, .int j b => if k = j then some (True, .int k (k.wrap (a - b))) else none
  | .mul, .int k a, .int j b => if k = j then some (True, .int k (k.wrap (a * b))) else none
  | .quo, .int k a, .int j b => if k = j then some (b ≠ 0, .int k (k.wrap (a.tdiv b))) else none
  | .rem, .int k a, .int j b => if k = j then some (b ≠ 0, .int k (a.tmod b)) else none
  | .and, .int k a, .int j b => if k = j then some (True, .int k (k.wrap (BitVec.ofInt k.bits a &&& BitVec.ofInt k.bits b).toNat)) else none
  | .or, .int k a, .int j b => if k = j then some (True, .int k (k.wrap (BitVec.ofInt k.bits a ||| BitVec.ofInt k.bits b).toNat)) else none
  | .xor, .int k a, .int j b => if k = j then some (True, .int k (k.wrap (BitVec.ofInt k.bits a ^^^ BitVec.ofInt k.bits b).toNat)) else none
  | .shl, .int k a, .int _ b => some (0 ≤ b, .int k (k.wrap (a * 2 ^ (min b.toNat k.bits))))
  | .shr, .int k a, .int _ b => some (0 ≤ b, .int k (a.fdiv (2 ^ (min b.toNat k.bits))))
  | .eql, .int k a, .int j b => if k = j then some (True, .bool (a == b)) else none
  | .neq, .int k a, .int j b => if k = j then some (True, .bool (a != b)) else none
  | .lss, .int k a, .int j b => if k = j then some (True, .bool (decide (a < b))) else none
  | .leq, .int k a, .int j b => if k = j then some (True, .bool (decide (a ≤ b))) else none
  | .gtr, .int k a, .int j b => if k = j then some (True, .bool (decide (a > b))) else none
  | .geq, .int k a, .int j b => if k = j then some (True, .bool (decide (a ≥ b))) else none
  | .add, .string a, .string b => some (a.size + b.size ≤ 9223372036854775807, .string (a ++ b))
  | .eql, .string a, .string b => some (True, .bool (a.toList == b.toList))
  | .neq, .string a, .string b => some (True, .bool (!(a.toList == b.toList)))
  | _, _, _ => none

def unV : UnOp → Value → Option Value
  | .neg, .int k n => some (.int k (k.wrap (0 - n)))
  | .not, .bool b => some (.bool !b)
  | _, _ => none

def mmxV (mx : Bool) : List AV → Option Int → Option (IntKind × Int)
  | [], _ => none
  | .t (.v (.int k a)) :: l, acc =>
    let b := match acc with | none => a | some x => if mx then (if a > x then a else x) else (if a < x then a else x)
    match l with
    | [] => some (k, b)
    | _ => mmxV mx l (some b)
  | _ :: _, _ => none

/-- All numbers of one kind. -/
def sameKind (k : IntKind) : List AV → Bool
  | [] => true
  | .t (.v (.int j _)) :: l => decide (j = k) && sameKind k l
  | _ :: _ => false

/-- The bytes of a slice's elements. -/
def bytesOf : List (List T) → Option (List UInt8)
  | [] => some []
  | [.v (.int .u8 n)] :: es => (bytesOf es).map (UInt8.ofNat n.toNat :: ·)
  | _ :: _ => none

def KT.fits : KT → Value → Bool
  | .int k, .int j _ => decide (j = k)
  | .str, .string _ => true
  | .bl, .bool _ => true
  | _, _ => false
def keyEq : Value → Value → Bool
  | .int _ a, .int _ b => a == b
  | .string a, .string b => a == b
  | .bool a, .bool b => a == b
  | _, _ => false
def findM (k : Value) : List (Value × T) → Option T
  | [] => none
  | (q, x) :: es => if keyEq k q then some x else findM k es
def setM (k : Value) (x : T) : List (Value × T) → List (Value × T)
  | [] => [(k, x)]
  | (q, y) :: es => if keyEq k q then (k, x) :: es else (q, y) :: setM k x es
def keysFit (kt : KT) (es : List (Value × T)) : Prop := ∀ e ∈ es, kt.fits e.1 = true

/-- The elements behind a slice. -/
def elemsOf (hp : List (Nat × Reg)) : AV → Option (List (List T))
  | .t (.sl es _ _) => some es
  | .ls id off len _ => match look hp id with
    | some (.sl _ _ es) => some ((es.drop off).take len)
    | _ => none
  | _ => none

/-- Every element has s cells. -/
def wid (s : Nat) (es : List (List T)) : Prop := ∀ e ∈ es, e.length = s

def wrapT (g : Bool) (ts : List T) : T := if g then .agg ts else ts.headD (.v undef)
def wrapA (g : Bool) (as : List AV) : AV := if g then .ag as else as.headD .dead

/-- The length of a slot's content. -/
def lenOf (hp : List (Nat × Reg)) : AV → Option Nat
  | .t (.sl es _ _) => some es.length
  | .ls _ _ len _ => some len
  | .lb _ m => some m
  | .t (.v (.string s)) => some s.size
  | .t (.mp es) => some es.length
  | .lm id => match look hp id with
    | some (.mp es) => some es.length
    | _ => none
  | _ => none
/-- A slice (0), a string (1), a map (2). -/
def lenK : Nat → AV → Bool
  | 0, .t (.sl _ _ _) | 0, .ls _ _ _ _ | 0, .lb _ _ => true
  | 1, .t (.v (.string _)) => true
  | 2, .t (.mp _) | 2, .lm _ => true
  | _, _ => false

/-- A bound of a cut. -/
def numO (Γ : Tables) (env : List (Nat × AV)) (o : Option Operand) (dflt : Nat) : Option (Prop × Nat) := match o with
  | none => some (True, dflt)
  | some o => match ev Γ env o with
    | some (.t (.v (.int _ n))) => some (0 ≤ n, n.toNat)
    | _ => none

/-- It is a pointer into region id. -/
def pointsTo (id : Nat) : Option AV → Bool
  | some (.lp j _ _) => j == id
  | _ => false

/-- What an operation does: what must hold, its result, the state behind it. 'd' is the slot that it writes: a new region is named so. None: the operation does not fit the state. -/
def sem (Γ : Tables) (d : Nat) (io : IOp) (st : St) : Option (Prop × AV × St) :=
  match io with
  | .mv x => (ev Γ st.env x).map fun a => (True, a, st)
  | .pick c a b => match ev Γ st.env c, ev Γ st.env a, ev Γ st.env b with
    | some (.t (.v (.bool p))), some a, some b => some (True, pickAV p a b, st)
    | _, _, _ => none
  | .alloc fz zs =>
    if fz then some (True, .t (.ip (zs.map constT) 0), st)
    else some (look st.hp d = none, .lp d 0 0, ⟨st.env, (d, .bx (zs.map fun z => .t (constT z))) :: st.hp⟩)
  | .box fz x => (ev Γ st.env x).bind fun a =>
    if fz then (toTs a.cells).map fun ts => (onesT ts = true, .t (.ip ts 0), st)
    else some (look st.hp d = none ∧ onesA a.cells = true, .lp d 0 0, ⟨st.env, (d, .bx a.cells) :: st.hp⟩)
  | .build parts => (evs Γ st.env (parts.map (·.2))).map fun as => (as.map (·.cells.length) = parts.map (·.1) ∧ onesA (as.flatMap AV.cells) = true, .ag (as.flatMap AV.cells), st)
  | .bsl fz ty s parts => (evs Γ st.env parts).bind fun as => (optAll (as.map fun a => toTs a.cells)).map fun es =>
    if fz then ((∀ e ∈ es, e.length = s ∧ onesT e = true), .t (.sl es (some es.length) (some false)), st)
    else (look st.hp d = none ∧ (∀ e ∈ es, e.length = s ∧ onesT e = true), .ls d 0 es.length none, ⟨st.env, (d, .sl ty s es) :: st.hp⟩)
  | .load n g a => match ev Γ st.env a with
    | some (.t (.ip cs k)) => some (k + n ≤ cs.length, .t (wrapT g ((cs.drop k).take n)), st)
    | some (.lp id i k) => match look st.hp id with
      | some (.sl _ s es) => some (i < es.length ∧ k + n ≤ s, .t (wrapT g (((es.getD i []).drop k).take n)), st)
      | some (.bx cs) => some (i = 0 ∧ k + n ≤ cs.length, wrapA g ((cs.drop k).take n), st)
      | _ => none
    | _ => none
  | .store n a x => (ev Γ st.env x).bind fun v => match ev Γ st.env a with
    | some (.lp id i k) => match look st.hp id with
      | some (.sl ty s es) => (toTs v.cells).map fun ts =>
        (i < es.length ∧ k + n ≤ s ∧ ts.length = n ∧ onesT ts = true, .un,
          ⟨st.env, setR id (.sl ty s (es.set i (if k = 0 ∧ n = s then ts else (es.getD i []).take k ++ ts ++ (es.getD i []).drop (k + n)))) st.hp⟩)
      | some (.bx cs) => some (i = 0 ∧ k + n ≤ cs.length ∧ v.cells.length = n ∧ onesA v.cells = true, .un, ⟨st.env, setR id (.bx (cs.take k ++ v.cells ++ cs.drop (k + n))) st.hp⟩)
      | _ => none
    | _ => none
  | .fadr off a => match ev Γ st.env a with
    | some (.t (.ip cs k)) => some (True, .t (.ip cs (k + off)), st)
    | some (.lp id i k) => some (True, .lp id i (k + off), st)
    | _ => none
  | .fld off n g x => (ev Γ st.env x).bind fun a => match a with
    | .ag cs => some (off + n ≤ cs.length, wrapA g ((cs.drop off).take n), st)
    | .t (.agg ts) => some (off + n ≤ ts.length, .t (wrapT g ((ts.drop off).take n)), st)
    | _ => none
  | .iadr s x i => match ev Γ st.env x, ev Γ st.env i with
    | some (.t (.sl es _ _)), some (.t (.v (.int _ n))) => some (0 ≤ n ∧ n < es.length ∧ wid s es, .t (.ip (es.getD n.toNat []) 0), st)
    | some (.ls id off len _), some (.t (.v (.int _ n))) => match look st.hp id with
      | some (.sl _ q _) => some (q = s ∧ 0 ≤ n ∧ n < len, .lp id (off + n.toNat) 0, st)
      | _ => none
    | some (.lb id m), some (.t (.v (.int _ n))) => match look st.hp id with
      | some (.bx _) => some (s = 1 ∧ 0 ≤ n ∧ n < m, .lp id 0 n.toNat, st)
      | _ => none
    | _, _ => none
  | .iadrA len s x i => match ev Γ st.env x, ev Γ st.env i with
    | some (.t (.ip cs k)), some (.t (.v (.int _ n))) => some (0 ≤ n ∧ n < len, .t (.ip cs (k + n.toNat * s)), st)
    | some (.lp id j k), some (.t (.v (.int _ n))) => some (0 ≤ n ∧ n < len, .lp id j (k + n.toNat * s), st)
    | _, _ => none
  | .idxS x i => match ev Γ st.env x, ev Γ st.env i with
    | some (.t (.v (.string s))), some (.t (.v (.int _ n))) => some (0 ≤ n ∧ n < s.size, .t (.v (.int .u8 (s.data.getD n.toNat 0).toNat)), st)
    | _, _ => none
  | .idxA len s g x i => match ev Γ st.env x, ev Γ st.env i with
    | some (.t (.agg ts)), some (.t (.v (.int _ n))) => some (0 ≤ n ∧ n < len ∧ n.toNat * s + s ≤ ts.length, .t (wrapT g ((ts.drop (n.toNat * s)).take s)), st)
    | some (.ag cs), some (.t (.v (.int _ n))) => some (0 ≤ n ∧ n < len ∧ n.toNat * s + s ≤ cs.length, wrapA g ((cs.drop (n.toNat * s)).take s), st)
    | _, _ => none
  | .bin op x y => match ev Γ st.env x, ev Γ st.env y with
    | some (.t (.v a)), some (.t (.v b)) => (binV op a b).map fun r => (r.1, .t (.v r.2), st)
    | _, _ => none
  | .eqb pos x y => match ev Γ st.env x, ev Γ st.env y with
    | some (.t (.v (.bool a))), some (.t (.v (.bool b))) => some (True, .t (.v (.bool (if pos then a == b else a != b))), st)
    | _, _ => none
  | .isNil pos x => match ev Γ st.env x with
    | some (.t (.sl es _ nl)) => match nl with
      | some q => some (True, .t (.v (.bool (q == pos))), st)
      | none => some (es ≠ [], .t (.v (.bool (!pos))), st)
    | _ => none
  | .un op x => match ev Γ st.env x with
    | some (.t (.v a)) => (unV op a).map fun r => (True, .t (.v r), st)
    | _ => none
  | .conv k x => match ev Γ st.env x with
    | some (.t (.v (.int _ n))) => some (True, .t (.v (.int k (k.wrap n))), st)
    | _ => none
  | .bytesStr x => ((ev Γ st.env x).bind (elemsOf st.hp)).bind fun es => (bytesOf es).map fun bs => (True, .t (.v (.string ⟨bs.toArray⟩)), st)
  | .runeStr x => match ev Γ st.env x with
    | some (.t (.v (.int _ n))) => some (True, .t (.v (.string (Utf8.encode n))), st)
    | _ => none
  | .len k x => (ev Γ st.env x).bind fun a => if lenK k a then (lenOf st.hp a).map fun (n : Nat) => (True, .t (.v (.int .i64 (n : Int))), st) else none
  | .cap x => match ev Γ st.env x with
    | some (.t (.sl _ (some c) _)) => some (True, .t (.v (.int .i64 c)), st)
    | some (.ls _ _ _ (some c)) => some (True, .t (.v (.int .i64 c)), st)
    | _ => none
  | .mmx mx xs => (evs Γ st.env xs).bind fun as => (mmxV mx as none).map fun r => (sameKind r.1 as = true, .t (.v (.int r.1 r.2)), st)
  | .app fz ty s b x => ((ev Γ st.env x).bind (elemsOf st.hp)).bind fun news => (ev Γ st.env b).bind fun a =>
    let fin (c0 : Prop) (es : List (List T)) (st' : St) : Option (Prop × AV × St) :=
      let c : Prop := wid s news ∧ c0
      if fz then some (c, .t (.sl es none none), st')
      else some (c ∧ look st'.hp d = none, .ls d 0 es.length none, ⟨st'.env, (d, .sl ty s es) :: st'.hp⟩)
    match a with
    | .t (.sl es (some c) _) => fin (wid s es ∧ c = es.length ∧ es.length + news.length ≤ 2147483648 ∧ (fz = true ∨ news ≠ [] ∨ es = [])) (es ++ news) st
    | .ls id off len (some c) => match look st.hp id with
      | some (.sl t q es) => fin (t = ty ∧ q = s ∧ c = len ∧ len + news.length ≤ 2147483648 ∧ (news ≠ [] ∨ len = 0)) ((es.drop off).take len ++ news) st
      | _ => none
    | .ls id 0 len none => match look st.hp id with
      | some (.sl t q es) => fin (t = ty ∧ q = s ∧ len + news.length ≤ 2147483648) (es.take len ++ news) (st.kill id)
      | _ => none
    | _ => none
  | .appT _ s b x => ((ev Γ st.env x).bind (elemsOf st.hp)).bind fun news => match ev Γ st.env b with
    | some (.t (.sl es (some c) _)) => some (wid s news ∧ wid s es ∧ c = es.length ∧ es.length + news.length ≤ 2147483648, .t (.sl (es ++ news) none none), st)
    | _ => none
  | .slice s x lo hi mx => (ev Γ st.env x).bind fun a =>
    match a with
    | .t (.v (.string b)) => (numO Γ st.env lo 0).bind fun l => (numO Γ st.env hi b.size).map fun h => (s = 0 ∧ l.1 ∧ h.1 ∧ l.2 ≤ h.2 ∧ h.2 ≤ b.size, .t (.v (.string (b.extract l.2 h.2))), st)
    | .t (.sl es cap nl) => (numO Γ st.env lo 0).bind fun l => (numO Γ st.env hi es.length).bind fun h => match mx with
      | none => some (s ≠ 0 ∧ wid s es ∧ l.1 ∧ h.1 ∧ l.2 ≤ h.2 ∧ h.2 ≤ es.length, .t (.sl ((es.drop l.2).take (h.2 - l.2)) (cap.map (· - l.2)) nl), st)
      | some _ => (numO Γ st.env mx 0).map fun m => (s ≠ 0 ∧ wid s es ∧ l.1 ∧ h.1 ∧ m.1 ∧ l.2 ≤ h.2 ∧ h.2 ≤ m.2 ∧ m.2 ≤ es.length, .t (.sl ((es.drop l.2).take (h.2 - l.2)) (some (m.2 - l.2)) nl), st)
    | .ls id off len cap => (numO Γ st.env lo 0).bind fun l => (numO Γ st.env hi len).bind fun h => match look st.hp id with
     | some (.sl _ q _) => match mx with
      | none => some (s ≠ 0 ∧ q = s ∧ l.1 ∧ h.1 ∧ l.2 ≤ h.2 ∧ h.2 ≤ len, .ls id (off + l.2) (h.2 - l.2) (cap.map (· - l.2)), st)
      | some _ => (numO Γ st.env mx 0).map fun m => (s ≠ 0 ∧ q = s ∧ l.1 ∧ h.1 ∧ m.1 ∧ l.2 ≤ h.2 ∧ h.2 ≤ m.2 ∧ m.2 ≤ len, .ls id (off + l.2) (h.2 - l.2) (some (m.2 - l.2)), st)
     | _ => none
    | _ => none
  | .mk ty s zs l c => match ev Γ st.env l, ev Γ st.env c with
    | some (.t (.v (.int _ n))), some (.t (.v (.int _ m))) =>
      some (look st.hp d = none ∧ 0 ≤ n ∧ n ≤ m ∧ m ≤ 2147483648, .ls d 0 n.toNat none, ⟨st.env, (d, .sl ty s (List.replicate n.toNat (zs.map constT))) :: st.hp⟩)
    | _, _ => none
  | .mkf f caps => (evs Γ st.env caps).map fun as => (onesA as = true, (match toTs as with | some ts => .t (.fn f ts) | none => .fn f as), st)
  | .ext x i => match ev Γ st.env x with
    | some (.t (.tup vs)) => (vs[i]?).map fun t => (True, .t t, st)
    | _ => none
  | .nck x => match ev Γ st.env x with
    | some (.t (.ip cs k)) => some (True, .t (.ip cs k), st)
    | some (.lp id i k) => some (True, .lp id i k, st)
    | some (.t (.fn f cs)) => some (True, .t (.fn f cs), st)
    | some (.fn f cs) => some (True, .fn f cs, st)
    | _ => none
  | .mkmap => some (look st.hp d = none, .lm d, ⟨st.env, (d, .mp []) :: st.hp⟩)
  | .mkB _ zs l c => match ev Γ st.env l, ev Γ st.env c with
    | some (.t (.v (.int _ n))), some (.t (.v (.int _ m))) =>
      some (look st.hp d = none ∧ 0 ≤ n ∧ n = m ∧ m ≤ 2147483648, .lb d n.toNat, ⟨st.env, (d, .bx (List.replicate n.toNat (.t (constT (zs.headD undef))))) :: st.hp⟩)
    | _, _ => none
  | .rng x => match ev Γ st.env x with
    | some (.t (.v (.string s))) => some (look st.hp d = none, .li d, ⟨st.env, (d, .it s 0) :: st.hp⟩)
    | _ => none
  | .nxt x => match ev Γ st.env x with
    | some (.li id) => match look st.hp id with
      | some (.it s pos) => if pos < s.size then some (True, .t (.tup [.v (.bool true), .v (.int .i64 pos), .v (.int .i32 (Utf8.decode s pos).1)]), ⟨st.env, setR id (.it s (pos + (Utf8.decode s pos).2)) st.hp⟩)
        else some (True, .t (.tup [.v (.bool false)]), st)
      | _ => none
    | _ => none
  | .lkup kt zv ok m k => match ev Γ st.env k with
    | some (.t (.v kv)) =>
      let out (es : List (Value × T)) : Prop × AV × St :=
        (kt.fits kv = true ∧ keysFit kt es, if ok then .t (.tup [(findM kv es).getD (constTT zv), .v (.bool (findM kv es).isSome)]) else .t ((findM kv es).getD (constTT zv)), st)
      match ev Γ st.env m with
      | some (.t (.mp es)) => some (out es)
      | some (.lm id) => match look st.hp id with
        | some (.mp es) => some (out es)
        | _ => none
      | _ => none
    | _ => none
  | .mup kt m k x => match ev Γ st.env k, ev Γ st.env m with
    | some (.t (.v kv)), some (.lm id) => match look st.hp id with
      | some (.mp es) => ((ev Γ st.env x).bind toT).map fun t => (kt.fits kv = true ∧ keysFit kt es, .un, ⟨st.env, setR id (.mp (setM kv t es)) st.hp⟩)
      | _ => none
    | _, _ => none
  | .stR id n a x => if pointsTo id (ev Γ st.env a) then ((ev Γ st.env x).bind fun v => match ev Γ st.env a with
      | some (.lp id i k) => match look st.hp id with
        | some (.sl ty s es) => (toTs v.cells).map fun ts =>
          (i < es.length ∧ k + n ≤ s ∧ ts.length = n ∧ onesT ts = true, .un,
            ⟨st.env, setR id (.sl ty s (es.set i (if k = 0 ∧ n = s then ts else (es.getD i []).take k ++ ts ++ (es.getD i []).drop (k + n)))) st.hp⟩)
        | some (.bx cs) => some (i = 0 ∧ k + n ≤ cs.length ∧ v.cells.length = n ∧ onesA v.cells = true, .un, ⟨st.env, setR id (.bx (cs.take k ++ v.cells ++ cs.drop (k + n))) st.hp⟩)
        | _ => none
      | _ => none) else none
  | .ldR id n g a => if pointsTo id (ev Γ st.env a) then (match ev Γ st.env a with
      | some (.t (.ip cs k)) => some (k + n ≤ cs.length, .t (wrapT g ((cs.drop k).take n)), st)
      | some (.lp id i k) => match look st.hp id with
        | some (.sl _ s es) => some (i < es.length ∧ k + n ≤ s, .t (wrapT g (((es.getD i []).drop k).take n)), st)
        | some (.bx cs) => some (i = 0 ∧ k + n ≤ cs.length, wrapA g ((cs.drop k).take n), st)
        | _ => none
      | _ => none) else none
  | .ldT n g a => match ev Γ st.env a with
    | some (.t (.ip cs k)) => some (k + n ≤ cs.length, .t (wrapT g ((cs.drop k).take n)), st)
    | _ => none
  | .lkT kt zv ok m k => match ev Γ st.env k, ev Γ st.env m with
    | some (.t (.v kv)), some (.t (.mp es)) => some (kt.fits kv = true ∧ keysFit kt es, if ok then .t (.tup [(findM kv es).getD (constTT zv), .v (.bool (findM kv es).isSome)]) else .t ((findM kv es).getD (constTT zv)), st)
    | _, _ => none
  | .hcall _ _ _ _ => none
  | .call _ _ => none
  | .callv _ _ => none

end Go.Lg

/- THE LOGIC, part 4: which operation of the model an abstract operation stands for (a Bool, for the kernel). Conditions: none. -/
namespace Go.Lg
open Go

def strB (a b : ByteArray) : Bool := a.data.toList == b.data.toList
def val1B : Value → Value → Bool
  | .bool a, .bool b => a == b
  | .int k a, .int j b => decide (k = j) && decide (a = b)
  | .string a, .string b => strB a b
  | .slice none 0 0, .slice none 0 0 => true
  | .map none, .map none => true
  | .pointer none, .pointer none => true
  | .nilFunc, .nilFunc => true
  | .nilIface, .nilIface => true
  | _, _ => false
def vals1B : List Value → List Value → Bool
  | [], [] => true
  | a :: as, b :: bs => val1B a b && vals1B as bs
  | _, _ => false
def valB : Value → Value → Bool
  | .agg a, .agg b => vals1B a.toList b.toList
  | a, b => val1B a b
def opdB : Operand → Operand → Bool
  | .tmp a, .tmp b => a == b
  | .global a, .global b => a == b
  | .func a, .func b => a == b
  | .const a, .const b => valB a b
  | _, _ => false
def opdsB : List Operand → List Operand → Bool
  | [], [] => true
  | a :: as, b :: bs => opdB a b && opdsB as bs
  | _, _ => false
def opdOB : Option Operand → Option Operand → Bool
  | none, none => true
  | some a, some b => opdB a b
  | _, _ => false

theorem strB_eq {a b : ByteArray} (h : strB a b = true) : a = b := by
  cases a; cases b
  simp only [strB, beq_iff_eq] at h
  congr 1
  exact Array.toList_inj.1 h
theorem val1B_eq {a b : Value} (h : val1B a b = true) : a = b := by
  unfold val1B at h
  split at h <;> first
    | rfl
    | (simp only [beq_iff_eq] at h; rw [h])
    | (simp only [Bool.and_eq_true, decide_eq_true_eq] at h; rw [h.1, h.2])
    | (rw [strB_eq h])
    | (cases h)
theorem vals1B_eq {a b : List Value} (h : vals1B a b = true) : a = b := by
  induction a generalizing b with
  | nil => cases b <;> first | rfl | cases h
  | cons x a ih =>
    cases b with
    | nil => cases h
    | cons y b => simp only [vals1B, Bool.and_eq_true] at h; rw [val1B_eq h.1, ih h.2]
theorem valB_eq {a b : Value} (h : valB a b = true) : a = b := by
  unfold valB at h
  split at h
  · rename_i x y; congr 1; exact Array.toList_inj.1 (vals1B_eq h)
  · exact val1B_eq h
theorem opdB_eq {a b : Operand} (h : opdB a b = true) : a = b := by
  unfold opdB at h
  split at h <;> first
    | (simp only [beq_iff_eq] at h; rw [h])
    | (rw [valB_eq h])
    | cases h
theorem opdsB_eq {a b : List Operand} (h : opdsB a b = true) : a = b := by
  induction a generalizing b with
  | nil => cases b <;> first | rfl | cases h
  | cons x a ih =>
    cases b with
    | nil => cases h
    | cons y b => simp only [opdsB, Bool.and_eq_true] at h; rw [opdB_eq h.1, ih h.2]
theorem opdOB_eq {a b : Option Operand} (h : opdOB a b = true) : a = b := by
  unfold opdOB at h
  split at h <;> first | rfl | (rw [opdB_eq h]) | cases h

def okConst : Value → Bool
  | .agg cs => cs.toList.all Value.oneCell'
  | _ => true
def okOpd : Operand → Bool
  | .const v => okConst v
  | _ => true

variable (P : Program)
def szO (t : TypeId) : Option Nat := (P.info? t).map (·.size)
def aggO (t : TypeId) : Option Bool := match P.underlying t with
  | some (.struct _) | some (.array _ _) => some true
  | some _ => some false
  | none => none
def slO (t : TypeId) : Option TypeId := match P.underlying t with
  | some (.slice e) => some e
  | _ => none
def arO (t : TypeId) : Option (Nat × TypeId) := match P.underlying t with
  | some (.array n e) => some (n, e)
  | _ => none
def zeroO (t : TypeId) : Option (List Value) := ((P.info? t).bind (·.zero)).map fun z => z.cells.toList
def byO (t : TypeId) : Option Nat := (P.info? t).map (·.bytes)
def intO (t : TypeId) : Option IntKind := match P.underlying t with
  | some (.int k) => some k
  | _ => none
def mapO (t : TypeId) : Option (TypeId × TypeId) := match P.underlying t with
  | some (.map k e) => some (k, e)
  | _ => none
def ktB (kt : KT) (t : TypeId) : Bool := match kt, P.underlying t with
  | .int k, some (.int j) => decide (j = k)
  | .str, some .string => true
  | .bl, some .bool => true
  | _, _ => false
def keyB (t : TypeId) : Bool := match P.underlying t with
  | some (.int _) | some .string | some .bool => true
  | _ => false
def strO (t : TypeId) : Bool := match P.underlying t with
  | some .string => true
  | _ => false
def cellsB (vs : List Value) : Bool := vs.all Value.oneCell'

/-- The fields of a struct: where each lies, and how many cells it has. -/
def fieldsO (t : TypeId) : Option (List (Nat × Nat)) := match P.underlying t with
  | some (.struct fs) => optAll (fs.toList.map fun f => (szO P f.type).map fun s => (f.offset, s))
  | _ => none

/-- The parts of a composite against its fields; a field that is not named is the zero value's. -/
def partsB : Nat → Nat → List (Nat × Nat) → List Value → List (Nat × Operand) → List (Nat × Operand) → Bool
  | _, _, [], zs, ps, qs => zs.isEmpty && ps.isEmpty && qs.isEmpty
  | j, off, (o, s) :: fs, zs, ps, (s', x) :: qs =>
    o == off && s == s' && decide (s ≤ zs.length) &&
    (match ps with
    | (i, y) :: ps' =>
      if i == j then opdB x y && partsB (j + 1) (off + s) fs (zs.drop s) ps' qs
      else (match x with | .const v => vals1B v.cells.toList (zs.take s) | _ => false) && partsB (j + 1) (off + s) fs (zs.drop s) ps qs
    | [] => (match x with | .const v => vals1B v.cells.toList (zs.take s) | _ => false) && partsB (j + 1) (off + s) fs (zs.drop s) [] qs)
  | _, _, _ :: _, _, _, [] => false

def inOrder : Nat → List (Nat × Operand) → List Operand → Bool
  | _, [], [] => true
  | j, (i, y) :: ps, x :: xs => i == j && opdB x y && inOrder (j + 1) ps xs
  | _, _, _ => false

def chk (io : IOp) (o : Op) : Bool :=
  match io with
  | .mv x => match o with
    | .move y | .assign y => opdB x y
    | _ => false
  | .pick c a b => match o with
    | .pick c' a' b' => opdB c c' && opdB a a' && opdB b b'
    | _ => false
  | .alloc _ zs => match o with
    | .alloc t => (match zeroO P t with | some z => vals1B z zs | none => false) && cellsB zs
    | _ => false
  | .box _ x => match o with
    | .box _ y => opdB x y
    | _ => false
  | .build qs => match o with
    | .build t ps => match fieldsO P t, zeroO P t with
      | some fs, some zs => partsB 0 0 fs zs ps.toList qs
      | _, _ => false
    | _ => false
  | .bsl _ ty s xs => match o with
    | .buildSlice t n ps => slO P t == some ty && szO P ty == some s && decide (0 < s) && n == xs.length && inOrder 0 ps.toList xs && (zeroO P ty).isSome && decide (n * s ≤ 16777216) &&
      (match zeroO P ty with | some z => z.length == s | none => false)
    | _ => false
  | .load n g a => match o with
    | .load t b => opdB a b && szO P t == some n && aggO P t == some g && (g || n == 1)
    | _ => false
  | .store n a x => match o with
    | .store t b y => opdB a b && opdB x y && szO P t == some n
    | _ => false
  | .fadr off a => match o with
    | .fieldAddr t b i => opdB a b && (match P.underlying t with
      | some (.struct fs) => match fs[i]? with
        | some f => f.offset == off && (match szO P f.type with | some s => decide (0 < s) | none => false)
        | none => false
      | _ => false)
    | _ => false
  | .fld off n g x => match o with
    | .field t y i => opdB x y && (match P.underlying t with
      | some (.struct fs) => match fs[i]? with
        | some f => f.offset == off && szO P f.type == some n && aggO P f.type == some g && (g || n == 1)
        | none => false
      | _ => false)
    | _ => false
  | .iadr s x i => match o with
    | .indexAddr t y j => opdB x y && opdB i j && (match slO P t with | some e => szO P e == some s | none => false)
    | _ => false
  | .iadrA len s x i => match o with
    | .indexAddr t y j => opdB x y && opdB i j && (match arO P t with | some (n, e) => n == len && szO P e == some s | none => false)
    | _ => false
  | .idxS x i => match o with
    | .index t y j => opdB x y && opdB i j && strO P t
    | _ => false
  | .idxA len s g x i => match o with
    | .index t y j => opdB x y && opdB i j && (match arO P t with | some (n, e) => n == len && szO P e == some s && aggO P e == some g && (g || s == 1) | none => false)
    | _ => false
  | .bin op x y => match o with
    | .binOp op' _ x' y' _ => decide (op = op') && opdB x x' && opdB y y'
    | _ => false
  | .isNil pos x => match o with
    | .binOp op t x' y' _ => decide (op = if pos then .eql else .neq) && (slO P t).isSome && ((opdB x x' && opdB (.const (.slice none 0 0)) y') || (opdB x y' && opdB (.const (.slice none 0 0)) x'))
    | _ => false
  | .eqb pos x y => match o with
    | .binOp op t x' y' _ => decide (op = if pos then .eql else .neq) && (match P.underlying t with | some .bool => true | _ => false) && opdB x x' && opdB y y'
    | _ => false
  | .un op x => match o with
    | .unOp op' _ y => decide (op = op') && opdB x y
    | _ => false
  | .conv k x => match o with
    | .convert src dst y => opdB x y && (P.underlying src).isSome && intO P dst == some k
    | _ => false
  | .bytesStr x => match o with
    | .convert src dst y => opdB x y && (match slO P src with | some e => intO P e == some .u8 | none => false) && strO P dst
    | _ => false
  | .runeStr x => match o with
    | .convert src dst y => opdB x y && (intO P src).isSome && strO P dst
    | _ => false
  | .len k x => match o with
    | .call c => (match c.callee, c.args.toList, c.argTypes.toList with
      | .builtin .len, [y], [t] => opdB x y && (match k with | 0 => (slO P t).isSome | 1 => strO P t | 2 => (mapO P t).isSome | _ => false)
      | _, _, _ => false)
    | _ => false
  | .cap x => match o with
    | .call c => (match c.callee, c.args.toList, c.argTypes.toList with
      | .builtin .cap, [y], [t] => opdB x y && (slO P t).isSome
      | _, _, _ => false)
    | _ => false
  | .mmx mx xs => match o with
    | .call c => (match c.callee with
      | .builtin .max => mx && opdsB xs c.args.toList
      | .builtin .min => !mx && opdsB xs c.args.toList
      | _ => false)
    | _ => false
  | .app _ ty s b x => match o with
    | .call c => (match c.callee, c.args.toList, c.argTypes.toList with
      | .builtin .append, [b', x'], [t, t'] => opdB b b' && opdB x x' && t == t' && slO P t == some ty && szO P ty == some s && decide (0 < s) &&
        (match zeroO P ty with | some z => z.length == s | none => false) && (match byO P ty with | some n => decide (n ≤ 65536) | none => false)
      | _, _, _ => false)
    | _ => false
  | .appT ty s b x => match o with
    | .call c => (match c.callee, c.args.toList, c.argTypes.toList with
      | .builtin .append, [b', x'], [t, t'] => opdB b b' && opdB x x' && t == t' && slO P t == some ty && szO P ty == some s && decide (0 < s) &&
        (match zeroO P ty with | some z => z.length == s | none => false) && (match byO P ty with | some n => decide (n ≤ 65536) | none => false)
      | _, _, _ => false)
    | _ => false
  | .slice s x lo hi mx => match o with
    | .slice t x' lo' hi' mx' => opdB x x' && opdOB lo lo' && opdOB hi hi' && opdOB mx mx' && (mx.isNone || hi.isSome) && (if s == 0 then strO P t && mx.isNone else match slO P t with | some e => szO P e == some s | none => false)
    | _ => false
  | .mk ty s zs l c => match o with
    | .makeSlice t l' c' => opdB l l' && opdB c c' && slO P t == some ty && szO P ty == some s && decide (0 < s) && (match zeroO P ty with | some z => vals1B z zs && z.length == s | none => false) && cellsB zs &&
      (match byO P ty with | some n => decide (n ≤ 65536) | none => false)
    | _ => false
  | .mkf f xs => match o with
    | .makeFunc (.func f') first caps => f == f' && first.isEmpty && opdsB xs caps.toList
    | _ => false
  | .ext x i => match o with
    | .extract y j => opdB x y && i == j
    | _ => false
  | .nck x => match o with
    | .nilCheck y => opdB x y
    | _ => false
  | .mkmap => match o with
    | .makeMap t r => r.isNone && (mapO P t).isSome
    | _ => false
  | .mkB ty zs l c => match o with
    | .makeSlice t l' c' => opdB l l' && opdB c c' && slO P t == some ty && szO P ty == some 1 && (match zeroO P ty with | some z => vals1B z zs && z.length == 1 | none => false) && cellsB zs &&
      (match byO P ty with | some n => decide (n ≤ 65536) | none => false)
    | _ => false
  | .rng x => match o with
    | .range t y => opdB x y && strO P t
    | _ => false
  | .nxt x => match o with
    | .next y isS => opdB x y && isS
    | _ => false
  | .lkup kt zv ok m k => match o with
    | .lookup t m' k' ok' => opdB m m' && opdB k k' && ok == ok' && (match mapO P t with | some (q, e) => ktB P kt q && (match (P.info? e).bind (·.zero) with | some z => valB z zv | none => false) && okConst zv | none => false)
    | _ => false
  | .mup kt m k x => match o with
    | .mapUpdate t m' k' x' => opdB m m' && opdB k k' && opdB x x' && (match mapO P t with | some (q, _) => ktB P kt q | none => false)
    | _ => false
  | .ldR _ n g a => match o with
    | .load t b => opdB a b && szO P t == some n && aggO P t == some g && (g || n == 1)
    | _ => false
  | .stR _ n a x => match o with
    | .store t b y => opdB a b && opdB x y && szO P t == some n
    | _ => false
  | .ldT n g a => match o with
    | .load t b => opdB a b && szO P t == some n && aggO P t == some g && (g || n == 1)
    | _ => false
  | .lkT kt zv ok m k => match o with
    | .lookup t m' k' ok' => opdB m m' && opdB k k' && ok == ok' && (match mapO P t with | some (q, e) => ktB P kt q && (match (P.info? e).bind (·.zero) with | some z => valB z zv | none => false) && okConst zv | none => false)
    | _ => false
  | .hcall f xs _ _ => match o with
    | .call c => (match c.callee with
      | .value (.func f') => f == f' && opdsB xs c.args.toList
      | _ => false)
    | _ => false
  | .call f xs => match o with
    | .call c => (match c.callee with
      | .value (.func f') => f == f' && opdsB xs c.args.toList
      | _ => false)
    | _ => false
  | .callv x xs => match o with
    | .call c => (match c.callee with
      | .value y => opdB x y && opdsB xs c.args.toList
      | _ => false)
    | _ => false

/-- The operands. -/
def IOp.opds : IOp → List Operand
  | .mv x | .box _ x | .load _ _ x | .ldR _ _ _ x | .ldT _ _ x | .fadr _ x | .fld _ _ _ x | .un _ x | .conv _ x | .bytesStr x | .runeStr x | .len _ x | .cap x | .isNil _ x | .ext x _ | .nck x | .rng x | .nxt x => [x]
  | .pick c a b => [c, a, b]
  | .alloc _ _ | .mkmap => []
  | .build ps => ps.map (·.2)
  | .bsl _ _ _ xs | .mmx _ xs | .mkf _ xs | .call _ xs | .hcall _ xs _ _ => xs
  | .callv x xs => x :: xs
  | .store _ a x | .stR _ _ a x | .iadr _ a x | .iadrA _ _ a x | .idxS a x | .idxA _ _ _ a x | .bin _ a x | .eqb _ a x | .app _ _ _ a x | .appT _ _ a x | .lkup _ _ _ a x | .lkT _ _ _ a x | .mk _ _ _ a x | .mkB _ _ a x => [a, x]
  | .slice _ x lo hi mx => [x] ++ lo.toList ++ hi.toList ++ mx.toList
  | .mup _ m k x => [m, k, x]

end Go.Lg
