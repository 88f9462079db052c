/- THE LOGIC, part 5: the operations that touch no region are sound. Conditions: none. -/
import Derived.Test.YtgnghiijbegacaaDoorLgA
import Derived.Laws.Cells
import Derived.Laws.CopyRow
import Derived.Laws.AppendOwn
import Derived.Laws.Slices
import Derived.ChangeKeysEq
import Derived.Laws.IdiomStrings
import Derived.Laws.Tables
import Derived.Laws.BytesString
namespace Go.Lg
open Go

/-- Lists of slots' contents against lists of values. -/
def ARs (w : World) (X : Nat → Prop) (μ : Loc) (sh : Nat → Option Sh) (as : List AV) (xs : List Value) : Prop := as.length = xs.length ∧ ∀ (k : Nat) (a : AV) (x : Value), as[k]? = some a → xs[k]? = some x → AR w X μ sh a x

section
variable {w : World} {X : Nat → Prop} {μ : Loc} {sh : Nat → Option Sh}
theorem ARs.nil : ARs w X μ sh [] [] := ⟨rfl, fun k a x h => by simp at h⟩
theorem ARs.cons {a : AV} {x : Value} {as : List AV} {xs : List Value} (h : AR w X μ sh a x) (hs : ARs w X μ sh as xs) : ARs w X μ sh (a :: as) (x :: xs) :=
  ⟨by simp [hs.1], fun k a' x' ha hx => by
    cases k with
    | zero => simp at ha hx; subst ha; subst hx; exact h
    | succ k => simp at ha hx; exact hs.2 k a' x' ha hx⟩
theorem ARs.cons_inv {a : AV} {as : List AV} {xs : List Value} (h : ARs w X μ sh (a :: as) xs) : ∃ x ys, xs = x :: ys ∧ AR w X μ sh a x ∧ ARs w X μ sh as ys := by
  cases xs with
  | nil => exact absurd h.1 (by simp)
  | cons x ys => exact ⟨x, ys, rfl, h.2 0 a x rfl rfl, by have := h.1; simpa using this, fun k a' x' ha hx => h.2 (k + 1) a' x' (by simpa using ha) (by simpa using hx)⟩
theorem ARs.nil_inv {xs : List Value} (h : ARs w X μ sh [] xs) : xs = [] := List.eq_nil_of_length_eq_zero h.1.symm
theorem ARs.get {as : List AV} {xs : List Value} (h : ARs w X μ sh as xs) {k : Nat} {a : AV} (ha : as[k]? = some a) : ∃ x, xs[k]? = some x ∧ AR w X μ sh a x := by
  have hk : k < xs.length := by rw [← h.1]; exact (List.getElem?_eq_some_iff.1 ha).1
  exact ⟨xs[k], by simp [hk], h.2 k a _ ha (by simp [hk])⟩
theorem ARs.drop {as : List AV} {xs : List Value} (h : ARs w X μ sh as xs) (n : Nat) : ARs w X μ sh (as.drop n) (xs.drop n) :=
  ⟨by simp [h.1], fun k t x ht hx => h.2 (n + k) t x (by simpa using ht) (by simpa using hx)⟩
theorem ARs.take {as : List AV} {xs : List Value} (h : ARs w X μ sh as xs) (n : Nat) : ARs w X μ sh (as.take n) (xs.take n) := by
  refine ⟨by simp [h.1], fun k t x ht hx => ?_⟩
  rw [List.getElem?_take] at ht hx
  split at ht
  · rename_i hk; rw [if_pos hk] at hx; exact h.2 k t x ht hx
  · cases ht
theorem ARs.append {as bs : List AV} {xs ys : List Value} (h : ARs w X μ sh as xs) (g : ARs w X μ sh bs ys) : ARs w X μ sh (as ++ bs) (xs ++ ys) := by
  induction as generalizing xs with
  | nil => rw [h.nil_inv]; simpa using g
  | cons t cs ih =>
    obtain ⟨x, zs, rfl, hx, hz⟩ := h.cons_inv
    exact ARs.cons hx (ih hz)
theorem ARs.ones {as : List AV} {xs : List Value} (h : ARs w X μ sh as xs) (h1 : onesA as = true) : ∀ x ∈ xs, x.oneCell' = true := by
  intro x hx
  obtain ⟨k, hk, rfl⟩ := List.getElem_of_mem hx
  have hk' : k < as.length := by rw [h.1]; exact hk
  exact (h.2 k as[k] xs[k] (by simp [hk']) (by simp [hk])).one (List.all_eq_true.1 h1 _ (List.getElem_mem hk'))
theorem TRs.ones {ts : List T} {xs : List Value} (h : TRs w X ts xs) (h1 : onesT ts = true) : ∀ x ∈ xs, x.oneCell' = true := by
  intro x hx
  obtain ⟨k, hk, rfl⟩ := List.getElem_of_mem hx
  have hk' : k < ts.length := by rw [h.1]; exact hk
  exact (h.2 k ts[k] xs[k] (by simp [hk']) (by simp [hk])).one (List.all_eq_true.1 h1 _ (List.getElem_mem hk'))
theorem ARs.ofT {ts : List T} {xs : List Value} (h : TRs w X ts xs) : ARs w X μ sh (ts.map .t) xs :=
  ⟨by simp [h.1], fun k a x ha hx => by
    simp only [List.getElem?_map, Option.map_eq_some_iff] at ha
    obtain ⟨t, ht, rfl⟩ := ha
    exact .t t x (h.2 k t x ht hx)⟩

theorem cells_one {x : Value} (h : x.oneCell' = true) : x.cells = #[x] := by cases x <;> first | rfl | simp [Value.oneCell'] at h

theorem AR.t_inv {t : T} {x : Value} (h : AR w X μ sh (.t t) x) : TR w X t x := by cases h; assumption
theorem TR.v_inv {v x : Value} (h : TR w X (.v v) x) : x = v := by cases h; rfl
theorem TR.agg_inv {cs : List T} {x : Value} (h : TR w X (.agg cs) x) : ∃ xs : List Value, x = .agg xs.toArray ∧ onesT cs = true ∧ TRs w X cs xs := by
  cases h with
  | agg cs xs hlen hone hrel =>
    refine ⟨xs, rfl, List.all_eq_true.2 fun t ht => ?_, hlen, hrel⟩
    obtain ⟨k, hk, rfl⟩ := List.getElem_of_mem ht
    exact hone k _ (by simp [hk])
theorem TR.tup_inv {cs : List T} {x : Value} (h : TR w X (.tup cs) x) : ∃ xs : List Value, x = .tuple xs.toArray ∧ TRs w X cs xs := by
  cases h with
  | tup cs xs hlen hrel => exact ⟨xs, rfl, hlen, hrel⟩
theorem AR.ag_inv {cs : List AV} {x : Value} (h : AR w X μ sh (.ag cs) x) : ∃ xs : List Value, x = .agg xs.toArray ∧ onesA cs = true ∧ ARs w X μ sh cs xs := by
  cases h with
  | ag cs xs hlen hone hrel =>
    refine ⟨xs, rfl, List.all_eq_true.2 fun t ht => ?_, hlen, hrel⟩
    obtain ⟨k, hk, rfl⟩ := List.getElem_of_mem ht
    exact hone k _ (by simp [hk])
theorem ones_get {ts : List T} (h : onesT ts = true) {k : Nat} {t : T} (ht : ts[k]? = some t) : t.one = true := by
  obtain ⟨hk, rfl⟩ := List.getElem?_eq_some_iff.1 ht
  exact List.all_eq_true.1 h _ (List.getElem_mem hk)
theorem onesA_get {ts : List AV} (h : onesA ts = true) {k : Nat} {t : AV} (ht : ts[k]? = some t) : t.one = true := by
  obtain ⟨hk, rfl⟩ := List.getElem?_eq_some_iff.1 ht
  exact List.all_eq_true.1 h _ (List.getElem_mem hk)
theorem TR.mk_agg {cs : List T} {xs : List Value} (h1 : onesT cs = true) (h : TRs w X cs xs) : TR w X (.agg cs) (.agg xs.toArray) := .agg cs xs h.1 (fun _ _ ht => ones_get h1 ht) h.2
theorem AR.mk_ag {cs : List AV} {xs : List Value} (h1 : onesA cs = true) (h : ARs w X μ sh cs xs) : AR w X μ sh (.ag cs) (.agg xs.toArray) := .ag cs xs h.1 (fun _ _ ht => onesA_get h1 ht) h.2
theorem TR.mk_tup {cs : List T} {xs : List Value} (h : TRs w X cs xs) : TR w X (.tup cs) (.tuple xs.toArray) := .tup cs xs h.1 h.2

/-- The cells of a value, and of what stands for it: where each is one cell. -/
theorem AR.cells {a : AV} {x : Value} (h : AR w X μ sh a x) (h1 : onesA a.cells = true) : ARs w X μ sh a.cells x.cells.toList := by
  have one : ∀ {b : AV}, b.one = true → AR w X μ sh b x → ARs w X μ sh [b] x.cells.toList := fun hb hx => by
    rw [cells_one (hx.one hb)]; exact ARs.cons hx ARs.nil
  have h1' : ∀ {b : AV}, onesA [b] = true → b.one = true := fun hb => by simpa [onesA] using hb
  cases a with
  | t x' =>
    cases x' with
    | agg ts =>
      obtain ⟨xs, rfl, _, hr⟩ := h.t_inv.agg_inv
      simpa [AV.cells, Value.cells] using ARs.ofT hr
    | _ => exact one (h1' h1) h
  | ag cs =>
    obtain ⟨xs, rfl, _, hr⟩ := h.ag_inv
    simpa [AV.cells, Value.cells] using hr
  | _ => exact one (h1' h1) h

theorem optAll_get {α : Type} {l : List (Option α)} {r : List α} (h : optAll l = some r) : l = r.map some := by
  induction l generalizing r with
  | nil => simp only [optAll, Option.some.injEq] at h; subst h; rfl
  | cons o l ih =>
    cases o with
    | none => simp [optAll] at h
    | some a =>
      simp only [optAll, Option.map_eq_some_iff] at h
      obtain ⟨r', h', rfl⟩ := h
      rw [ih h']; rfl

theorem toTs_some {as : List AV} {ts : List T} (h : toTs as = some ts) : as = ts.map .t := by
  unfold toTs at h
  have := optAll_get h
  clear h
  induction as generalizing ts with
  | nil => cases ts with
    | nil => rfl
    | cons t ts => simp at this
  | cons a as ih =>
    cases ts with
    | nil => simp at this
    | cons t ts =>
      simp only [List.map_cons, List.cons.injEq] at this
      obtain ⟨h1, h2⟩ := this
      cases a <;> simp only [toT1, Option.some.injEq, reduceCtorEq] at h1
      subst h1
      rw [ih h2]; rfl

theorem ARs.toT {as : List AV} {ts : List T} {xs : List Value} (h : ARs w X μ sh as xs) (ht : toTs as = some ts) : TRs w X ts xs := by
  rw [toTs_some ht] at h
  exact ⟨by simpa using h.1, fun k t x h1 h2 => (h.2 k (.t t) x (by simp [h1]) h2).t_inv⟩

theorem onesA_map (ts : List T) : onesA (ts.map .t) = onesT ts := by simp [onesA, onesT, List.all_map, Function.comp_def, AV.one]

theorem constT_ok (v : Value) : TR w X (constT v) v := by
  unfold constT
  split
  · exact .nil _ _ _ _ (by simp) (by simp) (by simp)
  · exact .mpnil
  · exact .v v
end

theorem constT_one {v : Value} (h : v.oneCell' = true) : (constT v).one = true := by
  unfold constT
  split <;> first | rfl | exact h

theorem constTT_ok {w : World} {X : Nat → Prop} (v : Value) (h : okConst v = true) : TR w X (constTT v) v := by
  unfold constTT
  split
  · rename_i cs
    refine TR.mk_agg (cs := cs.toList.map constT) (xs := cs.toList) ?_ ⟨by simp, ?_⟩
    · unfold okConst at h
      simp only [onesT, List.all_map, List.all_eq_true, Function.comp_def] at h ⊢
      exact fun x hx => constT_one (h x hx)
    · intro k t x ht hx
      simp only [List.getElem?_map, hx, Option.map_some, Option.some.injEq] at ht
      subst ht; exact constT_ok x
  · exact constT_ok v
theorem constAV_ok {w : World} {X : Nat → Prop} {μ : Loc} {sh : Nat → Option Sh} (v : Value) (h : okConst v = true) : AR w X μ sh (constAV v) v := .t _ _ (constTT_ok v h)

/-- The listed package-level variables hold what is listed. -/
def Gl (Γ : Tables) (w : World) (X : Nat → Prop) : Prop := ∀ g cs, Γ g = some cs → TR w X (.ip cs 0) (.pointer (some ⟨g, 0, none⟩))

theorem Gl.mono {Γ : Tables} {w w' : World} {X Y : Nat → Prop} (hs : Same X w w') (hxy : ∀ b, X b → Y b) (h : Gl Γ w X) : Gl Γ w' Y := fun g cs hg => (h g cs hg).mono hs hxy

theorem ev_ok {Γ : Tables} {w0 : World} {B : Nat} {κ : Loc} {X : Nat → Prop} {μ : Loc} {st : St} {tm : Array Value} {w : World} {ds : List Deferred} (h : Sim w0 B κ X μ st tm w) (hg : Gl Γ w X)
    {x : Operand} {a : AV} (hx : ev Γ st.env x = some a) (hk : okOpd x = true) : AR w X μ st.sh a (Act.eval ⟨tm, ds⟩ x) := by
  cases x with
  | tmp t => exact h.env t a hx
  | const v => simp only [ev, Option.some.injEq] at hx; subst hx; exact constAV_ok v hk
  | global g =>
    simp only [ev, Option.map_eq_some_iff] at hx
    obtain ⟨cs, hc, rfl⟩ := hx
    exact .t _ _ (hg g cs hc)
  | func f =>
    simp only [ev, Option.some.injEq] at hx; subst hx
    exact .t _ _ (.fn f [] [] rfl (fun k t x h => by simp at h))

theorem evs_ok {Γ : Tables} {w0 : World} {B : Nat} {κ : Loc} {X : Nat → Prop} {μ : Loc} {st : St} {tm : Array Value} {w : World} {ds : List Deferred} (h : Sim w0 B κ X μ st tm w) (hg : Gl Γ w X)
    {xs : List Operand} {as : List AV} (hx : evs Γ st.env xs = some as) (hk : xs.all okOpd = true) : ARs w X μ st.sh as (xs.map (Act.eval ⟨tm, ds⟩)) := by
  have h2 := optAll_get hx
  clear hx
  induction xs generalizing as with
  | nil => cases as with
    | nil => exact ARs.nil
    | cons a as => simp at h2
  | cons x xs ih =>
    cases as with
    | nil => simp at h2
    | cons a as =>
      simp only [List.map_cons, List.cons.injEq] at h2
      simp only [List.all_cons, Bool.and_eq_true] at hk
      exact ARs.cons (ev_ok h hg h2.1 hk.1) (ih hk.2 h2.2)

end Go.Lg

/- THE LOGIC, part 6: the operations that leave memory as it is, or make an immutable block, are sound. Conditions: none. -/
set_option linter.unusedSimpArgs false
namespace Go.Lg
open Go

/-- The operation runs, and the state behind it is related. -/
def Good (P : Program) (w0 : World) (B : Nat) (κ : Loc) (X : Nat → Prop) (o : Oper) (r : AV) (st1 : St) (tm : Array Value) (w : World) (ds : List Deferred) : Prop :=
  ∃ nx v w' μ' X', (execOp (Act.eval ⟨tm, ds⟩) o).run P w = .ok nx w' ∧ (nx = .value v ∨ nx = .skip ∧ v = undef) ∧ Sim w0 B κ X' μ' st1 tm w' ∧ AR w' X' μ' st1.sh r v ∧ (∀ b, X b → X' b) ∧ Same X w w' ∧ ∀ b, X' b → X b ∨ B ≤ b ∨ ∃ id n, κ id = some (b, n)

section
variable {P : Program} {Γ : Tables} {w0 : World} {B : Nat} {κ : Loc} {X : Nat → Prop} {μ : Loc} {st : St} {tm : Array Value} {w : World} {ds : List Deferred} {o : Oper}

theorem Good.same {r : AV} {v : Value} (h : Sim w0 B κ X μ st tm w) (hr : (execOp (Act.eval ⟨tm, ds⟩) o).run P w = .ok (.value v) w) (ha : AR w X μ st.sh r v) : Good P w0 B κ X o r st tm w ds :=
  ⟨_, v, w, μ, X, hr, .inl rfl, h, ha, fun _ hx => hx, fun _ _ => rfl, fun _ hx => .inl hx⟩

/-- A new block of cells that is immutable from the first. -/
theorem Good.block {r : AV} {v : Value} {arr : Array Value} {ty : TypeId} (h : Sim w0 B κ X μ st tm w) (n : Nat) (fr : Nat × Nat)
    (hr : (execOp (Act.eval ⟨tm, ds⟩) o).run P w = .ok (.value v) (World.alloc { w with drawn := n } (.cells arr ty fr)))
    (ha : AR (World.alloc { w with drawn := n } (.cells arr ty fr)) (fun b => X b ∨ b = w.heap.size) μ st.sh r v) : Good P w0 B κ X o r st tm w ds := by
  have hb : RowKit.Below w.heap.size w (World.alloc { w with drawn := n } (.cells arr ty fr)) :=
    ⟨rfl, rfl, rfl, by simp, fun k hk => RowKit.Below.heap_alloc { w with drawn := n } _ _ hk⟩
  refine ⟨_, v, _, μ, _, hr, .inl rfl, h.grow hb (fun _ hx => .inl hx) (fun b hx => ?_), ha, fun _ hx => .inl hx, fun b hx => hb.block b (h.xlt b hx), fun b hx => ?_⟩
  · rcases hx with hx | hx
    · exact .inl hx
    · exact .inr ⟨by omega, by simp; omega⟩
  rcases hx with hx | hx
  · exact .inl hx
  · exact .inr (.inl (by rw [hx]; exact h.size))

theorem g_mv {x : Operand} {a : AV} (h : Sim w0 B κ X μ st tm w) (hg : Gl Γ w X) (ho : o.op = .move x ∨ o.op = .assign x) (hx : ev Γ st.env x = some a) (hk : okOpd x = true) : Good P w0 B κ X o a st tm w ds :=
  Good.same h (v := Act.eval ⟨tm, ds⟩ x) (by rcases ho with ho | ho <;> simp [execOp, ho]) (ev_ok h hg hx hk)

theorem pickAV_ok {sh : Nat → Option Sh} {p : Bool} {a b : AV} {x y : Value} (ha : AR w X μ sh a x) (hb : AR w X μ sh b y) : AR w X μ sh (pickAV p a b) (if p then x else y) := by
  unfold pickAV
  split
  · cases ha.t_inv.v_inv; cases hb.t_inv.v_inv; cases p <;> exact .t _ _ (.v _)
  · cases ha.t_inv.v_inv; cases hb.t_inv.v_inv
    split
    · rename_i h; subst h; cases p <;> exact .t _ _ (.v _)
    · cases p <;> exact .t _ _ (.v _)
  · cases p <;> assumption

theorem g_pick {c a b : Operand} {p : Bool} {va vb : AV} (h : Sim w0 B κ X μ st tm w) (hg : Gl Γ w X) (ho : o.op = .pick c a b) (hc : ev Γ st.env c = some (.t (.v (.bool p)))) (hx : ev Γ st.env a = some va) (hy : ev Γ st.env b = some vb)
    (kc : okOpd c = true) (ka : okOpd a = true) (kb : okOpd b = true) : Good P w0 B κ X o (pickAV p va vb) st tm w ds := by
  have h1 := (ev_ok (ds := ds) h hg hc kc).t_inv.v_inv
  exact Good.same h (v := if p then Act.eval ⟨tm, ds⟩ a else Act.eval ⟨tm, ds⟩ b) (by simp [execOp, ho, h1, asBool]) (pickAV_ok (ev_ok h hg hx ka) (ev_ok h hg hy kb))

theorem binV_run {op : BinOp} {a b : Value} {c : Prop} {r : Value} (h : binV op a b = some (c, r)) (hc : c) (t : TypeId) (x y : Operand) (w : World) :
    (do eqGuard op t x y a b; binOp op t a b : Sem Value).run P w = .ok r w := by
  unfold binV at h
  split at h <;> (try (split at h)) <;> (try cases h) <;>
    first
      | (rename_i hkj; subst hkj; simp [go_sem, Op.intArith, Op.intDiv, Op.intBits]; done)
      | (rename_i hkj; subst hkj; simp [go_sem, Op.intArith, Op.intDiv, Op.intBits]; intro h0; exact absurd h0 hc)
      | (simp [go_sem, Op.shift, Int.not_lt.2 hc]; done)
      | (simp [go_sem, binOp, Op.stringOp]; done)
      | (simp [go_sem, binOp, Op.stringOp, IntKind.max, IntKind.signed, IntKind.bits]; omega)

theorem g_bin {op : BinOp} {t u : TypeId} {x y : Operand} {a b : Value} {c : Prop} {r : Value} (h : Sim w0 B κ X μ st tm w) (hg : Gl Γ w X) (ho : o.op = .binOp op t x y u) (hx : ev Γ st.env x = some (.t (.v a))) (hy : ev Γ st.env y = some (.t (.v b)))
    (kx : okOpd x = true) (ky : okOpd y = true) (hb : binV op a b = some (c, r)) (hc : c) : Good P w0 B κ X o (.t (.v r)) st tm w ds := by
  have h1 := (ev_ok (ds := ds) h hg hx kx).t_inv.v_inv
  have h2 := (ev_ok (ds := ds) h hg hy ky).t_inv.v_inv
  refine Good.same h (v := r) ?_ (.t _ _ (.v _))
  have := binV_run (P := P) hb hc t x y w
  simp only [execOp, ho, h1, h2] at this ⊢
  simp only [Sem.run_bind, this]
  rfl

end
end Go.Lg

/- THE LOGIC, part 7: loads, addresses, fields, lengths, small values are sound. Conditions: none. -/
set_option linter.unusedSimpArgs false
namespace Go.Lg
open Go
section
variable {P : Program} {Γ : Tables} {w0 : World} {B : Nat} {κ : Loc} {X : Nat → Prop} {μ : Loc} {st : St} {tm : Array Value} {w : World} {ds : List Deferred} {o : Oper}

theorem run_size {t : TypeId} {n : Nat} (h : szO P t = some n) (w : World) : (sizeOf t).run P w = .ok n w := by
  simp only [szO, Option.map_eq_some_iff] at h
  obtain ⟨i, hi, rfl⟩ := h
  simp [sizeOf, typeInfo, hi]
theorem run_agg {t : TypeId} {g : Bool} (h : aggO P t = some g) (w : World) : (isAgg t).run P w = .ok g w := by
  unfold aggO at h
  split at h <;> first
    | (rename_i hu; cases h; simp [isAgg, run_underlying hu]; done)
    | (rename_i d hu1 hu2 hu; cases h; simp only [isAgg, Sem.run_bind, run_underlying hu, Result.andThen_ok]; cases d <;> first | rfl | simp_all)
    | cases h

theorem run_loadAt {t : TypeId} {n : Nat} {g : Bool} (hz : szO P t = some n) (ha : aggO P t = some g) (hn : (g || n == 1) = true) {b off : Nat} {xs : List Value} (hl : xs.length = n)
    (hc : ∀ (j : Nat) (x : Value), xs[j]? = some x → w.cell? ⟨b, off + j, none⟩ = some x) :
    (Instr.loadAt t (.pointer (some ⟨b, off, none⟩))).run P w = .ok (if g then .agg xs.toArray else xs.headD undef) w := by
  cases g with
  | true =>
    subst hl
    have := run_loadCells_list (P := P) w ⟨b, off, none⟩ xs (fun j x hx => by rw [Addr.add_lit]; exact hc j x hx)
    simp only [Instr.loadAt, Instr.sureAddr, loadVar, Sem.run_bind, Sem.run_pure, Result.andThen_ok, run_agg ha, Sem.run_ite, if_true, run_size hz, this]
  | false =>
    have h1 : n = 1 := by simpa using hn
    subst h1
    match xs, hl with
    | [x], _ =>
      have := hc 0 x rfl
      simp [Instr.loadAt, Instr.sureAddr, loadVar, run_agg ha] at this ⊢
      simp [this]

theorem wrapT_ok {g : Bool} {ts : List T} {xs : List Value} (h : TRs w X ts xs) (h1 : onesT ts = true) (hn : (g || xs.length == 1) = true) : TR w X (wrapT g ts) (if g then .agg xs.toArray else xs.headD undef) := by
  cases g with
  | true => exact TR.mk_agg h1 h
  | false =>
    match xs, ts, h with
    | [x], t :: ts, h => exact h.2 0 t x rfl rfl
    | [x], [], h => exact absurd h.1 (by simp)
    | [], _, _ => simp at hn
    | _ :: _ :: _, _, _ => simp at hn
theorem wrapA_ok {μ : Loc} {sh : Nat → Option Sh} {g : Bool} {as : List AV} {xs : List Value} (h : ARs w X μ sh as xs) (h1 : onesA as = true) (hn : (g || xs.length == 1) = true) : AR w X μ sh (wrapA g as) (if g then .agg xs.toArray else xs.headD undef) := by
  cases g with
  | true => exact AR.mk_ag h1 h
  | false =>
    match xs, as, h with
    | [x], t :: ts, h => exact h.2 0 t x rfl rfl
    | [x], [], h => exact absurd h.1 (by simp)
    | [], _, _ => simp at hn
    | _ :: _ :: _, _, _ => simp at hn

theorem onesT_sub {ts : List T} (h : onesT ts = true) (k n : Nat) : onesT ((ts.drop k).take n) = true :=
  List.all_eq_true.2 fun t ht => List.all_eq_true.1 h t (List.mem_of_mem_drop (List.mem_of_mem_take ht))
theorem onesA_sub {ts : List AV} (h : onesA ts = true) (k n : Nat) : onesA ((ts.drop k).take n) = true :=
  List.all_eq_true.2 fun t ht => List.all_eq_true.1 h t (List.mem_of_mem_drop (List.mem_of_mem_take ht))

/-- A pointer into an immutable variable. -/
theorem TR.ip_inv {cs : List T} {k : Nat} {x : Value} (h : TR w X (.ip cs k) x) : ∃ b off xs, x = .pointer (some ⟨b, off + k, none⟩) ∧ X b ∧ onesT cs = true ∧ TRs w X cs xs ∧ ∀ (j : Nat) (x : Value), xs[j]? = some x → w.cell? ⟨b, off + j, none⟩ = some x := by
  cases h with
  | ip cs k b off f hcell hrel hone hx =>
    refine ⟨b, off, (List.range cs.length).map f, rfl, hx, List.all_eq_true.2 fun t ht => ?_, ⟨by simp, fun j t y ht hy => ?_⟩, fun j y hy => ?_⟩
    · obtain ⟨j, hj, rfl⟩ := List.getElem_of_mem ht; exact hone j _ (by simp [hj])
    · have hj := (List.getElem?_eq_some_iff.1 ht).1
      simp [hj] at hy; subst hy; exact hrel j t ht
    · simp only [List.getElem?_map, Option.map_eq_some_iff] at hy
      obtain ⟨i, hi, rfl⟩ := hy
      obtain ⟨hj, rfl⟩ := List.getElem?_eq_some_iff.1 hi
      simp only [List.getElem_range] at hj ⊢
      simp at hj
      exact hcell j hj

theorem TR.mk_ip {cs : List T} {k b off : Nat} {xs : List Value} (h1 : onesT cs = true) (h : TRs w X cs xs) (hx : X b) (hc : ∀ (j : Nat) (x : Value), xs[j]? = some x → w.cell? ⟨b, off + j, none⟩ = some x) : TR w X (.ip cs k) (.pointer (some ⟨b, off + k, none⟩)) := by
  refine .ip cs k b off (fun j => xs.getD j undef) (fun j hj => hc j _ ?_) (fun j t ht => ?_) (fun j t ht => ones_get h1 ht) hx
  · rw [h.1] at hj; simp [hj]
  · obtain ⟨x, hx', hr⟩ := h.get ht
    simpa [List.getD, hx'] using hr

theorem g_load_ip {t : TypeId} {n k : Nat} {g : Bool} {a : Operand} {cs : List T} (h : Sim w0 B κ X μ st tm w) (hg : Gl Γ w X) (ho : o.op = .load t a) (hx : ev Γ st.env a = some (.t (.ip cs k))) (kx : okOpd a = true)
    (hz : szO P t = some n) (ha : aggO P t = some g) (hn : (g || n == 1) = true) (hc : k + n ≤ cs.length) : Good P w0 B κ X o (.t (wrapT g ((cs.drop k).take n))) st tm w ds := by
  obtain ⟨b, off, xs, he, hxb, h1, hr, hcell⟩ := (ev_ok (ds := ds) h hg hx kx).t_inv.ip_inv
  have hlen : ((xs.drop k).take n).length = n := by have := hr.1; simp; omega
  refine Good.same h (v := if g then .agg ((xs.drop k).take n).toArray else ((xs.drop k).take n).headD undef) ?_ (.t _ _ (wrapT_ok ((hr.drop k).take n) (onesT_sub h1 k n) (by rw [hlen]; exact hn)))
  simp only [execOp, ho, he, Sem.run_bind]
  rw [run_loadAt hz ha hn hlen (fun j x hj => ?_)]
  · rfl
  · rw [List.getElem?_take] at hj
    split at hj
    · rw [List.getElem?_drop] at hj; rw [Nat.add_assoc]; exact hcell _ _ hj
    · cases hj

theorem AR.lp_inv {id i k : Nat} {sh : Nat → Option Sh} {x : Value} (h : AR w X μ sh (.lp id i k) x) : ∃ g m, μ id = some (g, m) ∧ ((∃ s n, sh id = some (.sl s n) ∧ x = .pointer (some ⟨g, i * s + k, none⟩)) ∨ (sh id = some .bx ∧ i = 0 ∧ x = .pointer (some ⟨g, k, none⟩))) := by
  cases h with
  | lpsl id i k s n g m hs hm => exact ⟨g, m, hm, .inl ⟨s, n, hs, rfl⟩⟩
  | lpbx id k g m hs hm => exact ⟨g, m, hm, .inr ⟨hs, rfl, rfl⟩⟩

theorem sh_of {id : Nat} {r : Reg} (h : look st.hp id = some r) : st.sh id = some r.sh := by simp [St.sh, h]

theorem g_load_bx {t : TypeId} {n id i k : Nat} {g : Bool} {a : Operand} {cs : List AV} (h : Sim w0 B κ X μ st tm w) (hg : Gl Γ w X) (ho : o.op = .load t a) (hx : ev Γ st.env a = some (.lp id i k)) (kx : okOpd a = true)
    (hz : szO P t = some n) (ha : aggO P t = some g) (hn : (g || n == 1) = true) (hl : look st.hp id = some (.bx cs)) (hc : k + n ≤ cs.length) : Good P w0 B κ X o (wrapA g ((cs.drop k).take n)) st tm w ds := by
  obtain ⟨gb, m, hm, hp⟩ := (ev_ok (ds := ds) h hg hx kx).lp_inv
  rcases hp with ⟨s, q, hs, _⟩ | ⟨hs, rfl, he⟩
  · rw [sh_of hl] at hs; cases hs
  obtain ⟨h1, g', arr, ty, hm', hheap, hsz, hr⟩ := h.reg id _ hl
  rw [hm] at hm'; cases hm'
  have hr : ARs w X μ st.sh cs arr.toList := ⟨by simp [hsz], fun k a x h2 h3 => hr k a x h2 (by simpa using h3)⟩
  have h1 : onesA cs = true := List.all_eq_true.2 fun t ht => by obtain ⟨j, hj, rfl⟩ := List.getElem_of_mem ht; exact h1 j _ (by simp [hj])
  have hlen : ((arr.toList.drop k).take n).length = n := by simp; omega
  refine Good.same h (v := if g then .agg ((arr.toList.drop k).take n).toArray else ((arr.toList.drop k).take n).headD undef) ?_ (wrapA_ok ((hr.drop k).take n) (onesA_sub h1 k n) (by rw [hlen]; exact hn))
  simp only [execOp, ho, he, Sem.run_bind]
  rw [run_loadAt hz ha hn hlen (fun j x hj => ?_)]
  · rfl
  · rw [List.getElem?_take] at hj
    split at hj
    · rw [List.getElem?_drop] at hj
      rw [cell_of_row w gb _ arr ty (0, 0) hheap]; simpa using hj
    · cases hj

theorem mul_fit {i len s : Nat} (h : i < len) : i * s + s ≤ len * s := by
  have := Nat.mul_le_mul_right s (show i + 1 ≤ len from h)
  rw [Nat.add_mul, Nat.one_mul] at this; exact this

/-- An element of a slice's region: its cells. -/
theorem RegOk.elem {sh : Nat → Option Sh} {id ty s : Nat} {es : List (List T)} (h : RegOk w X μ sh id (.sl ty s es)) {i : Nat} (hi : i < es.length) :
    ∃ g arr, μ id = some (g, arr.size) ∧ w.heap[g]? = some (.cells arr ty (0, 0)) ∧ es.length * s ≤ arr.size ∧ (es.getD i []).length = s ∧ onesT (es.getD i []) = true ∧ TRs w X (es.getD i []) ((arr.toList.drop (i * s)).take s) := by
  obtain ⟨hw, h⟩ := h
  have hei : es[i]? = some (es.getD i []) := by simp [hi]
  obtain ⟨hl, h1⟩ := hw i _ hei
  rcases h with ⟨he, _⟩ | ⟨g, arr, hm, hg, hle, hr⟩
  · subst he; simp at hi
  · refine ⟨g, arr, hm, hg, hle, hl, List.all_eq_true.2 fun t ht => ?_, ?_, fun k t x ht hx => ?_⟩
    · obtain ⟨j, hj, rfl⟩ := List.getElem_of_mem ht; exact h1 j _ (by simp [hj])
    · have := mul_fit (s := s) hi; rw [hl]; simp; omega
    · rw [List.getElem?_take] at hx
      split at hx
      · rw [List.getElem?_drop] at hx; exact hr i k _ t x hei ht (by simpa using hx)
      · cases hx

theorem g_load_sl {t : TypeId} {n id i k ty s : Nat} {g : Bool} {a : Operand} {es : List (List T)} (h : Sim w0 B κ X μ st tm w) (hg : Gl Γ w X) (ho : o.op = .load t a) (hx : ev Γ st.env a = some (.lp id i k)) (kx : okOpd a = true)
    (hz : szO P t = some n) (ha : aggO P t = some g) (hn : (g || n == 1) = true) (hl : look st.hp id = some (.sl ty s es)) (hi : i < es.length) (hc : k + n ≤ s) : Good P w0 B κ X o (.t (wrapT g (((es.getD i []).drop k).take n))) st tm w ds := by
  obtain ⟨gb, m, hm, hp⟩ := (ev_ok (ds := ds) h hg hx kx).lp_inv
  rcases hp with ⟨s', q, hs, he⟩ | ⟨hs, rfl, he⟩
  case inr => rw [sh_of hl] at hs; cases hs
  rw [sh_of hl] at hs
  simp only [Reg.sh, Option.some.injEq, Sh.sl.injEq] at hs
  obtain ⟨rfl, rfl⟩ := hs
  obtain ⟨g', arr, hm', hheap, hle, hlen, h1, hr⟩ := (h.reg id _ hl).elem hi
  rw [hm] at hm'; cases hm'
  have hfit := mul_fit (s := s) hi
  have hlen2 : ((((arr.toList.drop (i * s)).take s).drop k).take n).length = n := by simp; omega
  refine Good.same h (v := if g then .agg ((((arr.toList.drop (i * s)).take s).drop k).take n).toArray else ((((arr.toList.drop (i * s)).take s).drop k).take n).headD undef) ?_ (.t _ _ (wrapT_ok ((hr.drop k).take n) (onesT_sub h1 k n) (by rw [hlen2]; exact hn)))
  simp only [execOp, ho, he, Sem.run_bind]
  rw [run_loadAt hz ha hn hlen2 (fun j x hj => ?_)]
  · rfl
  · rw [List.getElem?_take] at hj
    split at hj
    · rw [List.getElem?_drop, List.getElem?_take] at hj
      split at hj
      · rw [List.getElem?_drop] at hj
        rw [cell_of_row w gb _ arr ty (0, 0) hheap, Nat.add_assoc]; simpa using hj
      · cases hj
    · cases hj

end
end Go.Lg

/- THE LOGIC, part 8: addresses, fields, lengths, slices of slices, small values are sound. Conditions: none. -/
set_option linter.unusedSimpArgs false
set_option linter.unusedVariables false
namespace Go.Lg
open Go
section
variable {P : Program} {Γ : Tables} {w0 : World} {B : Nat} {κ : Loc} {X : Nat → Prop} {μ : Loc} {st : St} {tm : Array Value} {w : World} {ds : List Deferred} {o : Oper}

theorem run_fieldAt {t : TypeId} {i off : Nat} {fs : Array Field} {f : Field} {s : Nat} (hu : P.underlying t = some (.struct fs)) (hf : fs[i]? = some f) (ho : f.offset = off) (hs : szO P f.type = some s) (hp : 0 < s) (b q : Nat) (w : World) :
    (Instr.fieldAt t (.pointer (some ⟨b, q, none⟩)) i).run P w = .ok (.pointer (some ⟨b, q + off, none⟩)) w := by
  have h0 : s ≠ 0 := by omega
  simp [Instr.fieldAt, run_underlying hu, hf, Instr.sureAddr, fieldPlace, run_size hs, h0, ho, Addr.add_lit]

theorem g_fadr {t : TypeId} {i off k : Nat} {fs : Array Field} {f : Field} {s : Nat} {a : Operand} {cs : List T} (h : Sim w0 B κ X μ st tm w) (hg : Gl Γ w X) (ho : o.op = .fieldAddr t a i) (kx : okOpd a = true)
    (hu : P.underlying t = some (.struct fs)) (hf : fs[i]? = some f) (hoff : f.offset = off) (hs : szO P f.type = some s) (hp : 0 < s) (hx : ev Γ st.env a = some (.t (.ip cs k))) : Good P w0 B κ X o (.t (.ip cs (k + off))) st tm w ds := by
  obtain ⟨b, q, xs, he, hxb, h1, hr, hcell⟩ := (ev_ok (ds := ds) h hg hx kx).t_inv.ip_inv
  refine Good.same h (v := .pointer (some ⟨b, q + k + off, none⟩)) (by simp [execOp, ho, he, run_fieldAt hu hf hoff hs hp]) (.t _ _ ?_)
  rw [Nat.add_assoc]; exact TR.mk_ip h1 hr hxb hcell

theorem g_fadr_lp {t : TypeId} {id j i off k : Nat} {fs : Array Field} {f : Field} {s : Nat} {a : Operand} (h : Sim w0 B κ X μ st tm w) (hg : Gl Γ w X) (ho : o.op = .fieldAddr t a i) (kx : okOpd a = true)
    (hu : P.underlying t = some (.struct fs)) (hf : fs[i]? = some f) (hoff : f.offset = off) (hs : szO P f.type = some s) (hp : 0 < s) (hx : ev Γ st.env a = some (.lp id j k)) : Good P w0 B κ X o (.lp id j (k + off)) st tm w ds := by
  obtain ⟨g, m, hm, hq⟩ := (ev_ok (ds := ds) h hg hx kx).lp_inv
  rcases hq with ⟨s', n, hs', he⟩ | ⟨hs', rfl, he⟩
  · refine Good.same h (v := .pointer (some ⟨g, j * s' + k + off, none⟩)) (by simp [execOp, ho, he, run_fieldAt hu hf hoff hs hp]) ?_
    rw [Nat.add_assoc]; exact .lpsl id j (k + off) s' n g m hs' hm
  · exact Good.same h (v := .pointer (some ⟨g, k + off, none⟩)) (by simp [execOp, ho, he, run_fieldAt hu hf hoff hs hp]) (.lpbx id (k + off) g m hs' hm)

theorem run_part {t : TypeId} {n off : Nat} {g : Bool} (hz : szO P t = some n) (ha : aggO P t = some g) (hn : (g || n == 1) = true) {xs : List Value} (hl : off + n ≤ xs.length) (w : World) :
    (part t xs.toArray off).run P w = .ok (if g then .agg ((xs.drop off).take n).toArray else ((xs.drop off).take n).headD undef) w := by
  cases g with
  | true =>
    simp only [part, Sem.run_bind, run_agg ha, Result.andThen_ok, if_true, run_size hz, Sem.run_pure]
    congr 2
    apply Array.ext'
    simp [List.take_drop]
  | false =>
    have h1 : n = 1 := by simpa using hn
    subst h1
    have hlt : off < xs.length := by omega
    have e : ((xs.drop off).take 1).headD undef = xs[off] := by rw [List.drop_eq_getElem_cons hlt]; rfl
    have e2 : xs.toArray[off]? = some xs[off] := by simp [hlt]
    simp only [part, Sem.run_bind, run_agg ha, Result.andThen_ok, Bool.false_eq_true, ↓reduceIte, e, e2, Sem.run_pure]

theorem run_field {t : TypeId} {i off n : Nat} {g : Bool} {fs : Array Field} {f : Field} (hu : P.underlying t = some (.struct fs)) (hf : fs[i]? = some f) (ho : f.offset = off) (hz : szO P f.type = some n) (ha : aggO P f.type = some g) (hn : (g || n == 1) = true)
    {xs : List Value} (hl : off + n ≤ xs.length) (w : World) : (Instr.field t (.agg xs.toArray) i).run P w = .ok (if g then .agg ((xs.drop off).take n).toArray else ((xs.drop off).take n).headD undef) w := by
  simp only [Instr.field, Sem.run_bind, run_underlying hu, Result.andThen_ok, hf, asAgg, Sem.run_pure, ho, run_part hz ha hn hl]

theorem g_fld_ag {t : TypeId} {i off n : Nat} {g : Bool} {fs : Array Field} {f : Field} {x : Operand} {cs : List AV} (h : Sim w0 B κ X μ st tm w) (hg : Gl Γ w X) (ho : o.op = .field t x i) (kx : okOpd x = true)
    (hu : P.underlying t = some (.struct fs)) (hf : fs[i]? = some f) (hoff : f.offset = off) (hz : szO P f.type = some n) (ha : aggO P f.type = some g) (hn : (g || n == 1) = true)
    (hx : ev Γ st.env x = some (.ag cs)) (hc : off + n ≤ cs.length) : Good P w0 B κ X o (wrapA g ((cs.drop off).take n)) st tm w ds := by
  obtain ⟨xs, he, h1, hr⟩ := (ev_ok (ds := ds) h hg hx kx).ag_inv
  have hl : off + n ≤ xs.length := by rw [← hr.1]; exact hc
  exact Good.same h (v := if g then .agg ((xs.drop off).take n).toArray else ((xs.drop off).take n).headD undef) (by simp only [execOp, ho, he, Sem.run_bind, run_field hu hf hoff hz ha hn hl]; rfl)
    (wrapA_ok ((hr.drop off).take n) (onesA_sub h1 off n) (by have : ((xs.drop off).take n).length = n := by simp; omega
                                                              rw [this]; exact hn))
theorem g_fld_t {t : TypeId} {i off n : Nat} {g : Bool} {fs : Array Field} {f : Field} {x : Operand} {cs : List T} (h : Sim w0 B κ X μ st tm w) (hg : Gl Γ w X) (ho : o.op = .field t x i) (kx : okOpd x = true)
    (hu : P.underlying t = some (.struct fs)) (hf : fs[i]? = some f) (hoff : f.offset = off) (hz : szO P f.type = some n) (ha : aggO P f.type = some g) (hn : (g || n == 1) = true)
    (hx : ev Γ st.env x = some (.t (.agg cs))) (hc : off + n ≤ cs.length) : Good P w0 B κ X o (.t (wrapT g ((cs.drop off).take n))) st tm w ds := by
  obtain ⟨xs, he, h1, hr⟩ := (ev_ok (ds := ds) h hg hx kx).t_inv.agg_inv
  have hl : off + n ≤ xs.length := by rw [← hr.1]; exact hc
  exact Good.same h (v := if g then .agg ((xs.drop off).take n).toArray else ((xs.drop off).take n).headD undef) (by simp only [execOp, ho, he, Sem.run_bind, run_field hu hf hoff hz ha hn hl]; rfl)
    (.t _ _ (wrapT_ok ((hr.drop off).take n) (onesT_sub h1 off n) (by have : ((xs.drop off).take n).length = n := by simp; omega
                                                                      rw [this]; exact hn)))

theorem slO_some {t e : TypeId} (h : slO P t = some e) : P.underlying t = some (.slice e) := by
  unfold slO at h; split at h <;> simp_all
theorem arO_some {t e : TypeId} {n : Nat} (h : arO P t = some (n, e)) : P.underlying t = some (.array n e) := by
  unfold arO at h; split at h <;> simp_all
theorem mapO_some {t k e : TypeId} (h : mapO P t = some (k, e)) : P.underlying t = some (.map k e) := by
  unfold mapO at h; split at h <;> simp_all
theorem intO_some {t : TypeId} {k : IntKind} (h : intO P t = some k) : P.underlying t = some (.int k) := by
  unfold intO at h; split at h <;> simp_all
theorem strO_some {t : TypeId} (h : strO P t = true) : P.underlying t = some .string := by
  unfold strO at h; split at h <;> simp_all

/-- A slice in immutable memory. -/
theorem TR.sl_inv {es : List (List T)} {cap : Option Nat} {nl : Option Bool} {x : Value} (h : TR w X (.sl es cap nl) x) :
    (es = [] ∧ ∃ a c, x = .slice a 0 c ∧ (∀ n, cap = some n → c = n) ∧ (∀ b, nl = some b → a.isNone = b) ∧ (a = none → c = 0)) ∨
    ∃ s b off c, x = .slice (some ⟨b, off, none⟩) es.length c ∧ X b ∧ es.length ≤ c ∧ (∀ n, cap = some n → c = n) ∧ (∀ q, nl = some q → q = false) ∧ wid s es ∧ (∀ e ∈ es, onesT e = true) ∧
      ∃ f : Nat → Nat → Value, (∀ i k, i < es.length → k < s → w.cell? ⟨b, off + i * s + k, none⟩ = some (f i k)) ∧ ∀ (i k : Nat) (e : List T) (t : T), es[i]? = some e → e[k]? = some t → TR w X t (f i k) := by
  cases h with
  | nil cap nl a c hc hn hz => exact .inl ⟨rfl, a, c, rfl, hc, hn, hz⟩
  | sl es cap nl s b off c f hcell hlen hrel hone hx hle hc hn =>
    refine .inr ⟨s, b, off, c, rfl, hx, hle, hc, hn, fun e he => ?_, fun e he => List.all_eq_true.2 fun t ht => ?_, f, hcell, hrel⟩
    · obtain ⟨i, hi, rfl⟩ := List.getElem_of_mem he; exact hlen i _ (by simp [hi])
    · obtain ⟨i, hi, rfl⟩ := List.getElem_of_mem he
      obtain ⟨k, hk, rfl⟩ := List.getElem_of_mem ht
      exact hone i k es[i] _ (by simp [hi]) (by simp [hk])

theorem TR.mk_sl {es : List (List T)} {cap : Option Nat} {nl : Option Bool} {s b off c : Nat} {f : Nat → Nat → Value} (hx : X b) (hle : es.length ≤ c) (hc : ∀ n, cap = some n → c = n) (hn : ∀ q, nl = some q → q = false) (hw : wid s es)
    (h1 : ∀ e ∈ es, onesT e = true) (hcell : ∀ i k, i < es.length → k < s → w.cell? ⟨b, off + i * s + k, none⟩ = some (f i k)) (hrel : ∀ (i k : Nat) (e : List T) (t : T), es[i]? = some e → e[k]? = some t → TR w X t (f i k)) :
    TR w X (.sl es cap nl) (.slice (some ⟨b, off, none⟩) es.length c) :=
  .sl es cap nl s b off c f hcell (fun i e he => hw e (List.mem_of_getElem? he)) hrel (fun i k e t he ht => ones_get (h1 e (List.mem_of_getElem? he)) ht) hx hle hc hn

theorem getD_mem {es : List (List T)} {i : Nat} (h : i < es.length) : es.getD i [] ∈ es ∧ es[i]? = some (es.getD i []) := by
  constructor
  · simp [List.getD, h]
  · simp [h]

theorem g_iadr {t e : TypeId} {s : Nat} {x i : Operand} {es : List (List T)} {cap : Option Nat} {nl : Option Bool} {k : IntKind} {n : Int} (h : Sim w0 B κ X μ st tm w) (hg : Gl Γ w X) (ho : o.op = .indexAddr t x i) (kx : okOpd x = true) (ki : okOpd i = true)
    (hu : slO P t = some e) (hz : szO P e = some s) (hx : ev Γ st.env x = some (.t (.sl es cap nl))) (hi : ev Γ st.env i = some (.t (.v (.int k n)))) (h0 : 0 ≤ n) (h1 : n < es.length) (hw : wid s es) :
    Good P w0 B κ X o (.t (.ip (es.getD n.toNat []) 0)) st tm w ds := by
  have hix := (ev_ok (ds := ds) h hg hi ki).t_inv.v_inv
  have hnl : n.toNat < es.length := by omega
  obtain ⟨hmem, hget⟩ := getD_mem hnl
  rcases (ev_ok (ds := ds) h hg hx kx).t_inv.sl_inv with ⟨rfl, _⟩ | ⟨s', b, off, c, he, hxb, hle, _, _, hw', hone, f, hcell, hrel⟩
  · simp at hnl
  have hss : s' = s := (hw' _ hmem).symm.trans (hw _ hmem)
  subst hss
  refine Good.same h (v := .pointer (some ⟨b, off + n.toNat * s', none⟩)) ?_ (.t _ _ ?_)
  · have hlt : (0 ≤ n ∧ n < (es.length : Int)) := ⟨h0, h1⟩
    simp [execOp, ho, he, hix, Instr.indexAt, asIntOf, run_underlying (slO_some hu), hlt, run_size hz, Addr.add_lit]
  · have := TR.mk_ip (w := w) (X := X) (cs := es.getD n.toNat []) (k := 0) (b := b) (off := off + n.toNat * s') (xs := (List.range s').map (f n.toNat)) (hone _ hmem)
      ⟨by rw [List.length_map, List.length_range]; exact hw _ hmem, fun q t' y ht hy => by
        have hq : q < s' := by rw [← hw _ hmem]; exact (List.getElem?_eq_some_iff.1 ht).1
        simp [hq] at hy; subst hy; exact hrel _ _ _ _ hget ht⟩ hxb (fun j y hy => by
        simp only [List.getElem?_map, Option.map_eq_some_iff] at hy
        obtain ⟨q, hq, rfl⟩ := hy
        obtain ⟨hj, rfl⟩ := List.getElem?_eq_some_iff.1 hq
        simp at hj
        simpa using hcell n.toNat j hnl hj)
    simpa using this

theorem AR.ls_inv {id off len : Nat} {cap : Option Nat} {sh : Nat → Option Sh} {x : Value} (h : AR w X μ sh (.ls id off len cap) x) :
    ∃ s n, sh id = some (.sl s n) ∧ ((μ id = none ∧ (∃ a, x = .slice a 0 0) ∧ off = 0 ∧ len = 0 ∧ ∀ q, cap = some q → q = 0) ∨
      ∃ g m c a, μ id = some (g, m) ∧ x = .slice (some a) len c ∧ off + len ≤ n ∧ len ≤ c ∧ c ≤ maxLen ∧ (off + c) * s ≤ m ∧ (cap = none → (off + c) * s = m) ∧ (∀ q, cap = some q → c = q) ∧ (c ≠ 0 ∨ off = 0 → a = ⟨g, off * s, none⟩)) := by
  cases h with
  | lsnil id s n hs hm a cap hc => exact ⟨s, n, hs, .inl ⟨hm, ⟨a, rfl⟩, rfl, rfl, hc⟩⟩
  | ls id off len s n g m c cap hs hm hle hlc hcm hfit hfull hc a ha => exact ⟨s, n, hs, .inr ⟨g, m, c, a, hm, rfl, hle, hlc, hcm, hfit, hfull, hc, ha⟩⟩

theorem g_iadr_ls {t e : TypeId} {ty s q : Nat} {es : List (List T)} {x i : Operand} {id off len : Nat} {cap : Option Nat} {k : IntKind} {n : Int} (h : Sim w0 B κ X μ st tm w) (hg : Gl Γ w X) (ho : o.op = .indexAddr t x i) (kx : okOpd x = true) (ki : okOpd i = true)
    (hu : slO P t = some e) (hz : szO P e = some s) (hx : ev Γ st.env x = some (.ls id off len cap)) (hl : look st.hp id = some (.sl ty q es)) (hq : q = s) (hi : ev Γ st.env i = some (.t (.v (.int k n)))) (h0 : 0 ≤ n) (h1 : n < len) :
    Good P w0 B κ X o (.lp id (off + n.toNat) 0) st tm w ds := by
  have hix := (ev_ok (ds := ds) h hg hi ki).t_inv.v_inv
  obtain ⟨s', n', hs, hcase⟩ := (ev_ok (ds := ds) h hg hx kx).ls_inv
  have hs' := hs
  rw [sh_of hl] at hs
  simp only [Reg.sh, Option.some.injEq, Sh.sl.injEq] at hs
  obtain ⟨rfl, rfl⟩ := hs
  subst hq
  rcases hcase with ⟨_, _, _, rfl, _⟩ | ⟨g, m, c, a, hm, he, hle, hlc, hcm, hfit, _, _, ha⟩
  · omega
  have hc0 : c ≠ 0 := by omega
  rw [ha (.inl hc0)] at he
  refine Good.same h (v := .pointer (some ⟨g, (off + n.toNat) * q + 0, none⟩)) ?_ (.lpsl id _ 0 q es.length g m hs' hm)
  have hlt : (0 ≤ n ∧ n < (len : Int)) := ⟨h0, h1⟩
  simp [execOp, ho, he, hix, Instr.indexAt, asIntOf, run_underlying (slO_some hu), hlt, run_size hz, Addr.add_lit, Nat.add_mul]

theorem g_iadrA_ip {t e : TypeId} {l s kk : Nat} {x i : Operand} {cs : List T} {k : IntKind} {n : Int} (h : Sim w0 B κ X μ st tm w) (hg : Gl Γ w X) (ho : o.op = .indexAddr t x i) (kx : okOpd x = true) (ki : okOpd i = true)
    (hu : arO P t = some (l, e)) (hz : szO P e = some s) (hx : ev Γ st.env x = some (.t (.ip cs kk))) (hi : ev Γ st.env i = some (.t (.v (.int k n)))) (h0 : 0 ≤ n) (h1 : n < l) :
    Good P w0 B κ X o (.t (.ip cs (kk + n.toNat * s))) st tm w ds := by
  have hix := (ev_ok (ds := ds) h hg hi ki).t_inv.v_inv
  obtain ⟨b, q, xs, he, hxb, hone, hr, hcell⟩ := (ev_ok (ds := ds) h hg hx kx).t_inv.ip_inv
  refine Good.same h (v := .pointer (some ⟨b, q + (kk + n.toNat * s), none⟩)) ?_ (.t _ _ (TR.mk_ip hone hr hxb hcell))
  have hlt : (0 ≤ n ∧ n < (l : Int)) := ⟨h0, h1⟩
  simp [execOp, ho, he, hix, Instr.indexAt, Instr.sureAddr, asIntOf, run_underlying (arO_some hu), hlt, run_size hz, Addr.add_lit, Nat.add_assoc]

theorem g_iadrA_lp {t e : TypeId} {l s id j kk : Nat} {x i : Operand} {k : IntKind} {n : Int} (h : Sim w0 B κ X μ st tm w) (hg : Gl Γ w X) (ho : o.op = .indexAddr t x i) (kx : okOpd x = true) (ki : okOpd i = true)
    (hu : arO P t = some (l, e)) (hz : szO P e = some s) (hx : ev Γ st.env x = some (.lp id j kk)) (hi : ev Γ st.env i = some (.t (.v (.int k n)))) (h0 : 0 ≤ n) (h1 : n < l) :
    Good P w0 B κ X o (.lp id j (kk + n.toNat * s)) st tm w ds := by
  have hix := (ev_ok (ds := ds) h hg hi ki).t_inv.v_inv
  have hlt : (0 ≤ n ∧ n < (l : Int)) := ⟨h0, h1⟩
  obtain ⟨g, m, hm, hq⟩ := (ev_ok (ds := ds) h hg hx kx).lp_inv
  rcases hq with ⟨s', n', hs', he⟩ | ⟨hs', rfl, he⟩
  · refine Good.same h (v := .pointer (some ⟨g, j * s' + (kk + n.toNat * s), none⟩)) ?_ (.lpsl id j _ s' n' g m hs' hm)
    simp [execOp, ho, he, hix, Instr.indexAt, Instr.sureAddr, asIntOf, run_underlying (arO_some hu), hlt, run_size hz, Addr.add_lit, Nat.add_assoc]
  · refine Good.same h (v := .pointer (some ⟨g, kk + n.toNat * s, none⟩)) ?_ (.lpbx id _ g m hs' hm)
    simp [execOp, ho, he, hix, Instr.indexAt, Instr.sureAddr, asIntOf, run_underlying (arO_some hu), hlt, run_size hz, Addr.add_lit, Nat.add_assoc]

theorem g_idxS {t : TypeId} {x i : Operand} {s : ByteArray} {k : IntKind} {n : Int} (h : Sim w0 B κ X μ st tm w) (hg : Gl Γ w X) (ho : o.op = .index t x i) (kx : okOpd x = true) (ki : okOpd i = true)
    (hu : strO P t = true) (hx : ev Γ st.env x = some (.t (.v (.string s)))) (hi : ev Γ st.env i = some (.t (.v (.int k n)))) (h0 : 0 ≤ n) (h1 : n < s.size) :
    Good P w0 B κ X o (.t (.v (.int .u8 (s.data.getD n.toNat 0).toNat))) st tm w ds := by
  have hix := (ev_ok (ds := ds) h hg hi ki).t_inv.v_inv
  have hsx := (ev_ok (ds := ds) h hg hx kx).t_inv.v_inv
  refine Good.same h (v := .int .u8 (s.data.getD n.toNat 0).toNat) ?_ (.t _ _ (.v _))
  have hlt : n.toNat < s.data.size := by have : s.size = s.data.size := rfl; omega
  have hlt' : n.toNat < s.size := by omega
  have hget : s[n.toNat]? = some (s.data.getD n.toNat 0) := by
    rw [getElem?_pos s n.toNat hlt']
    simp only [Array.getD, hlt, ↓reduceDIte, Option.some.injEq]; rfl
  simp [execOp, ho, hsx, hix, Instr.index, asIntOf, run_underlying (strO_some hu), h0, hget]

theorem g_idxA_t {t e : TypeId} {l s : Nat} {g : Bool} {x i : Operand} {cs : List T} {k : IntKind} {n : Int} (h : Sim w0 B κ X μ st tm w) (hg : Gl Γ w X) (ho : o.op = .index t x i) (kx : okOpd x = true) (ki : okOpd i = true)
    (hu : arO P t = some (l, e)) (hz : szO P e = some s) (ha : aggO P e = some g) (hn : (g || s == 1) = true) (hx : ev Γ st.env x = some (.t (.agg cs))) (hi : ev Γ st.env i = some (.t (.v (.int k n)))) (h0 : 0 ≤ n) (h1 : n < l) (hc : n.toNat * s + s ≤ cs.length) :
    Good P w0 B κ X o (.t (wrapT g ((cs.drop (n.toNat * s)).take s))) st tm w ds := by
  have hix := (ev_ok (ds := ds) h hg hi ki).t_inv.v_inv
  obtain ⟨xs, he, hone, hr⟩ := (ev_ok (ds := ds) h hg hx kx).t_inv.agg_inv
  have hl : n.toNat * s + s ≤ xs.length := by rw [← hr.1]; exact hc
  refine Good.same h (v := if g then .agg ((xs.drop (n.toNat * s)).take s).toArray else ((xs.drop (n.toNat * s)).take s).headD undef) ?_
    (.t _ _ (wrapT_ok ((hr.drop _).take s) (onesT_sub hone _ s) (by have : ((xs.drop (n.toNat * s)).take s).length = s := by simp; omega
                                                                    rw [this]; exact hn)))
  have hlt : (0 ≤ n ∧ n < (l : Int)) := ⟨h0, h1⟩
  simp only [execOp, ho, he, hix, Instr.index, asIntOf, Sem.run_bind, Sem.run_pure, Result.andThen_ok, run_underlying (arO_some hu), hlt, and_self, if_true, run_size hz, run_part hz ha hn hl]

theorem g_idxA_ag {t e : TypeId} {l s : Nat} {g : Bool} {x i : Operand} {cs : List AV} {k : IntKind} {n : Int} (h : Sim w0 B κ X μ st tm w) (hg : Gl Γ w X) (ho : o.op = .index t x i) (kx : okOpd x = true) (ki : okOpd i = true)
    (hu : arO P t = some (l, e)) (hz : szO P e = some s) (ha : aggO P e = some g) (hn : (g || s == 1) = true) (hx : ev Γ st.env x = some (.ag cs)) (hi : ev Γ st.env i = some (.t (.v (.int k n)))) (h0 : 0 ≤ n) (h1 : n < l) (hc : n.toNat * s + s ≤ cs.length) :
    Good P w0 B κ X o (wrapA g ((cs.drop (n.toNat * s)).take s)) st tm w ds := by
  have hix := (ev_ok (ds := ds) h hg hi ki).t_inv.v_inv
  obtain ⟨xs, he, hone, hr⟩ := (ev_ok (ds := ds) h hg hx kx).ag_inv
  have hl : n.toNat * s + s ≤ xs.length := by rw [← hr.1]; exact hc
  refine Good.same h (v := if g then .agg ((xs.drop (n.toNat * s)).take s).toArray else ((xs.drop (n.toNat * s)).take s).headD undef) ?_
    (wrapA_ok ((hr.drop _).take s) (onesA_sub hone _ s) (by have : ((xs.drop (n.toNat * s)).take s).length = s := by simp; omega
                                                            rw [this]; exact hn))
  have hlt : (0 ≤ n ∧ n < (l : Int)) := ⟨h0, h1⟩
  simp only [execOp, ho, he, hix, Instr.index, asIntOf, Sem.run_bind, Sem.run_pure, Result.andThen_ok, run_underlying (arO_some hu), hlt, and_self, if_true, run_size hz, run_part hz ha hn hl]

theorem g_un {op : UnOp} {t : TypeId} {x : Operand} {a r : Value} (h : Sim w0 B κ X μ st tm w) (hg : Gl Γ w X) (ho : o.op = .unOp op t x) (hx : ev Γ st.env x = some (.t (.v a))) (kx : okOpd x = true) (hb : unV op a = some r) : Good P w0 B κ X o (.t (.v r)) st tm w ds := by
  have h1 := (ev_ok (ds := ds) h hg hx kx).t_inv.v_inv
  refine Good.same h (v := r) ?_ (.t _ _ (.v _))
  unfold unV at hb
  split at hb <;> cases hb <;> simp [execOp, ho, h1, Op.unary, Op.intArith]

theorem g_conv {src dst : TypeId} {k k' : IntKind} {x : Operand} {n : Int} (h : Sim w0 B κ X μ st tm w) (hg : Gl Γ w X) (ho : o.op = .convert src dst x) (hx : ev Γ st.env x = some (.t (.v (.int k' n)))) (kx : okOpd x = true) (hs : (P.underlying src).isSome = true) (hd : intO P dst = some k) :
    Good P w0 B κ X o (.t (.v (.int k (k.wrap n)))) st tm w ds := by
  have h1 := (ev_ok (ds := ds) h hg hx kx).t_inv.v_inv
  obtain ⟨d, hd'⟩ := Option.isSome_iff_exists.mp hs
  exact Good.same h (v := .int k (k.wrap n)) (by simp [execOp, ho, h1, convert, run_underlying hd', run_underlying (intO_some hd), Conv.intToInt]) (.t _ _ (.v _))

theorem g_rune {src dst : TypeId} {k k' : IntKind} {x : Operand} {n : Int} (h : Sim w0 B κ X μ st tm w) (hg : Gl Γ w X) (ho : o.op = .convert src dst x) (hx : ev Γ st.env x = some (.t (.v (.int k' n)))) (kx : okOpd x = true) (hs : intO P src = some k) (hd : strO P dst = true) :
    Good P w0 B κ X o (.t (.v (.string (Utf8.encode n)))) st tm w ds := by
  have h1 := (ev_ok (ds := ds) h hg hx kx).t_inv.v_inv
  exact Good.same h (v := .string (Utf8.encode n)) (by simp [execOp, ho, h1, convert, run_underlying (intO_some hs), run_underlying (strO_some hd), Conv.intToString]) (.t _ _ (.v _))

theorem g_ext {x : Operand} {i : Nat} {vs : List T} {t : T} (h : Sim w0 B κ X μ st tm w) (hg : Gl Γ w X) (ho : o.op = .extract x i) (hx : ev Γ st.env x = some (.t (.tup vs))) (kx : okOpd x = true) (hi : vs[i]? = some t) : Good P w0 B κ X o (.t t) st tm w ds := by
  obtain ⟨xs, he, hr⟩ := (ev_ok (ds := ds) h hg hx kx).t_inv.tup_inv
  obtain ⟨y, hy, hty⟩ := hr.get hi
  exact Good.same h (v := y) (by simp [execOp, ho, he, Instr.extract, hy]) (.t _ _ hty)

theorem g_nck {x : Operand} {a : AV} (h : Sim w0 B κ X μ st tm w) (hg : Gl Γ w X) (ho : o.op = .nilCheck x) (hx : ev Γ st.env x = some a) (kx : okOpd x = true) (ha : (∃ cs k, a = .t (.ip cs k)) ∨ (∃ id i k, a = .lp id i k) ∨ (∃ f cs, a = .t (.fn f cs)) ∨ (∃ f cs, a = .fn f cs)) :
    Good P w0 B κ X o a st tm w ds := by
  have h1 := ev_ok (ds := ds) h hg hx kx
  refine Good.same h (v := Act.eval ⟨tm, ds⟩ x) ?_ h1
  rcases ha with ⟨cs, k, rfl⟩ | ⟨id, i, k, rfl⟩ | ⟨f, cs, rfl⟩ | ⟨f, cs, rfl⟩
  · obtain ⟨b, off, xs, he, _⟩ := h1.t_inv.ip_inv
    simp [execOp, ho, he]
  · obtain ⟨g, m, hm, hq⟩ := h1.lp_inv
    rcases hq with ⟨s', n', hs', he⟩ | ⟨hs', _, he⟩ <;> simp [execOp, ho, he]
  · generalize hv : Act.eval ⟨tm, ds⟩ x = y at h1
    cases h1.t_inv with
    | fn f cs xs hlen hrel => simp [execOp, ho, hv]
  · generalize hv : Act.eval ⟨tm, ds⟩ x = y at h1
    cases h1 with
    | fn f cs xs hlen hrel => simp [execOp, ho, hv]

end
end Go.Lg

/- THE LOGIC, part 9: lengths, tests, functions, new blocks, composites are sound. Conditions: none. -/
set_option linter.unusedSimpArgs false
set_option linter.unusedVariables false
namespace Go.Lg
open Go
section
variable {P : Program} {Γ : Tables} {w0 : World} {B : Nat} {κ : Loc} {X : Nat → Prop} {μ : Loc} {st : St} {tm : Array Value} {w : World} {ds : List Deferred} {o : Oper}

theorem TR.sl_val {es : List (List T)} {cap : Option Nat} {nl : Option Bool} {x : Value} (h : TR w X (.sl es cap nl) x) : ∃ a c, x = .slice a es.length c ∧ (∀ n, cap = some n → c = n) ∧ (∀ b, nl = some b → a.isNone = b) ∧ (es ≠ [] → a.isNone = false) := by
  rcases h.sl_inv with ⟨rfl, a, c, rfl, hc, hn, hz⟩ | ⟨s, b, off, c, rfl, hx, hle, hc, hn, _⟩
  · exact ⟨a, c, rfl, hc, hn, fun h => absurd rfl h⟩
  · exact ⟨_, c, rfl, hc, fun b hb => (hn b hb).symm, fun _ => rfl⟩

theorem TR.mp_inv {es : List (Value × T)} {x : Value} (h : TR w X (.mp es) x) : (es = [] ∧ x = .map none) ∨ ∃ (r clock : Nat) (ms : List MapEntry), x = .map (some r) ∧ w.heap[r]? = some (.map ms.toArray clock) ∧ X r ∧ es.length = ms.length ∧
    ∀ (i : Nat) (e : Value × T) (m : MapEntry), es[i]? = some e → ms[i]? = some m → m.key = e.1 ∧ TR w X e.2 m.val := by
  cases h with
  | mpnil => exact .inl ⟨rfl, rfl⟩
  | mp es r clock ms hheap hx hlen hkey hrel => exact .inr ⟨r, clock, ms, rfl, hheap, hx, hlen, fun i e m h1 h2 => ⟨hkey i e m h1 h2, hrel i e m h1 h2⟩⟩

theorem AR.lm_inv {id : Nat} {sh : Nat → Option Sh} {x : Value} (h : AR w X μ sh (.lm id) x) : ∃ g m, sh id = some .mp ∧ μ id = some (g, m) ∧ x = .map (some g) := by
  cases h with
  | lm id g m hs hm => exact ⟨g, m, hs, hm, rfl⟩
theorem AR.lb_inv {id m : Nat} {sh : Nat → Option Sh} {x : Value} (h : AR w X μ sh (.lb id m) x) : ∃ g, sh id = some .bx ∧ μ id = some (g, m) ∧ m ≤ maxLen ∧ x = .slice (some ⟨g, 0, none⟩) m m := by
  cases h with
  | lb id g m hs hm hle => exact ⟨g, hs, hm, hle, rfl⟩
theorem AR.li_inv {id : Nat} {sh : Nat → Option Sh} {x : Value} (h : AR w X μ sh (.li id) x) : ∃ g m, sh id = some .it ∧ μ id = some (g, m) ∧ x = .pointer (some ⟨g, 0, none⟩) := by
  cases h with
  | li id g m hs hm => exact ⟨g, m, hs, hm, rfl⟩

/-- A type and a value that go together, as 'len' asks. -/
def lenFits (d : Option TypeDesc) (a : AV) : Bool := match d, a with
  | some .string, .t (.v (.string _)) => true
  | some (.slice _), .t (.sl _ _ _) | some (.slice _), .ls _ _ _ _ | some (.slice _), .lb _ _ => true
  | some (.map _ _), .t (.mp _) | some (.map _ _), .lm _ => true
  | _, _ => false

theorem g_len {t : TypeId} {x : Operand} {a : AV} {n : Nat} (h : Sim w0 B κ X μ st tm w) (hg : Gl Γ w X) (ho : o.op = .call { callee := .builtin .len, args := #[x], argTypes := #[t] }) (kx : okOpd x = true)
    (hx : ev Γ st.env x = some a) (hd : lenFits (P.underlying t) a = true) (hn : lenOf st.hp a = some n) : Good P w0 B κ X o (.t (.v (.int .i64 n))) st tm w ds := by
  refine Good.same h (v := .int .i64 n) ?_ (.t _ _ (.v _))
  have hr := ev_ok (ds := ds) h hg hx kx
  unfold lenFits at hd
  split at hd <;> rename_i hu
  · simp only [lenOf, Option.some.injEq] at hn; subst hn
    have := hr.t_inv.v_inv
    simp [execOp, ho, resolve, invoke, builtin, this, Builtin.len_, run_underlying hu, goInt]
  · simp only [lenOf, Option.some.injEq] at hn; subst hn
    obtain ⟨b, c, he, _⟩ := hr.t_inv.sl_val
    simp [execOp, ho, resolve, invoke, builtin, he, Builtin.len_, run_underlying hu, goInt]
  · simp only [lenOf, Option.some.injEq] at hn; subst hn
    obtain ⟨s, q, _, hc⟩ := hr.ls_inv
    rcases hc with ⟨_, ⟨a0, he⟩, _, rfl, _⟩ | ⟨g, m, c, b, _, he, _⟩ <;> simp [execOp, ho, resolve, invoke, builtin, he, Builtin.len_, run_underlying hu, goInt]
  · simp only [lenOf, Option.some.injEq] at hn; subst hn
    obtain ⟨g, _, _, _, he⟩ := hr.lb_inv
    simp [execOp, ho, resolve, invoke, builtin, he, Builtin.len_, run_underlying hu, goInt]
  · simp only [lenOf, Option.some.injEq] at hn; subst hn
    rcases hr.t_inv.mp_inv with ⟨rfl, he⟩ | ⟨r, clock, ms, he, hh, _, hl, _⟩
    · simp [execOp, ho, resolve, invoke, builtin, he, Builtin.len_, run_underlying hu, goInt]
    · simp [execOp, ho, resolve, invoke, builtin, he, Builtin.len_, run_underlying hu, goInt, hl, getObj, Sem.run, hh]
  · obtain ⟨g, m, hs, hm, he⟩ := hr.lm_inv
    simp only [lenOf] at hn
    split at hn
    · rename_i es hl
      simp only [Option.some.injEq] at hn; subst hn
      obtain ⟨g', n', clock, ms, hm', hh, hle, _⟩ := h.reg _ _ hl
      rw [hm] at hm'; cases hm'
      simp [execOp, ho, resolve, invoke, builtin, he, Builtin.len_, run_underlying hu, goInt, hle, getObj, Sem.run, hh]
    · cases hn
  · cases hd

theorem g_cap {t e : TypeId} {x : Operand} {a : AV} {n : Nat} (h : Sim w0 B κ X μ st tm w) (hg : Gl Γ w X) (ho : o.op = .call { callee := .builtin .cap, args := #[x], argTypes := #[t] }) (kx : okOpd x = true)
    (hu : slO P t = some e) (hx : ev Γ st.env x = some a) (ha : (∃ es nl, a = .t (.sl es (some n) nl)) ∨ ∃ id off len, a = .ls id off len (some n)) : Good P w0 B κ X o (.t (.v (.int .i64 n))) st tm w ds := by
  refine Good.same h (v := .int .i64 n) ?_ (.t _ _ (.v _))
  have hr := ev_ok (ds := ds) h hg hx kx
  rcases ha with ⟨es, nl, rfl⟩ | ⟨id, off, len, rfl⟩
  · obtain ⟨b, c, he, hc, _⟩ := hr.t_inv.sl_val
    cases hc n rfl
    simp [execOp, ho, resolve, invoke, builtin, he, Builtin.cap_, run_underlying (slO_some hu), goInt]
  · obtain ⟨s, q, _, hc⟩ := hr.ls_inv
    rcases hc with ⟨_, ⟨_, he⟩, _, rfl, hc⟩ | ⟨g, m, c, b, _, he, _, _, _, _, _, hc, _⟩
    · have := hc n rfl; subst this
      simp [execOp, ho, resolve, invoke, builtin, he, Builtin.cap_, run_underlying (slO_some hu), goInt]
    · cases hc n rfl
      simp [execOp, ho, resolve, invoke, builtin, he, Builtin.cap_, run_underlying (slO_some hu), goInt]

theorem run_eqlIn_slice (d : Nat) {t e : TypeId} {a b : Value} (hu : slO P t = some e) (y : Option Addr) (n m : Nat) (h : (a = .slice y n m ∧ b = .slice none 0 0) ∨ (b = .slice y n m ∧ a = .slice none 0 0)) (w : World) : (Op.equalIn (d + 1) t a b).run P w = .ok y.isNone w := by
  rcases h with ⟨rfl, rfl⟩ | ⟨rfl, rfl⟩
  · cases y <;> simp [Op.equalIn, run_underlying (slO_some hu)]
  · simp [Op.equalIn, run_underlying (slO_some hu)]
theorem run_eql_slice {t e : TypeId} {a b : Value} (hu : slO P t = some e) (y : Option Addr) (n m : Nat) (h : (a = .slice y n m ∧ b = .slice none 0 0) ∨ (b = .slice y n m ∧ a = .slice none 0 0)) (w : World) : (Op.equal t a b).run P w = .ok y.isNone w :=
  run_eqlIn_slice 9999 hu y n m h w
theorem run_eqlIn_bool (d : Nat) {t : TypeId} (hu : P.underlying t = some .bool) (a b : Bool) (w : World) : (Op.equalIn (d + 1) t (.bool a) (.bool b)).run P w = .ok (a == b) w := by
  simp [Op.equalIn, run_underlying hu]
theorem run_eql_bool {t : TypeId} (hu : P.underlying t = some .bool) (a b : Bool) (w : World) : (Op.equal t (.bool a) (.bool b)).run P w = .ok (a == b) w := run_eqlIn_bool 9999 hu a b w

theorem g_isNil {t e u : TypeId} {pos : Bool} {x p q : Operand} {es : List (List T)} {cap : Option Nat} {nl : Option Bool} {r : Bool} (h : Sim w0 B κ X μ st tm w) (hg : Gl Γ w X) (ho : o.op = .binOp (if pos then .eql else .neq) t p q u) (hpq : (p = x ∧ q = .const (.slice none 0 0)) ∨ (q = x ∧ p = .const (.slice none 0 0)))
    (kx : okOpd x = true) (hu : slO P t = some e) (hx : ev Γ st.env x = some (.t (.sl es cap nl))) (hr : (∃ b, nl = some b ∧ r = (b == pos)) ∨ (es ≠ [] ∧ r = !pos)) : Good P w0 B κ X o (.t (.v (.bool r))) st tm w ds := by
  refine Good.same h (v := .bool r) ?_ (.t _ _ (.v _))
  obtain ⟨a, c, he, _, hn, hne⟩ := (ev_ok (ds := ds) h hg hx kx).t_inv.sl_val
  have hr2 : r = (a.isNone == pos) := by
    rcases hr with ⟨b, rfl, rfl⟩ | ⟨h1, rfl⟩
    · rw [hn b rfl]
    · rw [hne h1]; cases pos <;> rfl
  have hrun : ∀ A B : Value, ((A = .slice a es.length c ∧ B = .slice none 0 0) ∨ (B = .slice a es.length c ∧ A = .slice none 0 0)) → (do eqGuard (if pos then .eql else .neq) t p q A B; binOp (if pos then .eql else .neq) t A B : Sem Value).run P w = .ok (.bool r) w := by
    intro A B hAB
    have := run_eql_slice (P := P) hu a es.length c hAB w
    rcases hAB with ⟨rfl, rfl⟩ | ⟨rfl, rfl⟩ <;> cases pos <;> simp [eqGuard, binOp, this, hr2]
  rcases hpq with ⟨rfl, rfl⟩ | ⟨rfl, rfl⟩
  · have := hrun _ (.slice none 0 0) (.inl ⟨he, rfl⟩)
    simp only [execOp, ho, Act.eval] at this he ⊢
    rw [he] at this ⊢
    simp only [Sem.run_bind] at this ⊢
    rw [this]; rfl
  · have := hrun (.slice none 0 0) _ (.inr ⟨he, rfl⟩)
    simp only [execOp, ho, Act.eval] at this he ⊢
    rw [he] at this ⊢
    simp only [Sem.run_bind] at this ⊢
    rw [this]; rfl

theorem g_eqb {t u : TypeId} {pos : Bool} {x y : Operand} {a b : Bool} (h : Sim w0 B κ X μ st tm w) (hg : Gl Γ w X) (ho : o.op = .binOp (if pos then .eql else .neq) t x y u) (hu : P.underlying t = some .bool) (kx : okOpd x = true) (ky : okOpd y = true)
    (hx : ev Γ st.env x = some (.t (.v (.bool a)))) (hy : ev Γ st.env y = some (.t (.v (.bool b)))) : Good P w0 B κ X o (.t (.v (.bool (if pos then a == b else a != b)))) st tm w ds := by
  have h1 := (ev_ok (ds := ds) h hg hx kx).t_inv.v_inv
  have h2 := (ev_ok (ds := ds) h hg hy ky).t_inv.v_inv
  refine Good.same h (v := .bool (if pos then a == b else a != b)) ?_ (.t _ _ (.v _))
  cases pos
  · simp only [execOp, ho, h1, h2, Bool.false_eq_true, ↓reduceIte]
    simp [eqGuard, binOp, run_eql_bool hu]; cases a <;> cases b <;> rfl
  · simp only [execOp, ho, h1, h2, ↓reduceIte]
    simp [eqGuard, binOp, run_eql_bool hu]

theorem foldlM_min {xs : List Value} {k : IntKind} {a : Int} : ∀ {as : List AV} {r : IntKind × Int}, ARs w X μ st.sh as xs → mmxV false as (some a) = some r → as ≠ [] → (xs.foldlM Builtin.min2 (.int k a)).run P w = .ok (.int k r.2) w := by
  induction xs generalizing a with
  | nil => intro as r h hr hne; cases as with
    | nil => exact absurd rfl hne
    | cons b as => exact absurd h.1 (by simp)
  | cons x xs ih =>
    intro as r h hr hne
    match as, h with
    | b :: as, h =>
      obtain ⟨y, ys, he, hb, hs⟩ := h.cons_inv
      cases he
      match b, hr with
      | .t (.v (.int j q)), hr =>
        cases hb.t_inv.v_inv
        cases as with
        | nil =>
          simp only [mmxV, Option.some.injEq] at hr; subst hr
          rw [hs.nil_inv]
          simp only [List.foldlM_cons, List.foldlM_nil, Sem.run_bind, Builtin.min2, Sem.run_pure, Result.andThen_ok]
          simp
        | cons c cs =>
          simp only [mmxV] at hr
          simp only [List.foldlM_cons, Sem.run_bind, Builtin.min2, Sem.run_pure, Result.andThen_ok]
          exact ih hs hr (by simp)
theorem foldlM_max {xs : List Value} {k : IntKind} {a : Int} : ∀ {as : List AV} {r : IntKind × Int}, ARs w X μ st.sh as xs → mmxV true as (some a) = some r → as ≠ [] → (xs.foldlM Builtin.max2 (.int k a)).run P w = .ok (.int k r.2) w := by
  induction xs generalizing a with
  | nil => intro as r h hr hne; cases as with
    | nil => exact absurd rfl hne
    | cons b as => exact absurd h.1 (by simp)
  | cons x xs ih =>
    intro as r h hr hne
    match as, h with
    | b :: as, h =>
      obtain ⟨y, ys, he, hb, hs⟩ := h.cons_inv
      cases he
      match b, hr with
      | .t (.v (.int j q)), hr =>
        cases hb.t_inv.v_inv
        cases as with
        | nil =>
          simp only [mmxV, Option.some.injEq] at hr; subst hr
          rw [hs.nil_inv]
          simp only [List.foldlM_cons, List.foldlM_nil, Sem.run_bind, Builtin.max2, Sem.run_pure, Result.andThen_ok]
          simp
        | cons c cs =>
          simp only [mmxV] at hr
          simp only [List.foldlM_cons, Sem.run_bind, Builtin.max2, Sem.run_pure, Result.andThen_ok]
          exact ih hs hr (by simp)

end
end Go.Lg

/- THE LOGIC, part 10: minima, functions, new blocks, composites, cuts are sound. Conditions: none. -/
set_option linter.unusedSimpArgs false
set_option linter.unusedVariables false
namespace Go.Lg
open Go
section
variable {P : Program} {Γ : Tables} {w0 : World} {B : Nat} {κ : Loc} {X : Nat → Prop} {μ : Loc} {st : St} {tm : Array Value} {w : World} {ds : List Deferred} {o : Oper}

theorem mmx_first {mx : Bool} {as : List AV} {xs : List Value} {r : IntKind × Int} (h : ARs w X μ st.sh as xs) (hr : mmxV mx as none = some r) :
    ∃ k a ys bs, xs = .int k a :: ys ∧ ARs w X μ st.sh bs ys ∧ ((bs = [] ∧ r = (k, a)) ∨ (bs ≠ [] ∧ mmxV mx bs (some a) = some r)) := by
  match as, h, hr with
  | .t (.v (.int k a)) :: as, h, hr =>
    obtain ⟨y, ys, he, hb, hs⟩ := h.cons_inv
    cases hb.t_inv.v_inv
    refine ⟨k, a, ys, as, he, hs, ?_⟩
    cases as with
    | nil => simp only [mmxV, Option.some.injEq] at hr; exact .inl ⟨rfl, hr.symm⟩
    | cons c cs => simp only [mmxV] at hr; exact .inr ⟨by simp, hr⟩

theorem mmxV_kind {mx : Bool} : ∀ {as : List AV} {acc : Option Int} {r : IntKind × Int} {xs : List Value}, ARs w X μ st.sh as xs → mmxV mx as acc = some r → True := fun _ _ => trivial

theorem mmxV_sameKind {mx : Bool} {k : IntKind} : ∀ {as : List AV} {acc : Option Int} {r : IntKind × Int}, sameKind k as = true → mmxV mx as acc = some r → r.1 = k
  | .t (.v (.int j a)) :: [], acc, r, hs, hr => by
    simp only [sameKind, Bool.and_eq_true, decide_eq_true_eq] at hs
    simp only [mmxV, Option.some.injEq] at hr
    subst hr; exact hs.1
  | .t (.v (.int j a)) :: c :: cs, acc, r, hs, hr => by
    simp only [sameKind, Bool.and_eq_true] at hs
    simp only [mmxV] at hr
    exact mmxV_sameKind (as := c :: cs) (by simpa [sameKind] using hs.2) hr

theorem g_min {xs : List Operand} {ts : Array TypeId} {as : List AV} {r : IntKind × Int} {k : IntKind} (h : Sim w0 B κ X μ st tm w) (hg : Gl Γ w X) (ho : o.op = .call { callee := .builtin .min, args := xs.toArray, argTypes := ts }) (kx : xs.all okOpd = true)
    (hx : evs Γ st.env xs = some as) (hr : mmxV false as none = some r) (hk : sameKind k as = true) : Good P w0 B κ X o (.t (.v (.int r.1 r.2))) st tm w ds := by
  refine Good.same h (v := .int r.1 r.2) ?_ (.t _ _ (.v _))
  have hk1 := mmxV_sameKind hk hr
  obtain ⟨k', a, ys, bs, he, hs, hc⟩ := mmx_first (evs_ok (ds := ds) h hg hx kx) hr
  have hk' : k' = k := by
    have := evs_ok (ds := ds) h hg hx kx
    match as, this, hk with
    | .t (.v (.int j q)) :: as, this, hk =>
      obtain ⟨y, zs, he2, hb, _⟩ := this.cons_inv
      rw [he] at he2; cases he2
      cases hb.t_inv.v_inv
      simp only [sameKind, Bool.and_eq_true, decide_eq_true_eq] at hk; exact hk.1
    | [], this, _ => rw [he] at this; exact absurd this.1 (by simp)
  have hrun : (ys.foldlM Builtin.min2 (.int k' a)).run P w = .ok (.int r.1 r.2) w := by
    rcases hc with ⟨rfl, rfl⟩ | ⟨hne, hm⟩
    · rw [hs.nil_inv]; simp
    · rw [foldlM_min hs hm hne, hk1, hk']
  simp only [execOp, ho, resolve, invoke, builtin, List.map_toArray, he, Builtin.min_, Sem.run_bind, Sem.run_pure, Result.andThen_ok, hrun]

theorem g_max {xs : List Operand} {ts : Array TypeId} {as : List AV} {r : IntKind × Int} {k : IntKind} (h : Sim w0 B κ X μ st tm w) (hg : Gl Γ w X) (ho : o.op = .call { callee := .builtin .max, args := xs.toArray, argTypes := ts }) (kx : xs.all okOpd = true)
    (hx : evs Γ st.env xs = some as) (hr : mmxV true as none = some r) (hk : sameKind k as = true) : Good P w0 B κ X o (.t (.v (.int r.1 r.2))) st tm w ds := by
  refine Good.same h (v := .int r.1 r.2) ?_ (.t _ _ (.v _))
  have hk1 := mmxV_sameKind hk hr
  obtain ⟨k', a, ys, bs, he, hs, hc⟩ := mmx_first (evs_ok (ds := ds) h hg hx kx) hr
  have hk' : k' = k := by
    have := evs_ok (ds := ds) h hg hx kx
    match as, this, hk with
    | .t (.v (.int j q)) :: as, this, hk =>
      obtain ⟨y, zs, he2, hb, _⟩ := this.cons_inv
      rw [he] at he2; cases he2
      cases hb.t_inv.v_inv
      simp only [sameKind, Bool.and_eq_true, decide_eq_true_eq] at hk; exact hk.1
    | [], this, _ => rw [he] at this; exact absurd this.1 (by simp)
  have hrun : (ys.foldlM Builtin.max2 (.int k' a)).run P w = .ok (.int r.1 r.2) w := by
    rcases hc with ⟨rfl, rfl⟩ | ⟨hne, hm⟩
    · rw [hs.nil_inv]; simp
    · rw [foldlM_max hs hm hne, hk1, hk']
  simp only [execOp, ho, resolve, invoke, builtin, List.map_toArray, he, Builtin.max_, Sem.run_bind, Sem.run_pure, Result.andThen_ok, hrun]

theorem g_mkf {f : FuncId} {xs : List Operand} {as : List AV} (h : Sim w0 B κ X μ st tm w) (hg : Gl Γ w X) (ho : o.op = .makeFunc (.func f) #[] xs.toArray) (kx : xs.all okOpd = true) (hx : evs Γ st.env xs = some as) :
    Good P w0 B κ X o (match toTs as with | some ts => .t (.fn f ts) | none => .fn f as) st tm w ds := by
  have hr := evs_ok (ds := ds) h hg hx kx
  refine Good.same h (v := .func (.func f) #[] (xs.map (Act.eval ⟨tm, ds⟩)).toArray) (by simp [execOp, ho, Instr.makeFunc]) ?_
  split
  · rename_i ts hts
    have := hr.toT hts
    exact .t _ _ (.fn f ts _ this.1 this.2)
  · exact .fn f as _ hr.1 hr.2

theorem heap_new (w : World) (n : Nat) (o : Obj) : (World.alloc { w with drawn := n } o).heap[w.heap.size]? = some o := heap_alloc_new { w with drawn := n } o

theorem alloc_same {X : Nat → Prop} (h : ∀ b, X b → b < w.heap.size) (n : Nat) (o : Obj) : Same X w (World.alloc { w with drawn := n } o) := fun b hb => RowKit.Below.heap_alloc { w with drawn := n } o b (h b hb)

/-- A pointer to a block that has just been made. -/
theorem TR.new_ip (hx : ∀ b, X b → b < w.heap.size) (n : Nat) {cs : List T} {xs : List Value} {ty : TypeId} {fr : Nat × Nat} {rest : List Value} (h1 : onesT cs = true) (h : TRs w X cs xs) :
    TR (World.alloc { w with drawn := n } (.cells (xs ++ rest).toArray ty fr)) (fun b => X b ∨ b = w.heap.size) (.ip cs 0) (.pointer (some ⟨w.heap.size, 0, none⟩)) := by
  have := TR.mk_ip (w := World.alloc { w with drawn := n } (.cells (xs ++ rest).toArray ty fr)) (X := fun b => X b ∨ b = w.heap.size) (k := 0) (b := w.heap.size) (off := 0) h1 (h.mono (alloc_same hx n _) (fun _ hb => .inl hb)) (.inr rfl) (fun j y hy => by
    rw [cell_of_row _ _ _ _ _ _ (heap_new w n _)]
    have hj := (List.getElem?_eq_some_iff.1 hy).1
    simp only [Nat.zero_add, List.getElem?_toArray]
    rw [List.getElem?_append_left hj, hy])
  simpa using this

theorem zero_run {t : TypeId} {zs : List Value} (h : zeroO P t = some zs) (w : World) : ∃ z : Value, (zeroValue t).run P w = .ok z w ∧ z.cells = zs.toArray := by
  simp only [zeroO, Option.map_eq_some_iff, Option.bind_eq_some_iff] at h
  obtain ⟨z, ⟨i, hi, hz⟩, rfl⟩ := h
  exact ⟨z, by simp [zeroValue, typeInfo, hi, hz], by simp⟩

theorem onesT_const {zs : List Value} (h : cellsB zs = true) : onesT (zs.map constT) = true := by
  simp only [onesT, List.all_map, List.all_eq_true, Function.comp_def, cellsB] at h ⊢
  exact fun x hx => constT_one (h x hx)
theorem TRs_const (zs : List Value) : TRs w X (zs.map constT) zs := ⟨by simp, fun k t x ht hx => by
  simp only [List.getElem?_map, hx, Option.map_some, Option.some.injEq] at ht; subst ht; exact constT_ok x⟩

theorem g_alloc_fz {t : TypeId} {zs : List Value} (h : Sim w0 B κ X μ st tm w) (ho : o.op = .alloc t) (hz : zeroO P t = some zs) (h1 : cellsB zs = true) : Good P w0 B κ X o (.t (.ip (zs.map constT) 0)) st tm w ds := by
  obtain ⟨z, hrun, hc⟩ := zero_run hz w
  refine Good.block h (arr := zs.toArray) (ty := t) w.drawn (0, 0) (v := .pointer (some ⟨w.heap.size, 0, none⟩)) ?_ (.t _ _ ?_)
  · simp [execOp, ho, Instr.alloc, hrun, newVar, newRow, hc]
  · have := TR.new_ip (w := w) (X := X) h.xlt w.drawn (ty := t) (fr := (0, 0)) (rest := []) (onesT_const h1) (TRs_const zs)
    simpa using this

theorem g_box_fz {t : TypeId} {x : Operand} {a : AV} {ts : List T} (h : Sim w0 B κ X μ st tm w) (hg : Gl Γ w X) (ho : o.op = .box t x) (kx : okOpd x = true) (hx : ev Γ st.env x = some a) (hts : toTs a.cells = some ts) (h1 : onesT ts = true) : Good P w0 B κ X o (.t (.ip ts 0)) st tm w ds := by
  have hr := (ev_ok (ds := ds) h hg hx kx).cells (by rw [toTs_some hts, onesA_map]; exact h1)
  refine Good.block h (arr := (Act.eval ⟨tm, ds⟩ x).cells) (ty := t) w.drawn (0, 0) (v := .pointer (some ⟨w.heap.size, 0, none⟩)) ?_ (.t _ _ ?_)
  · simp [execOp, ho, Instr.box, newVar, newRow]
  · have := TR.new_ip (w := w) (X := X) h.xlt w.drawn (ty := t) (fr := (0, 0)) (rest := []) h1 (hr.toT hts)
    simpa using this

/-- A new region of cells. -/
theorem Good.region {v : Value} {arr : Array Value} {ty : TypeId} {d : Nat} {a : AV} {r : Reg} (h : Sim w0 B κ X μ st tm w) (n : Nat) (hd : look st.hp d = none) (hbig : d < 1000000)
    (hr : (execOp (Act.eval ⟨tm, ds⟩) o).run P w = .ok (.value v) (World.alloc { w with drawn := n } (.cells arr ty)))
    (hreg : RegOk (World.alloc { w with drawn := n } (.cells arr ty)) X (μ.set d (some (w.heap.size, arr.size))) (St.sh ⟨st.env, (d, r) :: st.hp⟩) d r)
    (ha : AR (World.alloc { w with drawn := n } (.cells arr ty)) X (μ.set d (some (w.heap.size, arr.size))) (St.sh ⟨st.env, (d, r) :: st.hp⟩) a v) : Good P w0 B κ X o a ⟨st.env, (d, r) :: st.hp⟩ tm w ds := by
  have hb : RowKit.Below w.heap.size w (World.alloc { w with drawn := n } (.cells arr ty)) := ⟨rfl, rfl, rfl, by simp, fun k hk => RowKit.Below.heap_alloc { w with drawn := n } _ _ hk⟩
  have h2 := h.grow (X' := X) hb (fun _ hx => hx) (fun b hx => .inl hx)
  refine ⟨_, v, _, _, X, hr, .inl rfl, h2.addReg hd hbig r (some (w.heap.size, arr.size)) ?_ hreg, ha, fun _ hx => hx, fun b hx => hb.block b (h.xlt b hx), fun _ hx => .inl hx⟩
  intro g m e
  cases e
  refine ⟨fun hx => ?_, by simp, fun hlt => absurd h.size (by omega), fun id n' hi hm => ?_⟩
  · have := h.xlt _ hx; omega
  · have := (h.loc id _ _ hi hm).2.1; omega

theorem sh_new {env : List (Nat × AV)} {hp : List (Nat × Reg)} {d : Nat} {r : Reg} : St.sh ⟨env, (d, r) :: hp⟩ d = some r.sh := by simp [St.sh, look]
theorem sh_ext {d : Nat} {r : Reg} (hd : look st.hp d = none) (l : Option (Nat × Nat)) : ∀ id q, st.sh id = some q → St.sh ⟨st.env, (d, r) :: st.hp⟩ id = some q ∧ μ.set d l id = μ id := by
  intro id q hq
  have hne : id ≠ d := by intro e; subst e; simp [St.sh, hd] at hq
  exact ⟨by simpa [St.sh, look, Ne.symm hne] using hq, by simp [Loc.set, hne]⟩

theorem reg_bx {d : Nat} {as : List AV} {xs : List Value} {ty : TypeId} (h : Sim w0 B κ X μ st tm w) (n : Nat) (hd : look st.hp d = none) (h1 : onesA as = true) (hr : ARs w X μ st.sh as xs) :
    RegOk (World.alloc { w with drawn := n } (.cells xs.toArray ty)) X (μ.set d (some (w.heap.size, xs.toArray.size))) (St.sh ⟨st.env, (d, .bx as) :: st.hp⟩) d (.bx as) :=
  ⟨fun k a hk => onesA_get h1 hk, w.heap.size, xs.toArray, ty, by simp [Loc.set], heap_new w n _, by simp [hr.1], fun k a x ha hx => (hr.2 k a x ha (by simpa using hx)).mono (alloc_same h.xlt n _) (fun _ hx => hx) (sh_ext hd _)⟩

theorem g_alloc {t : TypeId} {zs : List Value} {d : Nat} (h : Sim w0 B κ X μ st tm w) (ho : o.op = .alloc t) (hz : zeroO P t = some zs) (h1 : cellsB zs = true) (hd : look st.hp d = none) (hbig : d < 1000000) :
    Good P w0 B κ X o (.lp d 0 0) ⟨st.env, (d, .bx (zs.map fun z => .t (constT z))) :: st.hp⟩ tm w ds := by
  obtain ⟨z, hrun, hc⟩ := zero_run hz w
  have e : (zs.map fun z => AV.t (constT z)) = (zs.map constT).map .t := by simp
  rw [e]
  refine Good.region h (arr := zs.toArray) (ty := t) (v := .pointer (some ⟨w.heap.size, 0, none⟩)) w.drawn hd hbig ?_ (reg_bx h w.drawn hd (by rw [onesA_map]; exact onesT_const h1) (ARs.ofT (TRs_const zs))) ?_
  · simp [execOp, ho, Instr.alloc, hrun, newVar, newRow, hc]
  · exact .lpbx d 0 w.heap.size _ (by rw [sh_new]; rfl) (by simp only [Loc.set, ↓reduceIte]; rfl)

theorem g_box {t : TypeId} {x : Operand} {a : AV} {d : Nat} (h : Sim w0 B κ X μ st tm w) (hg : Gl Γ w X) (ho : o.op = .box t x) (kx : okOpd x = true) (hx : ev Γ st.env x = some a) (h1 : onesA a.cells = true) (hd : look st.hp d = none) (hbig : d < 1000000) :
    Good P w0 B κ X o (.lp d 0 0) ⟨st.env, (d, .bx a.cells) :: st.hp⟩ tm w ds := by
  have hr := (ev_ok (ds := ds) h hg hx kx).cells h1
  refine Good.region h (arr := (Act.eval ⟨tm, ds⟩ x).cells.toList.toArray) (ty := t) (v := .pointer (some ⟨w.heap.size, 0, none⟩)) w.drawn hd hbig ?_ (reg_bx h w.drawn hd h1 hr) ?_
  · simp [execOp, ho, Instr.box, newVar, newRow]
  · exact .lpbx d 0 w.heap.size _ (by rw [sh_new]; rfl) (by simp only [Loc.set, ↓reduceIte]; rfl)

end
end Go.Lg

/- THE LOGIC, part 11: composites are sound. Conditions: none. -/
set_option linter.unusedSimpArgs false
set_option linter.unusedVariables false
namespace Go.Lg
open Go
section
variable {P : Program} {Γ : Tables} {w0 : World} {B : Nat} {κ : Loc} {X : Nat → Prop} {μ : Loc} {st : St} {tm : Array Value} {w : World} {ds : List Deferred} {o : Oper}

theorem foldl_seg (off : Nat) : ∀ (xs : List Value) (k : Nat) (A M C : List Value), M.length = xs.length → A.length = off + k →
    (xs.zipIdx k).foldl (fun (cs : Array Value) (p : Value × Nat) => cs.setIfInBounds (off + p.2) p.1) (A ++ M ++ C).toArray = (A ++ xs ++ C).toArray
  | [], k, A, M, C, hM, hA => by simp at hM; subst hM; rfl
  | x :: xs, k, A, M, C, hM, hA => by
    cases M with
    | nil => simp at hM
    | cons m M =>
      have ih := foldl_seg off xs (k + 1) (A ++ [x]) M C (by simpa using hM) (by simp; omega)
      have e : ((A ++ m :: M ++ C).toArray.setIfInBounds (off + k) x) = (A ++ [x] ++ M ++ C).toArray := by
        apply Array.ext'
        simp [← hA, List.set_append]
      simp only [List.zipIdx_cons, List.foldl_cons, e, ih]
      simp

theorem fill_seg {place : Nat → Option (Nat × Nat)} {i off s : Nat} {v : Value} {A M C : List Value} {rest : List (Nat × Value)} (hp : place i = some (off, s)) (hs : v.cells.size = s) (hA : A.length = off) (hM : M.length = s) :
    Instr.fill place (A ++ M ++ C).toArray ((i, v) :: rest) = Instr.fill place (A ++ v.cells.toList ++ C).toArray rest := by
  have h1 : ¬ (v.cells.size ≠ s ∨ off + v.cells.size > (A ++ M ++ C).toArray.size) := by simp; omega
  have h2 : (v.cells.size ≠ s || off + v.cells.size > (A ++ M ++ C).toArray.size) = false := by
    simp only [decide_not, Bool.or_eq_false_iff, Bool.not_eq_eq_eq_not, Bool.not_false, decide_eq_true_eq, decide_eq_false_iff_not]
    simp; omega
  have h3 := foldl_seg off v.cells.toList 0 A M C (by simp; omega) (by omega)
  have h4 : v.cells.zipIdx.foldl (fun (cs : Array Value) (p : Value × Nat) => cs.setIfInBounds (off + p.2) p.1) (A ++ M ++ C).toArray = (A ++ v.cells.toList ++ C).toArray := by
    rw [← h3, ← Array.foldl_toList, Array.toList_zipIdx]
  simp only [Instr.fill, hp, h2, Bool.false_eq_true, ↓reduceIte]
  rw [h4]

/-- The cells of a list of operands, one behind the other. -/
def cellsOf (ρ : Operand → Value) (qs : List (Nat × Operand)) : List Value := qs.flatMap fun q => (ρ q.2).cells.toList

theorem fill_parts (ρ : Operand → Value) (hρ : ∀ v, ρ (.const v) = v) (place : Nat → Option (Nat × Nat)) : ∀ (fs : List (Nat × Nat)) (j off : Nat) (zs : List Value) (ps qs : List (Nat × Operand)) (A : List Value),
    partsB j off fs zs ps qs = true → (∀ i, place (j + i) = fs[i]?) → A.length = off → (∀ q ∈ qs, (ρ q.2).cells.size = q.1) →
    Instr.fill place (A ++ zs).toArray (ps.map fun p => (p.1, ρ p.2)) = some (A ++ cellsOf ρ qs).toArray
  | [], j, off, zs, ps, qs, A, h, hp, hA, hq => by
    simp only [partsB, Bool.and_eq_true, List.isEmpty_iff] at h
    obtain ⟨⟨rfl, rfl⟩, rfl⟩ := h
    simp [Instr.fill, cellsOf]
  | (o, s) :: fs, j, off, zs, ps, [], A, h, hp, hA, hq => by simp [partsB] at h
  | (o, s) :: fs, j, off, zs, ps, (s', x) :: qs, A, h, hp, hA, hq => by
    simp only [partsB, Bool.and_eq_true, beq_iff_eq, decide_eq_true_eq] at h
    obtain ⟨⟨⟨rfl, rfl⟩, hle⟩, h⟩ := h
    have hsz := hq (s, x) (by simp)
    have hq' : ∀ q ∈ qs, (ρ q.2).cells.size = q.1 := fun q hm => hq q (by simp [hm])
    have hp' : ∀ i, place (j + 1 + i) = fs[i]? := fun i => by have := hp (i + 1); rw [show j + 1 + i = j + (i + 1) by omega, this]; simp
    have hp0 : place j = some (o, s) := by have := hp 0; simpa using this
    have hz : zs = zs.take s ++ zs.drop s := (List.take_append_drop s zs).symm
    have hts : (zs.take s).length = s := by simp; omega
    have zero : ∀ {ps}, (match x with | .const v => vals1B v.cells.toList (zs.take s) | _ => false) = true → partsB (j + 1) (o + s) fs (zs.drop s) ps qs = true →
        Instr.fill place (A ++ zs).toArray (ps.map fun p => (p.1, ρ p.2)) = some (A ++ cellsOf ρ ((s, x) :: qs)).toArray := by
      intro ps hx hr
      split at hx
      · rename_i v
        have hv := vals1B_eq hx
        have := fill_parts ρ hρ place fs (j + 1) (o + s) (zs.drop s) ps qs (A ++ zs.take s) hr hp' (by simp; omega) hq'
        rw [List.append_assoc, ← hz] at this
        rw [this, ← hv]
        simp [cellsOf, hρ]
      · cases hx
    split at h
    · rename_i i y ps'
      split at h
      · rename_i hij
        (try simp only [beq_iff_eq] at hij); subst hij
        (try simp only [Bool.and_eq_true] at h)
        have hxy := opdB_eq h.1
        subst hxy
        have := fill_parts ρ hρ place fs (i + 1) (o + s) (zs.drop s) ps' qs (A ++ (ρ x).cells.toList) h.2 hp' (by simp [hsz, hA]) hq'
        rw [hz, ← List.append_assoc, List.map_cons, fill_seg hp0 hsz hA hts, this]
        simp [cellsOf]
      · (try simp only [Bool.and_eq_true] at h)
        exact zero h.1 h.2
    · (try simp only [Bool.and_eq_true] at h)
      exact zero h.1 h.2

theorem optAll_mapM {α β : Type} (f : α → Option β) : ∀ l : List α, optAll (l.map f) = l.mapM f
  | [] => rfl
  | a :: l => by
    rw [List.mapM_cons, ← optAll_mapM f l, List.map_cons]
    cases f a with
    | none => rfl
    | some b => simp only [optAll]; cases optAll (l.map f) <;> rfl

theorem fieldsO_some {t : TypeId} {fs : List (Nat × Nat)} (h : fieldsO P t = some fs) : ∃ fields, P.underlying t = some (.struct fields) ∧ fields.toList.mapM (fun f => (P.info? f.type).map fun i => (f.offset, i.size)) = some fs := by
  unfold fieldsO at h
  split at h
  · rename_i fields hu
    refine ⟨fields, hu, ?_⟩
    rw [optAll_mapM] at h
    rw [← h]
    congr 1
    funext f
    simp only [szO]
    cases P.info? f.type <;> rfl
  · cases h

theorem arrs_flat {μ : Loc} {sh : Nat → Option Sh} (ρ : Operand → Value) : ∀ {qs : List (Nat × Operand)} {as : List AV}, ARs w X μ sh as (qs.map fun q => ρ q.2) → onesA (as.flatMap AV.cells) = true → ARs w X μ sh (as.flatMap AV.cells) (cellsOf ρ qs)
  | [], as, h, h1 => by
    have : as = [] := List.eq_nil_of_length_eq_zero (by simpa using h.1)
    subst this; exact ARs.nil
  | q :: qs, [], h, h1 => absurd h.1 (by simp)
  | q :: qs, a :: as, h, h1 => by
    obtain ⟨y, ys, he, ha, hs⟩ := h.cons_inv
    simp only [List.map_cons, List.cons.injEq] at he
    obtain ⟨rfl, rfl⟩ := he
    simp only [List.flatMap_cons, onesA, List.all_append, Bool.and_eq_true] at h1
    simp only [List.flatMap_cons, cellsOf]
    exact (ha.cells h1.1).append (arrs_flat ρ hs h1.2)

theorem cells_len {μ : Loc} {sh : Nat → Option Sh} (ρ : Operand → Value) : ∀ {qs : List (Nat × Operand)} {as : List AV}, ARs w X μ sh as (qs.map fun q => ρ q.2) → onesA (as.flatMap AV.cells) = true → as.map (·.cells.length) = qs.map (·.1) → ∀ q ∈ qs, (ρ q.2).cells.size = q.1
  | [], as, h, h1, hl => fun q hq => by simp at hq
  | q :: qs, [], h, h1, hl => absurd h.1 (by simp)
  | q :: qs, a :: as, h, h1, hl => by
    obtain ⟨y, ys, he, ha, hs⟩ := h.cons_inv
    simp only [List.map_cons, List.cons.injEq] at he
    obtain ⟨rfl, rfl⟩ := he
    simp only [List.flatMap_cons, onesA, List.all_append, Bool.and_eq_true] at h1
    simp only [List.map_cons, List.cons.injEq] at hl
    intro p hp
    rcases List.mem_cons.1 hp with rfl | hp
    · have := (ha.cells h1.1).1; simp at this; omega
    · exact cells_len ρ hs h1.2 hl.2 p hp

theorem g_build {t : TypeId} {ps : Array (Nat × Operand)} {qs : List (Nat × Operand)} {fs : List (Nat × Nat)} {zs : List Value} {as : List AV} (h : Sim w0 B κ X μ st tm w) (hg : Gl Γ w X) (ho : o.op = .build t ps) (kx : (qs.map (·.2)).all okOpd = true)
    (hf : fieldsO P t = some fs) (hz : zeroO P t = some zs) (hp : partsB 0 0 fs zs ps.toList qs = true) (hx : evs Γ st.env (qs.map (·.2)) = some as) (hl : as.map (·.cells.length) = qs.map (·.1)) (h1 : onesA (as.flatMap AV.cells) = true) :
    Good P w0 B κ X o (.ag (as.flatMap AV.cells)) st tm w ds := by
  have hr := evs_ok (ds := ds) h hg hx kx
  rw [List.map_map] at hr
  obtain ⟨fields, hu, hm⟩ := fieldsO_some hf
  have hcs := cells_len (Act.eval ⟨tm, ds⟩) hr h1 hl
  have hfill := fill_parts (Act.eval ⟨tm, ds⟩) (fun _ => rfl) (fs.toArray[·]?) fs 0 0 zs ps.toList qs [] hp (by simp) rfl hcs
  simp only [List.nil_append] at hfill
  simp only [zeroO, Option.map_eq_some_iff, Option.bind_eq_some_iff] at hz
  obtain ⟨z, ⟨i, hi, hzz⟩, rfl⟩ := hz
  have hb : P.built t (ps.toList.map fun p => (p.1, Act.eval ⟨tm, ds⟩ p.2)) = some (cellsOf (Act.eval ⟨tm, ds⟩) qs).toArray := by
    simp only [Program.built, hi, hu, hzz, hm]
    simpa using hfill
  refine Good.same h (v := .agg (cellsOf (Act.eval ⟨tm, ds⟩) qs).toArray) ?_ (AR.mk_ag h1 (arrs_flat (Act.eval ⟨tm, ds⟩) hr h1))
  have := run_build (P := P) w t (ps.map fun p => (p.1, Act.eval ⟨tm, ds⟩ p.2)) _ (by rw [Array.toList_map]; exact hb)
  simp only [execOp, ho, Sem.run_bind, this]
  rfl

theorem fill_order (ρ : Operand → Value) (s : Nat) : ∀ (xs : List Operand) (j : Nat) (ps : List (Nat × Operand)) (A M : List Value), inOrder j ps xs = true → A.length = j * s → M.length = xs.length * s → (∀ x ∈ xs, (ρ x).cells.size = s) →
    Instr.fill (fun i => some (i * s, s)) (A ++ M).toArray (ps.map fun p => (p.1, ρ p.2)) = some (A ++ xs.flatMap fun x => (ρ x).cells.toList).toArray
  | [], j, [], A, M, h, hA, hM, hq => by
    have : M = [] := List.eq_nil_of_length_eq_zero (by simpa using hM)
    subst this; simp [Instr.fill]
  | [], j, p :: ps, A, M, h, hA, hM, hq => by simp [inOrder] at h
  | x :: xs, j, [], A, M, h, hA, hM, hq => by simp [inOrder] at h
  | x :: xs, j, (i, y) :: ps, A, M, h, hA, hM, hq => by
    simp only [inOrder, Bool.and_eq_true, beq_iff_eq] at h
    obtain ⟨⟨rfl, hxy⟩, h⟩ := h
    have := opdB_eq hxy; subst this
    have hx := hq x (by simp)
    have hz : M = M.take s ++ M.drop s := (List.take_append_drop s M).symm
    have hts : (M.take s).length = s := by
      simp only [List.length_cons, Nat.add_mul, Nat.one_mul] at hM
      simp; omega
    have ih := fill_order ρ s xs (i + 1) ps (A ++ (ρ x).cells.toList) (M.drop s) h (by simp [hx, hA, Nat.add_mul]) (by simp only [List.length_drop, hM, List.length_cons, Nat.add_mul, Nat.one_mul]; omega) (fun x hm => hq x (by simp [hm]))
    rw [hz, ← List.append_assoc, List.map_cons, fill_seg (by rfl) hx hA hts, ih]
    simp

theorem run_bsl {t ty s n : Nat} {ps : Array (Nat × Operand)} {xs : List Operand} {zs : List Value} (ρ : Operand → Value) (hu : slO P t = some ty) (hz : szO P ty = some s) (hn : n = xs.length) (ho : inOrder 0 ps.toList xs = true) (hzo : zeroO P ty = some zs) (hzl : zs.length = s) (hs : 0 < s)
    (hbig : n * s ≤ 16777216) (hq : ∀ x ∈ xs, (ρ x).cells.size = s) (w : World) :
    (Instr.buildSlice t n (ps.map fun p => (p.1, ρ p.2))).run P w = .ok (.slice (some ⟨w.heap.size, 0, none⟩) n n) (w.alloc (.cells (xs.flatMap fun x => (ρ x).cells.toList).toArray ty)) := by
  obtain ⟨z, hzr, hzc⟩ := zero_run hzo w
  have hb : ¬ (n * s > 2 ^ 24) := by omega
  subst hn
  by_cases h0 : xs.length * s = 0
  · have : xs = [] := by
      rcases Nat.mul_eq_zero.1 h0 with h | h
      · exact List.eq_nil_of_length_eq_zero h
      · omega
    subst this
    have hps : ps = #[] := by
      cases hp : ps.toList with
      | nil => exact Array.toList_inj.1 (by simpa using hp)
      | cons p q => rw [hp] at ho; simp [inOrder] at ho
    subst hps
    simp [Instr.buildSlice, run_underlying (slO_some hu), run_size hz, Instr.fill, newRow]
    have e : Array.range 0 = #[] := by apply Array.toList_inj.1; simp
    rw [e]; simp
  · have hfill := fill_order ρ s xs 0 ps.toList [] ((Array.range (xs.length * s)).map (z.cells[· % z.cells.size]!)).toList ho (by simp) (by simp) hq
    simp only [List.nil_append, Array.toArray_toList] at hfill
    simp only [Instr.buildSlice, Sem.run_bind, run_underlying (slO_some hu), Result.andThen_ok, run_size hz, hb, Sem.run_ite, if_false, Sem.run_pure, h0, hzr]
    rw [Array.toList_map, hfill]
    simp [newRow]

end
end Go.Lg

/- THE LOGIC, part 12: slices of new memory, cuts, lookups are sound. Conditions: none. -/
set_option linter.unusedSimpArgs false
set_option linter.unusedVariables false
namespace Go.Lg
open Go
section
variable {P : Program} {Γ : Tables} {w0 : World} {B : Nat} {κ : Loc} {X : Nat → Prop} {μ : Loc} {st : St} {tm : Array Value} {w : World} {ds : List Deferred} {o : Oper}

theorem flat_get {α : Type} {s : Nat} : ∀ {L : List (List α)}, (∀ l ∈ L, l.length = s) → ∀ (i k : Nat), k < s → L.flatten[i * s + k]? = (L[i]?).bind fun l => l[k]?
  | [], _, i, k, _ => by simp
  | l :: L, h, 0, k, hk => by
    have hl := h l (by simp)
    simp only [Nat.zero_mul, Nat.zero_add, List.flatten_cons, List.getElem?_cons_zero, Option.bind_some]
    rw [List.getElem?_append_left (by omega)]
  | l :: L, h, i + 1, k, hk => by
    have hl := h l (by simp)
    have ih := flat_get (L := L) (fun l hm => h l (by simp [hm])) i k hk
    simp only [List.flatten_cons, List.getElem?_cons_succ]
    rw [List.getElem?_append_right (by rw [hl, Nat.add_mul]; omega), ← ih]
    congr 1
    rw [hl, Nat.add_mul]; omega

theorem flat_len {α : Type} {s : Nat} : ∀ {L : List (List α)}, (∀ l ∈ L, l.length = s) → L.flatten.length = L.length * s
  | [], _ => by simp
  | l :: L, h => by
    have ih := flat_len (L := L) (fun l hm => h l (by simp [hm]))
    have := h l (by simp)
    simp only [List.flatten_cons, List.length_append, List.length_cons, Nat.add_mul, Nat.one_mul]; omega

/-- Elements against their values, element by element. -/
def Els (w : World) (X : Nat → Prop) (s : Nat) (es : List (List T)) (vs : List (List Value)) : Prop := es.length = vs.length ∧ (∀ v ∈ vs, v.length = s) ∧ (∀ e ∈ es, e.length = s ∧ onesT e = true) ∧ ∀ (i : Nat) (e : List T) (v : List Value), es[i]? = some e → vs[i]? = some v → TRs w X e v

theorem Els.mono {w w' : World} {X Y : Nat → Prop} (hs : Same X w w') (hxy : ∀ b, X b → Y b) {s : Nat} {es : List (List T)} {vs : List (List Value)} (h : Els w X s es vs) : Els w' Y s es vs :=
  ⟨h.1, h.2.1, h.2.2.1, fun i e v h1 h2 => (h.2.2.2 i e v h1 h2).mono hs hxy⟩

theorem Els.append {s : Nat} {es fs : List (List T)} {vs us : List (List Value)} (h : Els w X s es vs) (g : Els w X s fs us) : Els w X s (es ++ fs) (vs ++ us) := by
  refine ⟨by simp [h.1, g.1], fun v hv => ?_, fun e he => ?_, fun i e v he hv => ?_⟩
  · rcases List.mem_append.1 hv with hv | hv
    · exact h.2.1 v hv
    · exact g.2.1 v hv
  · rcases List.mem_append.1 he with he | he
    · exact h.2.2.1 e he
    · exact g.2.2.1 e he
  · by_cases hi : i < es.length
    · rw [List.getElem?_append_left hi] at he
      rw [List.getElem?_append_left (by rw [← h.1]; exact hi)] at hv
      exact h.2.2.2 i e v he hv
    · rw [List.getElem?_append_right (by omega)] at he
      rw [List.getElem?_append_right (by rw [← h.1]; omega), ← h.1] at hv
      exact g.2.2.2 _ e v he hv

/-- Rows of s cells in a block. -/
theorem els_cell {s : Nat} {es : List (List T)} {vs : List (List Value)} (h : Els w X s es vs) {arr : Array Value} {rest : List Value} (ha : arr.toList = vs.flatten ++ rest) {i k : Nat} (hi : i < es.length) (hk : k < s) :
    ∃ v x, vs[i]? = some v ∧ v[k]? = some x ∧ arr[i * s + k]? = some x := by
  have hi' : i < vs.length := by rw [← h.1]; exact hi
  have hv : vs[i]? = some vs[i] := by simp [hi']
  have hl := h.2.1 vs[i] (List.getElem_mem hi')
  have hx : vs[i][k]? = some (vs[i][k]'(by omega)) := by simp [hl, hk]
  refine ⟨_, _, hv, hx, ?_⟩
  have hf := flat_get h.2.1 i k hk
  rw [hv] at hf
  simp only [Option.bind_some, hx] at hf
  have : arr.toList[i * s + k]? = some (vs[i][k]'(by omega)) := by
    rw [ha, List.getElem?_append_left (List.getElem?_eq_some_iff.1 hf).1, hf]
  simpa using this

theorem TR.new_sl {s b c : Nat} {es : List (List T)} {vs : List (List Value)} {cap : Option Nat} {nl : Option Bool} (h : Els w X s es vs) {arr : Array Value} {ty : TypeId} {fr : Nat × Nat} {rest : List Value} (hb : w.heap[b]? = some (.cells arr ty fr))
    (ha : arr.toList = vs.flatten ++ rest) (hx : X b) (hle : es.length ≤ c) (hc : ∀ n, cap = some n → c = n) (hn : ∀ q, nl = some q → q = false) : TR w X (.sl es cap nl) (.slice (some ⟨b, 0, none⟩) es.length c) := by
  refine TR.mk_sl (s := s) (f := fun i k => (arr[i * s + k]?).getD undef) hx hle hc hn (fun e he => (h.2.2.1 e he).1) (fun e he => (h.2.2.1 e he).2) (fun i k hi hk => ?_) (fun i k e t he ht => ?_)
  · obtain ⟨v, x, _, _, hg⟩ := els_cell h ha hi hk
    rw [cell_of_row _ _ _ _ _ _ hb, Nat.zero_add, hg]; rfl
  · have hi := (List.getElem?_eq_some_iff.1 he).1
    have hk : k < s := by rw [← (h.2.2.1 e (List.mem_of_getElem? he)).1]; exact (List.getElem?_eq_some_iff.1 ht).1
    obtain ⟨v, x, hv, hx, hg⟩ := els_cell h ha hi hk
    simp only [hg, Option.getD_some]
    exact (h.2.2.2 i e v he hv).2 k t x ht hx

theorem reg_sl {μ : Loc} {sh : Nat → Option Sh} {id s b : Nat} {es : List (List T)} {vs : List (List Value)} (h : Els w X s es vs) {arr : Array Value} {ty : TypeId} {rest : List Value} (hm : μ id = some (b, arr.size)) (hb : w.heap[b]? = some (.cells arr ty (0, 0)))
    (ha : arr.toList = vs.flatten ++ rest) : RegOk w X μ sh id (.sl ty s es) := by
  refine ⟨fun i e he => ⟨(h.2.2.1 e (List.mem_of_getElem? he)).1, fun k t ht => ones_get (h.2.2.1 e (List.mem_of_getElem? he)).2 ht⟩, .inr ⟨b, arr, hm, hb, ?_, fun i k e t x he ht hx => ?_⟩⟩
  · have := congrArg List.length ha
    simp only [List.length_append, flat_len h.2.1, Array.length_toList, ← h.1] at this; omega
  · have hi := (List.getElem?_eq_some_iff.1 he).1
    have hk : k < s := by rw [← (h.2.2.1 e (List.mem_of_getElem? he)).1]; exact (List.getElem?_eq_some_iff.1 ht).1
    obtain ⟨v, y, hv, hy, hg⟩ := els_cell h ha hi hk
    rw [hg] at hx; cases hx
    exact (h.2.2.2 i e v he hv).2 k t _ ht hy

/-- The elements of a slice literal. -/
theorem els_lit {μ : Loc} {sh : Nat → Option Sh} (ρ : Operand → Value) {s : Nat} : ∀ {xs : List Operand} {as : List AV} {es : List (List T)}, ARs w X μ sh as (xs.map ρ) → optAll (as.map fun a => toTs a.cells) = some es → (∀ e ∈ es, e.length = s ∧ onesT e = true) →
    Els w X s es (xs.map fun x => (ρ x).cells.toList)
  | [], as, es, h, he, h1 => by
    have : as = [] := List.eq_nil_of_length_eq_zero (by simpa using h.1)
    subst this
    simp only [List.map_nil, optAll, Option.some.injEq] at he; subst he
    exact ⟨rfl, by simp, by simp, by simp⟩
  | x :: xs, [], es, h, he, h1 => absurd h.1 (by simp)
  | x :: xs, a :: as, es, h, he, h1 => by
    obtain ⟨y, ys, hy, ha, hs⟩ := h.cons_inv
    simp only [List.map_cons, List.cons.injEq] at hy
    obtain ⟨rfl, rfl⟩ := hy
    simp only [List.map_cons] at he
    cases hts : toTs a.cells with
    | none => rw [hts] at he; simp [optAll] at he
    | some ts =>
      rw [hts] at he
      simp only [optAll, Option.map_eq_some_iff] at he
      obtain ⟨es', he', rfl⟩ := he
      have ih := els_lit ρ hs he' (fun e hm => h1 e (by simp [hm]))
      have h1e := h1 ts (by simp)
      have hr := (ha.cells (by rw [toTs_some hts, onesA_map]; exact h1e.2)).toT hts
      have hlen := hr.1
      have : Els w X s [ts] [(ρ x).cells.toList] := ⟨rfl, by simp; simp at hlen; omega, by simpa using h1e, fun i e v he hv => by
        cases i with
        | zero => simp at he hv; subst he; subst hv; exact hr
        | succ i => simp at he⟩
      exact this.append ih

theorem els_sizes {s : Nat} {xs : List Operand} {es : List (List T)} (ρ : Operand → Value) (h : Els w X s es (xs.map fun x => (ρ x).cells.toList)) : ∀ x ∈ xs, (ρ x).cells.size = s := fun x hx => by
  have := h.2.1 _ (List.mem_map.2 ⟨x, hx, rfl⟩); simpa using this

theorem optAll_len {α : Type} {l : List (Option α)} {r : List α} (h : optAll l = some r) : r.length = l.length := by rw [optAll_get h]; simp

theorem g_bsl_fz {t ty s n : Nat} {ps : Array (Nat × Operand)} {xs : List Operand} {zs : List Value} {as : List AV} {es : List (List T)} (h : Sim w0 B κ X μ st tm w) (hg : Gl Γ w X) (hop : o.op = .buildSlice t n ps) (kx : xs.all okOpd = true)
    (hu : slO P t = some ty) (hz : szO P ty = some s) (hn : n = xs.length) (ho : inOrder 0 ps.toList xs = true) (hzo : zeroO P ty = some zs) (hzl : zs.length = s) (hs : 0 < s) (hbig : n * s ≤ 16777216)
    (hx : evs Γ st.env xs = some as) (he : optAll (as.map fun a => toTs a.cells) = some es) (h1 : ∀ e ∈ es, e.length = s ∧ onesT e = true) : Good P w0 B κ X o (.t (.sl es (some es.length) (some false))) st tm w ds := by
  have hr := evs_ok (ds := ds) h hg hx kx
  have hels := els_lit (Act.eval ⟨tm, ds⟩) hr he h1
  have hlen : es.length = n := by rw [hn, optAll_len he, List.length_map, optAll_len hx, List.length_map]
  have hrun := run_bsl (P := P) (Act.eval ⟨tm, ds⟩) hu hz hn ho hzo hzl hs hbig (els_sizes _ hels) w
  refine Good.block h (arr := (xs.flatMap fun x => (Act.eval ⟨tm, ds⟩ x).cells.toList).toArray) (ty := ty) w.drawn (0, 0) (v := .slice (some ⟨w.heap.size, 0, none⟩) es.length n) ?_ (.t _ _ ?_)
  · simp only [execOp, hop, Sem.run_bind, hrun, hlen]; rfl
  · have := hels.mono (alloc_same h.xlt w.drawn (.cells (xs.flatMap fun x => (Act.eval ⟨tm, ds⟩ x).cells.toList).toArray ty)) (Y := fun b => X b ∨ b = w.heap.size) (fun _ hb => .inl hb)
    exact TR.new_sl this (heap_new w w.drawn _) (rest := []) (by simp [List.flatMap]) (.inr rfl) (by omega) (fun q hq => by cases hq; exact hlen.symm) (fun q hq => by cases hq; rfl)

theorem maxLen_big {n : Nat} (h : n ≤ 2147483648) : n ≤ maxLen := by unfold maxLen; omega

theorem g_bsl {t ty s n d : Nat} {ps : Array (Nat × Operand)} {xs : List Operand} {zs : List Value} {as : List AV} {es : List (List T)} (h : Sim w0 B κ X μ st tm w) (hg : Gl Γ w X) (hop : o.op = .buildSlice t n ps) (kx : xs.all okOpd = true)
    (hu : slO P t = some ty) (hz : szO P ty = some s) (hn : n = xs.length) (ho : inOrder 0 ps.toList xs = true) (hzo : zeroO P ty = some zs) (hzl : zs.length = s) (hs : 0 < s) (hbig : n * s ≤ 16777216)
    (hx : evs Γ st.env xs = some as) (he : optAll (as.map fun a => toTs a.cells) = some es) (h1 : ∀ e ∈ es, e.length = s ∧ onesT e = true) (hd : look st.hp d = none) (hdb : d < 1000000) :
    Good P w0 B κ X o (.ls d 0 es.length none) ⟨st.env, (d, .sl ty s es) :: st.hp⟩ tm w ds := by
  have hr := evs_ok (ds := ds) h hg hx kx
  have hels := els_lit (Act.eval ⟨tm, ds⟩) hr he h1
  have hlen : es.length = n := by rw [hn, optAll_len he, List.length_map, optAll_len hx, List.length_map]
  have hrun := run_bsl (P := P) (Act.eval ⟨tm, ds⟩) hu hz hn ho hzo hzl hs hbig (els_sizes _ hels) w
  have hns : n ≤ 16777216 := by have := Nat.le_mul_of_pos_right n hs; omega
  have hsz : (xs.flatMap fun x => (Act.eval ⟨tm, ds⟩ x).cells.toList).length = n * s := by
    have := flat_len hels.2.1
    rw [List.length_map] at this
    rw [hn, ← this]; simp [List.flatMap]
  refine Good.region h (arr := (xs.flatMap fun x => (Act.eval ⟨tm, ds⟩ x).cells.toList).toArray) (ty := ty) (v := .slice (some ⟨w.heap.size, 0, none⟩) es.length n) w.drawn hd hdb ?_ ?_ ?_
  · simp only [execOp, hop, Sem.run_bind, hrun, hlen]; rfl
  · have := hels.mono (alloc_same h.xlt w.drawn (.cells (xs.flatMap fun x => (Act.eval ⟨tm, ds⟩ x).cells.toList).toArray ty)) (Y := X) (fun _ hb => hb)
    exact reg_sl this (by simp only [Loc.set, ↓reduceIte]) (heap_new w w.drawn _) (rest := []) (by simp [List.flatMap])
  · refine .ls d 0 es.length s es.length w.heap.size _ n none (by rw [sh_new]; rfl) (by simp only [Loc.set, ↓reduceIte]; rfl) (by omega) (by omega) (maxLen_big (by omega)) ?_ (fun _ => ?_) (fun q hq => by cases hq) _ (fun _ => by simp)
    · simp [hsz]
    · simp [hsz]

end
end Go.Lg
