/- THE LOGIC, part 28: from a function's code to its contract. Conditions: none. -/
import Derived.Test.YtgnomdkcimglbaaGreatDoorPkB
import Derived.ChangeArms
import Derived.DataReads
import Derived.OpenShut
import Derived.Carry
import Derived.Handed
import Derived.Lib.LaidTab
set_option linter.unusedSimpArgs false
set_option linter.unusedVariables false
namespace Go.Lg
open Go
inductive RV where
  | tmp (t : Nat)
  | cell (t n : Nat) (g : Bool)
def qCY (P : Program) : RV → ResultVar → Bool
  | .tmp t, .tmp u => t == u
  | .cell t n g, .cell u ty => t == u && Qp P ty == some n && q2g P ty == some g && (g || n == 1)
  | _, _ => false
def Gv (P : Program) : List RV → List ResultVar → Bool
  | [], [] => true
  | a :: as, b :: bs => qCY P a b && Gv P as bs
  | _, _ => false
def qCZ (s : St) : RV → Option (Prop × AV)
  | .tmp t => (A9 s.env t).map fun a => (True, a)
  | .cell t n g => match A9 s.env t with
    | some (.lp id _ k) => match A9 s.hp id with
      | some (.bx cs) => some (k + n ≤ cs.length, Zu g ((cs.drop k).take n))
      | _ => none
    | _ => none
def qBg (s : St) (rv : RV) : Option (Prop × T) := (qCZ s rv).bind fun q => (Ak s.hp 4 q.2).map fun t => (q.1, t)
def q32 (s : St) : List RV → Option (Prop × T)
  | [] => some (True, .tup [])
  | [a] => qBg s a
  | [a, b] => (qBg s a).bind fun p => (qBg s b).map fun q => (p.1 ∧ q.1, .tup [p.2, q.2])
  | [a, b, c] => (qBg s a).bind fun p => (qBg s b).bind fun q => (qBg s c).map fun r => (p.1 ∧ q.1 ∧ r.1, .tup [p.2, q.2, r.2])
  | _ => none
def B1 (P : Program) (f : FuncId) (ic : IC) (N n : Nat) (rvs : List RV) : Bool := match P.funcs[f]? with
  | some fn => (match fn.body with | some c => q0j P N ic c | none => false) && !(fn.name == "runtime.NumGoroutine") && fn.ntmps == N && decide (N ≤ 1000000) && decide (n ≤ N) && Gv P rvs fn.results.toList && P.follows .mixedOrders
  | none => false
def params : Nat → List T → List (Nat × AV)
  | _, [] => []
  | k, t :: ts => (k, .t t) :: params (k + 1) ts
theorem qCa {ts : List T} : ∀ {k i : Nat} {a : AV}, A9 (params k ts) i = some a → k ≤ i ∧ ∃ t, ts[i - k]? = some t ∧ a = .t t := by
  induction ts with
  | nil => intro k i a h; simp [params, A9] at h
  | cons t ts ih =>
    intro k i a h
    simp only [params, A9] at h
    split at h
    · rename_i e; subst e; simp only [Option.some.injEq] at h; subst h; exact ⟨Nat.le_refl _, t, by simp, rfl⟩
    · obtain ⟨h1, u, h2, h3⟩ := ih h
      refine ⟨by omega, u, ?_, h3⟩
      have : i - k = i - (k + 1) + 1 := by omega
      rw [this]; simpa using h2
def qLw (rvs : List RV) (res : T) : AX → St → Prop
  | .exit _, _ => False
  | _, s => ∃ c, q32 s rvs = some (c, res) ∧ c
section
variable {P : Program} {Γ : Tables} {w0 : World} {B : Nat} {κ : Dp} {X0 X : Nat → Prop} {μ : Dp} {st : St} {N : Nat} {a : Act} {w : World} {tm : Array Value}
def qAi (tm : Array Value) : ResultVar → Go.Sem Value
  | .tmp t => pure (tm.getD t undef)
  | .cell a t => do loadVar t (← asAddr (tm.getD a undef))
theorem q8Z (h : C6 w0 B κ X μ st tm w) {rv : RV} {r : ResultVar} (hc : qCY P rv r = true) {c : Prop} {x : AV} (hr : qCZ st rv = some (c, x)) (hcc : c) : ∃ v, (qAi tm r).run P w = .ok v w ∧ AR w X μ st.sh x v := by
  cases rv with
  | tmp t =>
    cases r <;> simp [qCY] at hc
    subst hc
    simp only [qCZ, Option.map_eq_some_iff, Prod.mk.injEq] at hr
    obtain ⟨b, hb, _, rfl⟩ := hr
    exact ⟨_, rfl, h.env t b hb⟩
  | cell t n g =>
    cases r <;> simp [qCY] at hc
    rename_i u ty
    obtain ⟨⟨⟨rfl, hz⟩, ha⟩, hn⟩ := hc
    have hn : (g || n == 1) = true := by simpa using hn
    simp only [qCZ] at hr
    split at hr
    · rename_i id i k hl0
      split at hr
      · rename_i cs hl
        simp only [Option.some.injEq, Prod.mk.injEq] at hr
        obtain ⟨rfl, rfl⟩ := hr
        obtain ⟨gb, m, hm, hp⟩ := (h.env t _ hl0).lp_inv
        rcases hp with ⟨s, q, hs, _⟩ | ⟨hs, rfl, he⟩
        · rw [Fp hl] at hs; cases hs
        obtain ⟨h1, g', arr, ty', hm', hheap, hsz, hr⟩ := h.reg id _ hl
        rw [hm] at hm'; cases hm'
        have hr : N3 w X μ st.sh cs arr.toList := ⟨by simp [hsz], fun k a x h2 h3 => hr k a x h2 (by simpa using h3)⟩
        have h1 : Da cs = true := List.all_eq_true.2 fun t ht => by obtain ⟨j, hj, rfl⟩ := List.getElem_of_mem ht; exact h1 j _ (by simp [hj])
        have hlen : ((arr.toList.drop k).take n).length = n := by simp; omega
        refine ⟨if g then .agg ((arr.toList.drop k).take n).toArray else ((arr.toList.drop k).take n).headD undef, ?_, q5w ((hr.drop k).take n) (q4B h1 k n) (by rw [hlen]; exact hn)⟩
        have hrun := q1m (P := P) (w := w) hz ha hn (b := gb) (off := k) hlen (fun j x hj => by
          rw [List.getElem?_take] at hj
          split at hj
          · rw [List.getElem?_drop] at hj
            rw [cell_of_row w gb _ arr ty' (0, 0) hheap]; simpa using hj
          · cases hj)
        have e : qAi tm (.cell t ty) = (Instr.loadAt ty (.pointer (some ⟨gb, k, none⟩))) := by
          simp only [qAi, he, asAddr, Instr.loadAt, Instr.sureAddr]
        rw [e]; exact hrun
      · cases hr
    · cases hr
theorem q4F (h : C6 w0 B κ X μ st tm w) {rv : RV} {r : ResultVar} (hc : qCY P rv r = true) {c : Prop} {t : T} (hr : qBg st rv = some (c, t)) (hcc : c) : ∃ v, (qAi tm r).run P w = .ok v w ∧ TR w (fun b => X b ∨ qBc st μ b) t v := by
  simp only [qBg, Option.bind_eq_some_iff, Option.map_eq_some_iff, Prod.mk.injEq] at hr
  obtain ⟨⟨c', x⟩, hq, t', ht, rfl, rfl⟩ := hr
  obtain ⟨v, h1, h2⟩ := q8Z h hc hq hcc
  exact ⟨v, h1, q8w h 4 h2 ht⟩
theorem qCb (h : C6 w0 B κ X μ st tm w) {fn : Func} {rvs : List RV} (hc : Gv P rvs fn.results.toList = true) {c : Prop} {res : T} (hr : q32 st rvs = some (c, res)) (hcc : c) :
    ∃ v, (results fn tm).run P w = .ok v w ∧ TR w (fun b => X b ∨ qBc st μ b) res v := by
  have hres : results fn tm = (do let vs ← fn.results.mapM (qAi tm); pure (if h : vs.size = 1 then vs[0] else .tuple vs)) := rfl
  have hfr : fn.results = fn.results.toList.toArray := by simp
  generalize hl : fn.results.toList = l at hc hfr
  match rvs, l, hc with
  | [], [], _ =>
    simp only [q32, Option.some.injEq, Prod.mk.injEq] at hr
    obtain ⟨rfl, rfl⟩ := hr
    exact ⟨.tuple #[], by rw [hres, hfr]; simp, TR.mk_tup (Gq.nil _ _)⟩
  | [a], [x], hc =>
    simp only [Gv, Bool.and_eq_true] at hc
    obtain ⟨v, h1, h2⟩ := q4F h hc.1 hr hcc
    exact ⟨v, by rw [hres, hfr]; simp [h1], h2⟩
  | [a, b], [x, y], hc =>
    simp only [Gv, Bool.and_eq_true] at hc
    simp only [q32, Option.bind_eq_some_iff, Option.map_eq_some_iff, Prod.mk.injEq] at hr
    obtain ⟨p, hp, q, hq, rfl, rfl⟩ := hr
    obtain ⟨v, h1, h2⟩ := q4F h hc.1 hp hcc.1
    obtain ⟨u, h3, h4⟩ := q4F h hc.2.1 hq hcc.2
    exact ⟨.tuple #[v, u], by rw [hres, hfr]; simp [h1, h3], TR.mk_tup (Gq.cons h2 (Gq.cons h4 (Gq.nil _ _)))⟩
  | [a, b, d], [x, y, z], hc =>
    simp only [Gv, Bool.and_eq_true] at hc
    simp only [q32, Option.bind_eq_some_iff, Option.map_eq_some_iff, Prod.mk.injEq] at hr
    obtain ⟨p, hp, q, hq, r, hr, rfl, rfl⟩ := hr
    obtain ⟨v, h1, h2⟩ := q4F h hc.1 hp hcc.1
    obtain ⟨u, h3, h4⟩ := q4F h hc.2.1 hq hcc.2.1
    obtain ⟨z, h5, h6⟩ := q4F h hc.2.2.1 hr hcc.2.2
    exact ⟨.tuple #[v, u, z], by rw [hres, hfr]; simp [h1, h3, h5], TR.mk_tup (Gq.cons h2 (Gq.cons h4 (Gq.cons h6 (Gq.nil _ _))))⟩
  | _ :: _ :: _ :: _ :: _, _, _ => simp [q32] at hr
  | [], _ :: _, hc => simp [Gv] at hc
  | _ :: _, [], hc => simp [Gv] at hc
  | [_], _ :: _ :: _, hc => simp [Gv] at hc
  | [_, _], [_], hc => simp [Gv] at hc
  | [_, _], _ :: _ :: _ :: _, hc => simp [Gv] at hc
  | [_, _, _], [_], hc => simp [Gv] at hc
  | [_, _, _], [_, _], hc => simp [Gv] at hc
  | [_, _, _], _ :: _ :: _ :: _ :: _, hc => simp [Gv] at hc
theorem q64 {f : FuncId} {ic : IC} {n : Nat} {rvs : List RV} (hc : B1 P f ic N n rvs = true) (vs : Array Value) : (callFunc f vs).run P w = .ok (.enter f vs) w := by
  unfold B1 at hc
  split at hc
  · rename_i fn hf
    simp only [Bool.and_eq_true, Bool.not_eq_true'] at hc
    obtain ⟨⟨⟨⟨⟨⟨h1, h2⟩, h3⟩, h4⟩, h5⟩, h6⟩, h7⟩ := hc
    cases hb : fn.body with
    | none => rw [hb] at h1; cases h1
    | some c =>
      have h2' : ¬ fn.name = "runtime.NumGoroutine" := by simpa using h2
      simp [callFunc, hf, h2', hb]
  · cases hc
theorem Inv.start {ts : List T} {vs : List Value} (hg : Gl Γ w X) (hx : ∀ b, X b → b < w.heap.size) (hts : Gq w X ts vs) (hn : vs.length ≤ N) :
    Inv Γ w w.heap.size (fun _ => none) X N ⟨params 0 ts, []⟩ { tmps := vs.toArray ++ Array.replicate (N - vs.toArray.size) undef, defers := [] } w := by
  refine ⟨X, fun _ => none, ⟨?_, fun id r h => by simp [A9] at h, fun _ _ _ _ _ _ _ h => (by cases h), fun _ _ _ _ h => (by cases h), fun _ _ _ => rfl, fun _ _ h => (by cases h), hx, rfl, rfl, rfl, Nat.le_refl _, fun _ _ _ => rfl⟩, hg, fun _ h => h, fun _ h => .inl h, ?_, rfl⟩
  · intro t a ht
    obtain ⟨_, u, hu, rfl⟩ := qCa ht
    obtain ⟨x, h1, h2⟩ := hts.get hu
    simp only [Nat.sub_zero] at h1
    have hlt : t < vs.length := (List.getElem?_eq_some_iff.1 h1).1
    have : (vs.toArray ++ Array.replicate (N - vs.toArray.size) undef).getD t undef = x := by
      rw [Array.getD_eq_getD_getElem?, Array.getElem?_append_left (by simpa using hlt)]
      simp [h1]
    rw [this]; exact .t _ _ h2
  · simp; omega
theorem qE9 {f : FuncId} {ic : IC} {n : Nat} {rvs : List RV} {args : List T} {res : T} (hc : B1 P f ic N n rvs = true) (hn : args.length = n) (h : awp P Γ ic (qLw rvs res) ⟨params 0 args, []⟩) : Ai P Γ f args res := by
  intro w X vs hg hx hts
  refine .inl ⟨q64 hc _, ?_⟩
  unfold B1 at hc
  split at hc
  case h_2 => cases hc
  rename_i fn hf
  simp only [Bool.and_eq_true, Bool.not_eq_true', decide_eq_true_eq, beq_iff_eq] at hc
  obtain ⟨⟨⟨⟨⟨⟨h1, h2⟩, h3⟩, h4⟩, h5⟩, h6⟩, h7⟩ := hc
  cases hb : fn.body with
  | none => rw [hb] at h1; cases h1
  | some c =>
    rw [hb] at h1
    subst h3
    refine calls_of_wp hf hb ?_
    have hI := Inv.start (N := fn.ntmps) hg hx hts (by rw [← hts.1, hn]; exact h5)
    refine wp_mono (Ge h4 h7 h1 hI h) ?_
    rintro e a w' ⟨x, s, rfl, ⟨X', μ, hsim, hg', h0, hbd, hsz, hds⟩, hq⟩
    have fin : ∀ c, q32 s rvs = some (c, res) → c → a.defers = [] ∧ ∃ v, (results fn a.tmps).run P w' = .ok v w' ∧ ∃ u, Ending.returned v = .returned u ∧ RowKit.Below w.heap.size w w' ∧ TR w' (fun b => X b ∨ (w.heap.size ≤ b ∧ b < w'.heap.size)) res u := by
      intro c hr hcc
      obtain ⟨v, h8, h9⟩ := qCb hsim h6 hr hcc
      refine ⟨hds, v, h8, v, rfl, ⟨hsim.os, hsim.tape, hsim.output, hsim.size, fun k hk => hsim.fr k hk (fun id n h => by cases h)⟩, h9.mono (fun _ _ => rfl) fun b hb => ?_⟩
      rcases hb with hb | ⟨id, n, hi, hm⟩
      · rcases hbd b hb with h | h | ⟨_, _, h⟩
        · exact .inl h
        · exact .inr ⟨h, hsim.xlt b hb⟩
        · cases h
      · obtain ⟨_, h10, h11⟩ := hsim.loc id b n hi hm
        refine .inr ⟨?_, h10⟩
        rcases Nat.lt_or_ge b w.heap.size with h | h
        · obtain ⟨_, _, h⟩ := h11 h; cases h
        · exact h
    cases x with
    | normal => obtain ⟨c, hr, hcc⟩ := hq; exact fin c hr hcc
    | ret => obtain ⟨c, hr, hcc⟩ := hq; exact fin c hr hcc
    | exit i => exact hq.elim
def Ft : AV → Prop
  | .t x => B0 x = true
  | .ag cs => ∀ c ∈ cs, match c with
    | .t x => B0 x = true
    | .fn _ cs => cs = []
    | _ => True
  | .fn _ cs => cs = []
  | _ => True
def Ou : Bl → Prop
  | .sl _ _ es => ∀ e ∈ es, ∀ t ∈ e, B0 t = true
  | .bx cs => ∀ c ∈ cs, Ft c
  | .mp es => ∀ e ∈ es, B0 e.2 = true
  | .it _ _ => True
def Fv {α : Type} (p : α → Prop) : List (Nat × α) → Prop
  | [] => True
  | x :: l => p x.2 ∧ Fv p l
theorem q5I {α : Type} {p : α → Prop} : ∀ {l : List (Nat × α)} {t : Nat} {a : α}, Fv p l → A9 l t = some a → p a
  | [], _, _, _, h => by simp [A9] at h
  | (k, v) :: l, t, a, h, hl => by
    simp only [A9] at hl
    split at hl
    · simp only [Option.some.injEq] at hl; subst hl; exact h.1
    · exact q5I h.2 hl
def Dq (s : St) : Prop := Fv Ft s.env ∧ Fv Ou s.hp
theorem qCc {sh : Nat → Option Sh} {a : AV} {x : Value} {Y : Nat → Prop} (h : AR w X μ sh a x) (hf : Ft a) : AR w Y μ sh a x := by
  have key : ∀ {c : AV} {y : Value}, AR w X μ sh c y → (∀ cs, c ≠ .ag cs) → (match c with | .t x => B0 x = true | .fn _ cs => cs = [] | _ => True) → AR w Y μ sh c y := by
    intro c y h hna hf
    cases h with
    | t y v hy => exact .t _ _ (q8v hy hf)
    | fn f cs xs hlen hrel => simp only at hf; subst hf; exact .fn f [] xs hlen (fun k a x h => by simp at h)
    | ag cs => exact absurd rfl (hna cs)
    | lsnil i s n hs hm oa cap hq => exact .lsnil i s n hs hm oa cap hq
    | ls i off len s n g m c cap hs hm hle hlc hcm hfit hfull hq ad had => exact .ls i off len s n g m c cap hs hm hle hlc hcm hfit hfull hq ad had
    | lpsl i j k s n g m hs hm => exact .lpsl i j k s n g m hs hm
    | lpbx i k g m hs hm => exact .lpbx i k g m hs hm
    | lm i g m hs hm => exact .lm i g m hs hm
    | lb i g m hs hm hle => exact .lb i g m hs hm hle
    | li i g m hs hm => exact .li i g m hs hm
    | dead v h => exact .dead _ h
    | un => exact .un
  by_cases hg : ∃ cs, a = .ag cs
  · obtain ⟨cs, rfl⟩ := hg
    obtain ⟨xs, rfl, h1, hr⟩ := h.ag_inv
    exact AR.mk_ag h1 ⟨hr.1, fun k c y hc hy => key (hr.2 k c y hc hy) (fun cs e => by have := Xs h1 hc; rw [e] at this; simp [AV.one] at this) (hf c (List.mem_of_getElem? hc))⟩
  · refine key h (fun cs e => hg ⟨cs, e⟩) ?_
    cases a <;> first | exact hf | exact True.intro | exact absurd ⟨_, rfl⟩ hg
theorem C6.flat (h : C6 w0 B κ X μ st tm w) (hf : Dq st) : C6 w0 B κ (fun _ => False) μ st tm w := by
  refine ⟨fun t a ht => qCc (h.env t a ht) (q5I hf.1 ht), ?_, h.inj, fun id g n hi hm => ⟨fun h => h, (h.loc id g n hi hm).2⟩, h.kap, h.kbig, fun _ h => h.elim, h.os, h.tape, h.output, h.size, h.fr⟩
  intro id r hr
  have hfr := q5I hf.2 hr
  have := h.reg id r hr
  cases r with
  | sl ty s es =>
    refine ⟨this.1, this.2.imp (fun h => h) fun ⟨g, arr, hm, hg, hle, hr⟩ => ⟨g, arr, hm, hg, hle, fun i k e t x h1 h2 h3 => q8v (hr i k e t x h1 h2 h3) (hfr e (List.mem_of_getElem? h1) t (List.mem_of_getElem? h2))⟩⟩
  | it s pos => exact this
  | mp es =>
    obtain ⟨g, n, clock, ms, hm, hg, hle, hr⟩ := this
    exact ⟨g, n, clock, ms, hm, hg, hle, fun i e m h1 h2 => ⟨(hr i e m h1 h2).1, q8v (hr i e m h1 h2).2 (hfr e (List.mem_of_getElem? h1))⟩⟩
  | bx cs =>
    obtain ⟨h1, g, arr, ty, hm, hg, hle, hr⟩ := this
    exact ⟨h1, g, arr, ty, hm, hg, hle, fun k a x ha hx => qCc (hr k a x ha hx) (hfr a (List.mem_of_getElem? ha))⟩
def qJN (rvs : List RV) (res : T) : AX → St → Prop
  | .exit _, _ => False
  | _, s => ∃ c, q32 s rvs = some (c, res) ∧ c ∧ Dq s
theorem qCd {f : FuncId} {ic : IC} {n : Nat} {rvs : List RV} {args : List T} {res : T} (hc : B1 P f ic N n rvs = true) (hn : args.length = n) (h : awp P Γ ic (qJN rvs res) ⟨params 0 args, []⟩) : Ab P Γ f args res := by
  intro w X vs hg hx hts
  refine .inl ⟨q64 hc _, ?_⟩
  unfold B1 at hc
  split at hc
  case h_2 => cases hc
  rename_i fn hf
  simp only [Bool.and_eq_true, Bool.not_eq_true', decide_eq_true_eq, beq_iff_eq] at hc
  obtain ⟨⟨⟨⟨⟨⟨h1, h2⟩, h3⟩, h4⟩, h5⟩, h6⟩, h7⟩ := hc
  cases hb : fn.body with
  | none => rw [hb] at h1; cases h1
  | some c =>
    rw [hb] at h1
    subst h3
    refine calls_of_wp hf hb ?_
    have hI := Inv.start (N := fn.ntmps) hg hx hts (by rw [← hts.1, hn]; exact h5)
    refine wp_mono (Ge h4 h7 h1 hI h) ?_
    rintro e a w' ⟨x, s, rfl, ⟨X', μ, hsim, hg', h0, hbd, hsz, hds⟩, hq⟩
    have fin : ∀ c, q32 s rvs = some (c, res) → c → Dq s → a.defers = [] ∧ ∃ v, (results fn a.tmps).run P w' = .ok v w' ∧ ∃ u, Ending.returned v = .returned u ∧ RowKit.Below w.heap.size w w' ∧ TR w' (fun b => w.heap.size ≤ b ∧ b < w'.heap.size) res u := by
      intro c hr hcc hfl
      obtain ⟨v, h8, h9⟩ := qCb (hsim.flat hfl) h6 hr hcc
      refine ⟨hds, v, h8, v, rfl, ⟨hsim.os, hsim.tape, hsim.output, hsim.size, fun k hk => hsim.fr k hk (fun id n h => by cases h)⟩, h9.mono (fun _ _ => rfl) fun b hb => ?_⟩
      rcases hb with hb | ⟨id, n, hi, hm⟩
      · exact hb.elim
      · obtain ⟨_, h10, h11⟩ := hsim.loc id b n hi hm
        refine ⟨?_, h10⟩
        rcases Nat.lt_or_ge b w.heap.size with h | h
        · obtain ⟨_, _, h⟩ := h11 h; cases h
        · exact h
    cases x with
    | normal => obtain ⟨c, hr, hcc, hfl⟩ := hq; exact fin c hr hcc hfl
    | ret => obtain ⟨c, hr, hcc, hfl⟩ := hq; exact fin c hr hcc hfl
    | exit i => exact hq.elim
def qBh : Nat → List AV → List (Nat × AV)
  | _, [] => []
  | k, a :: as => (k, a) :: qBh (k + 1) as
theorem qFs {ts : List AV} : ∀ {k i : Nat} {a : AV}, A9 (qBh k ts) i = some a → k ≤ i ∧ ts[i - k]? = some a := by
  induction ts with
  | nil => intro k i a h; simp [qBh, A9] at h
  | cons t ts ih =>
    intro k i a h
    simp only [qBh, A9] at h
    split at h
    · rename_i e; subst e; simp only [Option.some.injEq] at h; subst h; exact ⟨Nat.le_refl _, by simp⟩
    · obtain ⟨h1, h2⟩ := ih h
      refine ⟨by omega, ?_⟩
      have : i - k = i - (k + 1) + 1 := by omega
      rw [this]; simpa using h2
def qAG (s : St) : List RV → Option (Prop × AV)
  | [] => some (True, .t (.tup []))
  | [a] => qCZ s a
  | [a, b] => (qCZ s a).bind fun p => (qCZ s b).bind fun q => (toT p.2).bind fun x => (toT q.2).map fun y => (p.1 ∧ q.1, .t (.tup [x, y]))
  | _ => none
def qJO (rvs : List RV) (res : AV) (hp' : List (Nat × Bl)) : AX → St → Prop
  | .exit _, _ => False
  | _, s => ∃ c, qAG s rvs = some (c, res) ∧ c ∧ s.hp = hp'
theorem qIj (h : C6 w0 B κ X μ st tm w) {fn : Func} {rvs : List RV} (hc : Gv P rvs fn.results.toList = true) {c : Prop} {res : AV} (hr : qAG st rvs = some (c, res)) (hcc : c) :
    ∃ v, (results fn tm).run P w = .ok v w ∧ AR w X μ st.sh res v := by
  have hres : results fn tm = (do let vs ← fn.results.mapM (qAi tm); pure (if h : vs.size = 1 then vs[0] else .tuple vs)) := rfl
  have hfr : fn.results = fn.results.toList.toArray := by simp
  generalize hl : fn.results.toList = l at hc hfr
  match rvs, l, hc with
  | [], [], _ =>
    simp only [qAG, Option.some.injEq, Prod.mk.injEq] at hr
    obtain ⟨rfl, rfl⟩ := hr
    exact ⟨.tuple #[], by rw [hres, hfr]; simp, .t _ _ (TR.mk_tup (Gq.nil _ _))⟩
  | [a], [x], hc =>
    simp only [Gv, Bool.and_eq_true] at hc
    obtain ⟨v, h1, h2⟩ := q8Z h hc.1 hr hcc
    exact ⟨v, by rw [hres, hfr]; simp [h1], h2⟩
  | [a, b], [x, y], hc =>
    simp only [Gv, Bool.and_eq_true] at hc
    simp only [qAG, Option.bind_eq_some_iff, Option.map_eq_some_iff, Prod.mk.injEq] at hr
    obtain ⟨p, hp, q, hq, x', hx', y', hy', rfl, rfl⟩ := hr
    obtain ⟨v, h1, h2⟩ := q8Z h hc.1 hp hcc.1
    obtain ⟨u, h3, h4⟩ := q8Z h hc.2.1 hq hcc.2
    exact ⟨.tuple #[v, u], by rw [hres, hfr]; simp [h1, h3], .t _ _ (TR.mk_tup (Gq.cons (qBa h2 hx') (Gq.cons (qBa h4 hy') (Gq.nil _ _))))⟩
  | _ :: _ :: _ :: _, _, _ => simp [qAG] at hr
  | [], _ :: _, hc => simp [Gv] at hc
  | _ :: _, [], hc => simp [Gv] at hc
  | [_], _ :: _ :: _, hc => simp [Gv] at hc
  | [_, _], [_], hc => simp [Gv] at hc
  | [_, _], _ :: _ :: _ :: _, hc => simp [Gv] at hc
theorem qIk {f : FuncId} {ic : IC} {n : Nat} {rvs : List RV} {args : List AV} {hp hp' : List (Nat × Bl)} {res : AV} (hc : B1 P f ic N n rvs = true) (hn : args.length = n) (h : awp P Γ ic (qJO rvs res hp') ⟨qBh 0 args, hp⟩) : F4 P Γ f hp args res hp' := by
  intro w X κ vs hg hk hs hts
  refine .inl ⟨q64 hc _, ?_⟩
  unfold B1 at hc
  split at hc
  case h_2 => cases hc
  rename_i fn hf
  simp only [Bool.and_eq_true, Bool.not_eq_true', decide_eq_true_eq, beq_iff_eq] at hc
  obtain ⟨⟨⟨⟨⟨⟨h1, h2⟩, h3⟩, h4⟩, h5⟩, h6⟩, h7⟩ := hc
  cases hb : fn.body with
  | none => rw [hb] at h1; cases h1
  | some c =>
    rw [hb] at h1
    subst h3
    refine calls_of_wp hf hb ?_
    have hlen : vs.length ≤ fn.ntmps := by rw [← hts.1, hn]; exact h5
    have hI : Inv Γ w w.heap.size κ X fn.ntmps ⟨qBh 0 args, hp⟩ { tmps := vs.toArray ++ Array.replicate (fn.ntmps - vs.toArray.size) undef, defers := [] } w := by
      refine ⟨X, κ, ⟨?_, hs.reg, hs.inj, hs.loc, hs.kap, hs.kbig, hs.xlt, rfl, rfl, rfl, Nat.le_refl _, fun _ _ _ => rfl⟩, hg, fun _ h => h, fun _ h => .inl h, ?_, rfl⟩
      · intro t a ht
        obtain ⟨_, hu⟩ := qFs ht
        obtain ⟨x, h1, h2⟩ := hts.get hu
        simp only [Nat.sub_zero] at h1
        have hlt : t < vs.length := (List.getElem?_eq_some_iff.1 h1).1
        have : (vs.toArray ++ Array.replicate (fn.ntmps - vs.toArray.size) undef).getD t undef = x := by
          rw [Array.getD_eq_getD_getElem?, Array.getElem?_append_left (by simpa using hlt)]
          simp [h1]
        rw [this]; exact h2
      · simp; omega
    refine wp_mono (Ge h4 h7 h1 hI h) ?_
    rintro e a w' ⟨x, s, rfl, ⟨X', μ', hsim, hg', h0, hbd, hsz, hds⟩, hq⟩
    have fin : ∀ c, qAG s rvs = some (c, res) → c → s.hp = hp' → a.defers = [] ∧ ∃ v, (results fn a.tmps).run P w' = .ok v w' ∧ ∃ u, Ending.returned v = .returned u ∧
        ∃ X' μ', C6 w w.heap.size κ X' μ' ⟨[], hp'⟩ #[] w' ∧ AR w' X' μ' (St.sh ⟨[], hp'⟩) res u ∧ (∀ b, X b → X' b) ∧ (∀ b, X' b → X b ∨ w.heap.size ≤ b ∨ ∃ id n, κ id = some (b, n)) := by
      intro c hr hcc hh
      obtain ⟨v, h8, h9⟩ := qIj hsim h6 hr hcc
      subst hh
      exact ⟨hds, v, h8, v, rfl, X', μ', ⟨fun t a ht => by simp [A9] at ht, hsim.reg, hsim.inj, hsim.loc, hsim.kap, hsim.kbig, hsim.xlt, hsim.os, hsim.tape, hsim.output, hsim.size, hsim.fr⟩, h9, h0, hbd⟩
    cases x with
    | normal => obtain ⟨c, hr, hcc, hh⟩ := hq; exact fin c hr hcc hh
    | ret => obtain ⟨c, hr, hcc, hh⟩ := hq; exact fin c hr hcc hh
    | exit i => exact hq.elim
end
end Go.Lg
namespace Go.Lg
open Go
def sV (l : List UInt8) : Value := .string ⟨l.toArray⟩
structure Tag {α : Sort _} (a : α) : Type where
def Bj (A : Prop) (_ : Tag A) : Prop := A
def F7 (x : Option (Prop × AV × St)) (K : AV → St → Prop) (_ : Tag K) : Prop := match x with
  | some (c, r, st1) => c ∧ K r st1
  | none => False
def asK (x : Option (List AV)) (K : List AV → Prop) (_ : Tag K) : Prop := match x with
  | some as => K as
  | none => False
def fnK (x : Option (FuncId × List AV)) (K : FuncId → List AV → Prop) (_ : Tag K) : Prop := match x with
  | some p => K p.1 p.2
  | none => False
def q7g (x : Option AV) (A B : Prop) (_ : Tag A) (_ : Tag B) : Prop := match x with
  | some (.t (.v (.bool t))) => (t = true → A) ∧ (t = false → B)
  | _ => False
def q7h (P : Program) (Γ : Tables) (hp : List (Nat × Bl)) (f : FuncId) (as : List AV) (K : T → Prop) (_ : Tag K) : Prop := ∃ res, q5D P Γ hp f as res ∧ K res
def qH3 (P : Program) (Γ : Tables) (st : St) (f : FuncId) (rs : List Nat) (base : Nat) (hp : List (Nat × Bl)) (as : List AV) (K : AV → St → Prop) (_ : Tag K) : Prop :=
  ∃ res hp', F4 P Γ f hp as res hp' ∧ okB rs base st.hp hp' ∧ K (C2 (fun i => some (bwd rs base i)) res) (Pz rs base hp' st)
def qH4 (P : Program) (Γ : Tables) (st : St) (f : FuncId) (base : Nat) (as : List AV) (K : AV → St → Prop) (_ : Tag K) : Prop :=
  ∃ res hp', F4 P Γ f [] as res hp' ∧ okB [] base st.hp hp' ∧ K (C2 (fun i => some (bwd [] base i)) res) ⟨st.env, Ni [] base hp' ++ st.hp⟩
def qEA (P : Program) (Γ : Tables) (f : FuncId) (as : List AV) (K : T → Prop) (_ : Tag K) : Prop := ∃ ts res, Bd (as.map toT) = some ts ∧ (Ai P Γ f ts res ∨ Ab P Γ f ts res) ∧ K res
def qH5 (P : Program) (Γ : Tables) (st : St) (f : FuncId) (rs : List Nat) (hp : List (Nat × Bl)) (as : List AV) (K : AV → St → Prop) (_ : Tag K) : Prop :=
  ∃ res, F4 P Γ f hp as res hp ∧ K (C2 (fun i => some (bwd rs 0 i)) res) st
def Bo (P : Program) (Γ : Tables) (d : Nat) (io : Dk) (st : St) (K : AV → St → Prop) : Prop := match io with
  | .call f args => asK (evs Γ st.env args) (fun as => q7h P Γ st.hp f as (fun res => K (.t res) st) ⟨⟩) ⟨⟩
  | .callv x args => fnK ((ev Γ st.env x).bind qGs) (fun f cs => asK (evs Γ st.env args) (fun as => q7h P Γ st.hp f (as ++ cs) (fun res => K (.t res) st) ⟨⟩) ⟨⟩) ⟨⟩
  | .hcall f args rs base => asK (evs Γ st.env args) (fun as => rs.Nodup ∧ qH3 P Γ st f rs base (Iq rs st.hp) (as.map (C2 (fwd rs))) K ⟨⟩) ⟨⟩
  | .ncall f args base => asK (evs Γ st.env args) (fun as => qH4 P Γ st f base (as.map (C2 (fwd []))) K ⟨⟩) ⟨⟩
  | .callT f args => asK (evs Γ st.env args) (fun as => qEA P Γ f as (fun res => K (.t res) st) ⟨⟩) ⟨⟩
  | .rcall f args rs => asK (evs Γ st.env args) (fun as => rs.Nodup ∧ (∀ i ∈ rs, ∃ ty s es, A9 st.hp i = some (.sl ty s es)) ∧ qH5 P Γ st f rs (Iq rs st.hp) (as.map (C2 (fwd rs))) K ⟨⟩) ⟨⟩
  | io => F7 (B6 Γ d io st) K ⟨⟩
def q95 (x : Option Bool) (A B : Prop) (_ : Tag A) (_ : Tag B) : Prop := match x with
  | some true => A
  | some false => B
  | none => False
def qJP (P : Program) (Γ : Tables) (ro : RO) (st : St) (K : St → Prop) : Prop := q95 (Nj st.env ro.guard) (Bo P Γ ro.d ro.op st fun r st1 => K (st1.put ro.dst r)) (K (st.put ro.dst .un)) ⟨⟩ ⟨⟩
def Gw (P : Program) (Γ : Tables) : (ros : List RO) → (st : St) → (K : St → Prop) → Tag K → Prop
  | [], st, K, _ => K st
  | ro :: ros, st, K, t => qJP P Γ ro st fun st1 => Gw P Γ ros st1 K t
theorem qH6 {P : Program} {Γ : Tables} {d : Nat} {io : Dk} {st : St} {K : AV → St → Prop} (h : Bo P Γ d io st K) : ∃ r st1, Fq P Γ d io st r st1 ∧ K r st1 := by
  have gen : F7 (B6 Γ d io st) K ⟨⟩ → ∃ r st1, (∃ c, B6 Γ d io st = some (c, r, st1) ∧ c) ∧ K r st1 := by
    intro h
    unfold F7 at h
    split at h
    · rename_i c r st1 hs; exact ⟨r, st1, ⟨c, hs, h.1⟩, h.2⟩
    · exact h.elim
  cases io with
  | call f args =>
    simp only [Bo, asK] at h
    split at h
    · rename_i as has; obtain ⟨res, h1, h2⟩ := h; exact ⟨_, _, ⟨as, res, has, h1, rfl, rfl⟩, h2⟩
    · exact h.elim
  | callv x args =>
    simp only [Bo, fnK] at h
    split at h
    · rename_i p hp
      obtain ⟨a, ha, hf⟩ := Option.bind_eq_some_iff.1 hp
      simp only [asK] at h
      split at h
      · rename_i as has; obtain ⟨res, h1, h2⟩ := h; exact ⟨_, _, ⟨a, p.1, p.2, as, res, ha, hf, has, h1, rfl, rfl⟩, h2⟩
      · exact h.elim
    · exact h.elim
  | hcall f args rs base =>
    simp only [Bo, asK] at h
    split at h
    · rename_i as has; obtain ⟨hnd, res, hp', h1, h2, h3⟩ := h; exact ⟨_, _, ⟨as, res, hp', has, hnd, h1, h2, rfl, rfl⟩, h3⟩
    · exact h.elim
  | ncall f args base =>
    simp only [Bo, asK] at h
    split at h
    · rename_i as has; obtain ⟨res, hp', h1, h2, h3⟩ := h; exact ⟨_, _, ⟨as, res, hp', has, h1, h2, rfl, rfl⟩, h3⟩
    · exact h.elim
  | callT f args =>
    simp only [Bo, asK] at h
    split at h
    · rename_i as has; obtain ⟨ts, res, h1, h2, h3⟩ := h; exact ⟨_, _, ⟨as, ts, res, has, h1, h2, rfl, rfl⟩, h3⟩
    · exact h.elim
  | rcall f args rs =>
    simp only [Bo, asK] at h
    split at h
    · rename_i as has; obtain ⟨hnd, hsl, res, h1, h2⟩ := h; exact ⟨_, _, ⟨as, res, has, hnd, hsl, h1, rfl, rfl⟩, h2⟩
    · exact h.elim
  | _ => exact gen h
theorem q70 {P : Program} {Γ : Tables} : ∀ {ros : List RO} {st : St} {K : St → Prop}, Gw P Γ ros st K ⟨⟩ → ∃ s1, Qu P Γ ros st s1 ∧ K s1
  | [], st, K, h => ⟨st, rfl, h⟩
  | ro :: ros, st, K, h => by
    simp only [Gw, qJP, q95] at h
    split at h
    · rename_i hw
      obtain ⟨r, st1, h1, h2⟩ := qH6 h
      obtain ⟨s1, h3, h4⟩ := q70 (ros := ros) h2
      exact ⟨s1, ⟨_, .inl ⟨hw, r, st1, h1, rfl⟩, h3⟩, h4⟩
    · rename_i hw
      obtain ⟨s1, h3, h4⟩ := q70 (ros := ros) h
      exact ⟨s1, ⟨_, .inr ⟨hw, rfl⟩, h3⟩, h4⟩
    · exact h.elim
def ghs (gs : List Gh) (s : St) : St := gs.foldl (fun s g => g.run s) s
def run (P : Program) (Γ : Tables) : IC → (AX → St → Prop) → St → Prop
  | .skip, Q, s => Q .normal s
  | .reg ros gs, Q, s => Gw P Γ ros s (fun s1 => Q .normal (ghs gs s1)) ⟨⟩
  | .seq a b, Q, s => run P Γ a (Ax (run P Γ b Q) Q) s
  | .cond c a b, Q, s => q7g (ev Γ s.env c) (run P Γ a Q s) (run P Γ b Q s) ⟨⟩ ⟨⟩
  | .block id a, Q, s => run P Γ a (Ny id Q) s
  | .loop a, Q, s => awp P Γ (.loop a) Q s
  | .exit i, Q, s => Q (.exit i) s
  | .ret, Q, s => Q .ret s
  | .scope a, Q, s => run P Γ a Q s
  | .gh a gs, Q, s => run P Γ a (Ax (fun s => Q .normal (ghs gs s)) Q) s
  | .dead, _, _ => False
theorem Qv {P : Program} {Γ : Tables} : ∀ {c : IC} {Q : AX → St → Prop} {s : St}, run P Γ c Q s → awp P Γ c Q s
  | .skip, _, _, h => h
  | .reg ros gs, _, _, h => q70 h
  | .seq a b, Q, s, h => Bz (c := a) (Qv (c := a) h) fun e s h => by
    cases e with
    | normal => exact Qv (c := b) h
    | exit i => exact h
    | ret => exact h
  | .cond c a b, Q, s, h => by
    simp only [run, q7g] at h
    split at h
    · rename_i t ht; exact ⟨t, ht, fun e => Qv (c := a) (h.1 e), fun e => Qv (c := b) (h.2 e)⟩
    · exact h.elim
  | .block id a, Q, s, h => Qv (c := a) h
  | .loop a, Q, s, h => h
  | .exit _, _, _, h => h
  | .ret, _, _, h => h
  | .scope a, Q, s, h => Qv (c := a) h
  | .gh a gs, Q, s, h => Bz (c := a) (Qv (c := a) h) fun e s h => by
    cases e with
    | normal => exact h
    | exit i => exact h
    | ret => exact h
  | .dead, _, _, h => h.elim
def ret (fl : Bool) (rvs : List RV) (R : T → Prop) : AX → St → Prop
  | .exit _, _ => False
  | .normal, s | .ret, s => (match q32 s rvs with | some (c, r) => c ∧ R r | none => False) ∧ (fl = true → Dq s)
theorem qJQ {rvs : List RV} {R : T → Prop} {e : AX} {s : St} {fl : Bool} (h : ret fl rvs R e s) : ∃ res, R res ∧ (if fl then qJN rvs res e s else qLw rvs res e s) := by
  cases e with
  | exit i => exact h.elim
  | normal =>
    obtain ⟨h, hf⟩ := h
    split at h
    · rename_i c r hr
      refine ⟨r, h.2, ?_⟩
      cases fl
      · exact ⟨c, hr, h.1⟩
      · exact ⟨c, hr, h.1, hf rfl⟩
    · exact h.elim
  | ret =>
    obtain ⟨h, hf⟩ := h
    split at h
    · rename_i c r hr
      refine ⟨r, h.2, ?_⟩
      cases fl
      · exact ⟨c, hr, h.1⟩
      · exact ⟨c, hr, h.1, hf rfl⟩
    · exact h.elim
theorem run_pure {P : Program} {Γ : Tables} {f : FuncId} {ic : IC} {N n : Nat} {rvs : List RV} {args : List T} {R : T → Prop} (hc : B1 P f ic N n rvs = true) (hn : args.length = n) (h : run P Γ ic (ret false rvs R) ⟨params 0 args, []⟩) : ∃ res, Ai P Γ f args res ∧ R res := by
  obtain ⟨e, s, h1, h2⟩ := Jn (Qv h)
  obtain ⟨res, hR, hq⟩ := qJQ h1
  exact ⟨res, qE9 hc hn (Bz h2 fun e s ⟨he, hs⟩ => by subst he; subst hs; exact hq), hR⟩
theorem qAj {P : Program} {Γ : Tables} {f : FuncId} {ic : IC} {N n : Nat} {rvs : List RV} {args : List T} {R : T → Prop} (hc : B1 P f ic N n rvs = true) (hn : args.length = n) (h : run P Γ ic (ret true rvs R) ⟨params 0 args, []⟩) : ∃ res, Ab P Γ f args res ∧ R res := by
  obtain ⟨e, s, h1, h2⟩ := Jn (Qv h)
  obtain ⟨res, hR, hq⟩ := qJQ h1
  exact ⟨res, qCd hc hn (Bz h2 fun e s ⟨he, hs⟩ => by subst he; subst hs; exact hq), hR⟩
def qFt (rvs : List RV) (R : AV → List (Nat × Bl) → Prop) : AX → St → Prop
  | .exit _, _ => False
  | .normal, s | .ret, s => match qAG s rvs with | some (c, r) => c ∧ R r s.hp | none => False
theorem qK7 {rvs : List RV} {R : AV → List (Nat × Bl) → Prop} {e : AX} {s : St} (h : qFt rvs R e s) : ∃ res hp', R res hp' ∧ qJO rvs res hp' e s := by
  have key : ∀ s : St, (match qAG s rvs with | some (c, r) => c ∧ R r s.hp | none => False) → ∃ res hp', R res hp' ∧ ∃ c, qAG s rvs = some (c, res) ∧ c ∧ s.hp = hp' := by
    intro s h
    split at h
    · rename_i c r hr; exact ⟨r, s.hp, h.2, c, hr, h.1, rfl⟩
    · exact h.elim
  cases e with
  | exit i => exact h.elim
  | normal => exact key s h
  | ret => exact key s h
theorem qH7 {P : Program} {Γ : Tables} {f : FuncId} {ic : IC} {N n : Nat} {rvs : List RV} {hp : List (Nat × Bl)} {args : List AV} {R : AV → List (Nat × Bl) → Prop} (hc : B1 P f ic N n rvs = true) (hn : args.length = n) (h : run P Γ ic (qFt rvs R) ⟨qBh 0 args, hp⟩) :
    ∃ res hp', F4 P Γ f hp args res hp' ∧ R res hp' := by
  obtain ⟨e, s, h1, h2⟩ := Jn (Qv h)
  obtain ⟨res, hp', hR, hq⟩ := qK7 h1
  exact ⟨res, hp', qIk hc hn (Bz h2 fun e s ⟨he, hs⟩ => by subst he; subst hs; exact hq), hR⟩
theorem A7 {n : Int} (h1 : -9223372036854775808 ≤ n) (h2 : n ≤ 9223372036854775807) : IntKind.i64.wrap n = n := by
  simp [IntKind.wrap, IntKind.signed, IntKind.bits]
  split <;> omega
theorem Bt {n : Int} (h1 : 0 ≤ n) (h2 : n ≤ 255) : IntKind.u8.wrap n = n := by
  simp [IntKind.wrap, IntKind.signed, IntKind.bits]
  omega
section
variable {P : Program} {Γ : Tables} {Q Q' : AX → St → Prop} {s s' : St} {hp hp' : List (Nat × Bl)}
theorem Aj {a : IC} (h : ∀ K : St → Prop, K = run P Γ (.loop a) Q → run P Γ a (Ax K Q) s) : run P Γ (.loop a) Q s := qH2 (Qv (h _ rfl))
@[simp ↓] theorem qMY {a b : IC} : run P Γ (.seq a b) Q s = run P Γ a (Ax (run P Γ b Q) Q) s := Eq.trans rfl rfl
@[simp ↓] theorem qMZ {ros : List RO} {gs : List Gh} : run P Γ (.reg ros gs) Q s = Gw P Γ ros s (fun s1 => Q .normal (ghs gs s1)) ⟨⟩ := Eq.trans rfl rfl
@[simp ↓] theorem qLx {c : Operand} {a b : IC} : run P Γ (.cond c a b) Q s = q7g (ev Γ s.env c) (run P Γ a Q s) (run P Γ b Q s) ⟨⟩ ⟨⟩ := Eq.trans rfl rfl
@[simp ↓] theorem qL2 {id : Nat} {a : IC} : run P Γ (.block id a) Q s = run P Γ a (Ny id Q) s := Eq.trans rfl rfl
@[simp ↓] theorem qL3 {a : IC} : run P Γ (.scope a) Q s = run P Γ a Q s := Eq.trans rfl rfl
@[simp ↓] theorem qN4 {a : IC} {gs : List Gh} : run P Γ (.gh a gs) Q s = run P Γ a (Ax (fun s => Q .normal (ghs gs s)) Q) s := Eq.trans rfl rfl
@[simp ↓] theorem qLy : run P Γ .skip Q s = Q .normal s := Eq.trans rfl rfl
@[simp ↓] theorem qLz {i : Nat} : run P Γ (.exit i) Q s = Q (.exit i) s := Eq.trans rfl rfl
@[simp ↓] theorem qMa : run P Γ .ret Q s = Q .ret s := Eq.trans rfl rfl
@[simp ↓] theorem qM0 : run P Γ .dead Q s = False := Eq.trans rfl rfl
@[simp ↓] theorem qL4 {c : Prop} {r : AV} {K : AV → St → Prop} : F7 (some (c, r, s)) K ⟨⟩ = (c ∧ K r s) := Eq.trans rfl rfl
@[simp ↓] theorem qL5 {K : AV → St → Prop} : F7 none K ⟨⟩ = False := Eq.trans rfl rfl
@[simp ↓] theorem qM1 {as : List AV} {K : List AV → Prop} : asK (some as) K ⟨⟩ = K as := Eq.trans rfl rfl
@[simp ↓] theorem qM2 {f : FuncId} {cs : List AV} {K : FuncId → List AV → Prop} : fnK (some (f, cs)) K ⟨⟩ = K f cs := Eq.trans rfl rfl
@[simp ↓, simp] theorem qK8 {A B : Prop} : q7g (some (.t (.v (.bool true)))) A B ⟨⟩ ⟨⟩ = A := by simp [q7g]
@[simp ↓, simp] theorem qJR {A B : Prop} : q7g (some (.t (.v (.bool false)))) A B ⟨⟩ ⟨⟩ = B := by simp [q7g]
@[simp low] theorem qK9 {t : Bool} {A B : Prop} : q7g (some (.t (.v (.bool t)))) A B ⟨⟩ ⟨⟩ = ((t = true → Bj A ⟨⟩) ∧ (t = false → Bj B ⟨⟩)) := Eq.trans rfl rfl
@[simp ↓] theorem qKA {A B : Prop} : q95 (some true) A B ⟨⟩ ⟨⟩ = A := Eq.trans rfl rfl
@[simp ↓] theorem qJS {A B : Prop} : q95 (some false) A B ⟨⟩ ⟨⟩ = B := Eq.trans rfl rfl
@[simp ↓, simp] theorem qKB {K : St → Prop} : Gw P Γ [] s K ⟨⟩ = K s := Eq.trans rfl rfl
@[simp ↓, simp] theorem qKC {d : Nat}  {io : Dk} {ros : List RO} {K : St → Prop} :
    Gw P Γ (⟨some d, io, none, none⟩ :: ros) s K ⟨⟩ = Bo P Γ d io s fun q st1 => Gw P Γ ros ⟨(d, q) :: st1.env, st1.hp⟩ K ⟨⟩ := Eq.trans rfl rfl
@[simp ↓, simp] theorem qKD {d : Nat}  {r : Nat} {io : Dk} {ros : List RO} {K : St → Prop} :
    Gw P Γ (⟨some d, io, none, some r⟩ :: ros) s K ⟨⟩ = Bo P Γ r io s fun q st1 => Gw P Γ ros ⟨(d, q) :: st1.env, st1.hp⟩ K ⟨⟩ := Eq.trans rfl rfl
@[simp ↓, simp] theorem qKE {d : Nat} {g : Nat} {b : Bool} {io : Dk} {ros : List RO} {K : St → Prop} :
    Gw P Γ (⟨some d, io, some (g, b), none⟩ :: ros) s K ⟨⟩ = q95 (Nj s.env (some (g, b))) (Bo P Γ d io s fun q st1 => Gw P Γ ros ⟨(d, q) :: st1.env, st1.hp⟩ K ⟨⟩) (Gw P Γ ros ⟨(d, .un) :: s.env, s.hp⟩ K ⟨⟩) ⟨⟩ ⟨⟩ := Eq.trans rfl rfl
@[simp ↓, simp] theorem qKF {d : Nat} {g : Nat} {b : Bool} {r : Nat} {io : Dk} {ros : List RO} {K : St → Prop} :
    Gw P Γ (⟨some d, io, some (g, b), some r⟩ :: ros) s K ⟨⟩ = q95 (Nj s.env (some (g, b))) (Bo P Γ r io s fun q st1 => Gw P Γ ros ⟨(d, q) :: st1.env, st1.hp⟩ K ⟨⟩) (Gw P Γ ros ⟨(d, .un) :: s.env, s.hp⟩ K ⟨⟩) ⟨⟩ ⟨⟩ := Eq.trans rfl rfl
@[simp ↓, simp] theorem qKG   {io : Dk} {ros : List RO} {K : St → Prop} :
    Gw P Γ (⟨none, io, none, none⟩ :: ros) s K ⟨⟩ = Bo P Γ 0 io s fun q st1 => Gw P Γ ros st1 K ⟨⟩ := Eq.trans rfl rfl
@[simp ↓, simp] theorem qKH  {g : Nat} {b : Bool} {io : Dk} {ros : List RO} {K : St → Prop} :
    Gw P Γ (⟨none, io, some (g, b), none⟩ :: ros) s K ⟨⟩ = q95 (Nj s.env (some (g, b))) (Bo P Γ 0 io s fun q st1 => Gw P Γ ros st1 K ⟨⟩) (Gw P Γ ros s K ⟨⟩) ⟨⟩ ⟨⟩ := Eq.trans rfl rfl
@[simp ↓] theorem qIl {n : St → Prop} : Ax n Q .normal s = n s := Eq.trans rfl rfl
@[simp ↓] theorem qKI {n : St → Prop} {i : Nat} : Ax n Q (.exit i) s = Q (.exit i) s := Eq.trans rfl rfl
@[simp ↓] theorem qL6 {n : St → Prop} : Ax n Q .ret s = Q .ret s := Eq.trans rfl rfl
@[simp ↓] theorem qIP {id : Nat} : Ny id Q .normal s = Q .normal s := Eq.trans rfl rfl
@[simp ↓] theorem qJT {id i : Nat} : Ny id Q (.exit i) s = if i = id then Q .normal s else Q (.exit i) s := Eq.trans rfl rfl
@[simp ↓] theorem qKJ {id : Nat} : Ny id Q .ret s = Q .ret s := Eq.trans rfl rfl
@[simp ↓] theorem qMb : ghs [] s = s := Eq.trans rfl rfl
theorem G4 {g : Gh} {gs : List Gh} : ghs (g :: gs) s = ghs gs (g.run s) := rfl
@[simp ↓, simp] theorem qM3 {g : Gh} {gs : List Gh} {e : List (Nat × AV)} {h : List (Nat × Bl)} : ghs (g :: gs) ⟨e, h⟩ = ghs gs (g.run ⟨e, h⟩) := Eq.trans rfl rfl
@[simp] theorem q96 {α : Type} {l : List (Nat × α)} : Lg.keep [] l = [] := Eq.trans rfl rfl
@[simp] theorem q71 {α : Type} {k : Nat} {ks : List Nat} {l : List (Nat × α)} : Lg.keep (k :: ks) l = match A9 l k with | some v => (k, v) :: Lg.keep ks l | none => Lg.keep ks l := by
  unfold Lg.keep
  rw [List.filterMap_cons]
  cases A9 l k <;> rfl
@[simp ↓] theorem qN5 {d : Nat} {st : St} {x : Operand} : B6 Γ d (.mv x) st = (
   (ev Γ st.env x).map fun a => (True, a, st)) := Eq.trans rfl rfl
@[simp ↓] theorem qM4 {d : Nat} {st : St} {K : AV → St → Prop} {x : Operand} : Bo P Γ d (.mv x) st K = F7 (B6 Γ d (.mv x) st) K ⟨⟩ := Eq.trans rfl rfl
@[simp ↓] theorem qM5 {d : Nat} {st : St} {c : Operand} {a : Operand} {b : Operand} : B6 Γ d (.pick c a b) st = (
   match ev Γ st.env c, ev Γ st.env a, ev Γ st.env b with
    | some (.t (.v (.bool p))), some a, some b => some (True, q6p p a b, st)
    | _, _, _ => none) := Eq.trans rfl rfl
@[simp ↓] theorem qKK {d : Nat} {st : St} {K : AV → St → Prop} {c : Operand} {a : Operand} {b : Operand} : Bo P Γ d (.pick c a b) st K = F7 (B6 Γ d (.pick c a b) st) K ⟨⟩ := Eq.trans rfl rfl
@[simp ↓] theorem qL7 {d : Nat} {st : St} {fz : Bool} {zs : List Value} : B6 Γ d (.alloc fz zs) st = (
    if fz then some (True, .t (.ip (zs.map D2) 0), st)
    else some (A9 st.hp d = none, .lp d 0 0, ⟨st.env, (d, .bx (zs.map fun z => .t (D2 z))) :: st.hp⟩)) := Eq.trans rfl rfl
@[simp ↓] theorem qJU {d : Nat} {st : St} {K : AV → St → Prop} {fz : Bool} {zs : List Value} : Bo P Γ d (.alloc fz zs) st K = F7 (B6 Γ d (.alloc fz zs) st) K ⟨⟩ := Eq.trans rfl rfl
@[simp ↓] theorem qMc {d : Nat} {st : St} {fz : Bool} {x : Operand} : B6 Γ d (.box fz x) st = (
   (ev Γ st.env x).bind fun a =>
    if fz then (q0f a.cells).map fun ts => (D4 ts = true, .t (.ip ts 0), st)
    else some (A9 st.hp d = none ∧ Da a.cells = true, .lp d 0 0, ⟨st.env, (d, .bx a.cells) :: st.hp⟩)) := Eq.trans rfl rfl
@[simp ↓] theorem qL8 {d : Nat} {st : St} {K : AV → St → Prop} {fz : Bool} {x : Operand} : Bo P Γ d (.box fz x) st K = F7 (B6 Γ d (.box fz x) st) K ⟨⟩ := Eq.trans rfl rfl
@[simp ↓] theorem qL9 {d : Nat} {st : St} {parts : List (Nat × Operand)} : B6 Γ d (.build parts) st = (
   (evs Γ st.env (parts.map (·.2))).map fun as => (as.map (·.cells.length) = parts.map (·.1) ∧ Da (as.flatMap AV.cells) = true, .ag (as.flatMap AV.cells), st)) := Eq.trans rfl rfl
@[simp ↓] theorem qJV {d : Nat} {st : St} {K : AV → St → Prop} {parts : List (Nat × Operand)} : Bo P Γ d (.build parts) st K = F7 (B6 Γ d (.build parts) st) K ⟨⟩ := Eq.trans rfl rfl
@[simp ↓] theorem qMd {d : Nat} {st : St} {fz : Bool} {ty : Nat} {s : Nat} {parts : List Operand} : B6 Γ d (.bsl fz ty s parts) st = (
   (evs Γ st.env parts).bind fun as => (Bd (as.map fun a => q0f a.cells)).map fun es =>
    if fz then ((∀ e ∈ es, e.length = s ∧ D4 e = true), .t (.sl es (some es.length) (some false)), st)
    else (A9 st.hp d = none ∧ (∀ e ∈ es, e.length = s ∧ D4 e = true), .ls d 0 es.length none, ⟨st.env, (d, .sl ty s es) :: st.hp⟩)) := Eq.trans rfl rfl
@[simp ↓] theorem qLA {d : Nat} {st : St} {K : AV → St → Prop} {fz : Bool} {ty : Nat} {s : Nat} {parts : List Operand} : Bo P Γ d (.bsl fz ty s parts) st K = F7 (B6 Γ d (.bsl fz ty s parts) st) K ⟨⟩ := Eq.trans rfl rfl
@[simp ↓] theorem qM6 {d : Nat} {st : St} {n : Nat} {g : Bool} {a : Operand} : B6 Γ d (.load n g a) st = (
   match ev Γ st.env a with
    | some (.t (.ip cs k)) => some (k + n ≤ cs.length, .t (Pv g ((cs.drop k).take n)), st)
    | some (.lp id i k) => match A9 st.hp id with
      | some (.sl _ s es) => some (i < es.length ∧ k + n ≤ s, .t (Pv g (((es.getD i []).drop k).take n)), st)
      | some (.bx cs) => some (i = 0 ∧ k + n ≤ cs.length, Zu g ((cs.drop k).take n), st)
      | _ => none
    | _ => none) := Eq.trans rfl rfl
@[simp ↓] theorem qKL {d : Nat} {st : St} {K : AV → St → Prop} {n : Nat} {g : Bool} {a : Operand} : Bo P Γ d (.load n g a) st K = F7 (B6 Γ d (.load n g a) st) K ⟨⟩ := Eq.trans rfl rfl
@[simp ↓] theorem qLB {d : Nat} {st : St} {n : Nat} {a : Operand} {x : Operand} : B6 Γ d (.store n a x) st = (
   (ev Γ st.env x).bind fun v => match ev Γ st.env a with
    | some (.lp id i k) => match A9 st.hp id with
      | some (.sl ty s es) => (q0f v.cells).map fun ts =>
        (i < es.length ∧ k + n ≤ s ∧ ts.length = n ∧ D4 ts = true, .un,
          ⟨st.env, Gu id (.sl ty s (es.set i (if k = 0 ∧ n = s then ts else (es.getD i []).take k ++ ts ++ (es.getD i []).drop (k + n)))) st.hp⟩)
      | some (.bx cs) => some (i = 0 ∧ k + n ≤ cs.length ∧ v.cells.length = n ∧ Da v.cells = true, .un, ⟨st.env, Gu id (.bx (cs.take k ++ v.cells ++ cs.drop (k + n))) st.hp⟩)
      | _ => none
    | _ => none) := Eq.trans rfl rfl
@[simp ↓] theorem qJW {d : Nat} {st : St} {K : AV → St → Prop} {n : Nat} {a : Operand} {x : Operand} : Bo P Γ d (.store n a x) st K = F7 (B6 Γ d (.store n a x) st) K ⟨⟩ := Eq.trans rfl rfl
@[simp ↓] theorem qM7 {d : Nat} {st : St} {off : Nat} {a : Operand} : B6 Γ d (.fadr off a) st = (
   match ev Γ st.env a with
    | some (.t (.ip cs k)) => some (True, .t (.ip cs (k + off)), st)
    | some (.lp id i k) => some (True, .lp id i (k + off), st)
    | _ => none) := Eq.trans rfl rfl
@[simp ↓] theorem qKM {d : Nat} {st : St} {K : AV → St → Prop} {off : Nat} {a : Operand} : Bo P Γ d (.fadr off a) st K = F7 (B6 Γ d (.fadr off a) st) K ⟨⟩ := Eq.trans rfl rfl
@[simp ↓] theorem qMe {d : Nat} {st : St} {off : Nat} {n : Nat} {g : Bool} {x : Operand} : B6 Γ d (.fld off n g x) st = (
   (ev Γ st.env x).bind fun a => match a with
    | .ag cs => some (off + n ≤ cs.length, Zu g ((cs.drop off).take n), st)
    | .t (.agg ts) => some (off + n ≤ ts.length, .t (Pv g ((ts.drop off).take n)), st)
    | _ => none) := Eq.trans rfl rfl
@[simp ↓] theorem qLC {d : Nat} {st : St} {K : AV → St → Prop} {off : Nat} {n : Nat} {g : Bool} {x : Operand} : Bo P Γ d (.fld off n g x) st K = F7 (B6 Γ d (.fld off n g x) st) K ⟨⟩ := Eq.trans rfl rfl
@[simp ↓] theorem qM8 {d : Nat} {st : St} {s : Nat} {x : Operand} {i : Operand} : B6 Γ d (.iadr s x i) st = (
   match ev Γ st.env x, ev Γ st.env i with
    | some (.t (.sl es _ _)), some (.t (.v (.int _ n))) => some (0 ≤ n ∧ n < es.length ∧ Ec s es, .t (.ip (es.getD n.toNat []) 0), st)
    | some (.ls id off len _), some (.t (.v (.int _ n))) => match A9 st.hp id with
      | some (.sl _ q _) => some (q = s ∧ 0 ≤ n ∧ n < len, .lp id (off + n.toNat) 0, st)
      | _ => none
    | some (.lb id m), some (.t (.v (.int _ n))) => match A9 st.hp id with
      | some (.bx _) => some (s = 1 ∧ 0 ≤ n ∧ n < m, .lp id 0 n.toNat, st)
      | _ => none
    | _, _ => none) := Eq.trans rfl rfl
@[simp ↓] theorem qKN {d : Nat} {st : St} {K : AV → St → Prop} {s : Nat} {x : Operand} {i : Operand} : Bo P Γ d (.iadr s x i) st K = F7 (B6 Γ d (.iadr s x i) st) K ⟨⟩ := Eq.trans rfl rfl
@[simp ↓] theorem qLD {d : Nat} {st : St} {len : Nat} {s : Nat} {x : Operand} {i : Operand} : B6 Γ d (.iadrA len s x i) st = (
   match ev Γ st.env x, ev Γ st.env i with
    | some (.t (.ip cs k)), some (.t (.v (.int _ n))) => some (0 ≤ n ∧ n < len, .t (.ip cs (k + n.toNat * s)), st)
    | some (.lp id j k), some (.t (.v (.int _ n))) => some (0 ≤ n ∧ n < len, .lp id j (k + n.toNat * s), st)
    | _, _ => none) := Eq.trans rfl rfl
@[simp ↓] theorem qJX {d : Nat} {st : St} {K : AV → St → Prop} {len : Nat} {s : Nat} {x : Operand} {i : Operand} : Bo P Γ d (.iadrA len s x i) st K = F7 (B6 Γ d (.iadrA len s x i) st) K ⟨⟩ := Eq.trans rfl rfl
@[simp ↓] theorem qM9 {d : Nat} {st : St} {x : Operand} {i : Operand} : B6 Γ d (.idxS x i) st = (
   match ev Γ st.env x, ev Γ st.env i with
    | some (.t (.v (.string s))), some (.t (.v (.int _ n))) => some (0 ≤ n ∧ n < s.size, .t (.v (.int .u8 (s.data.getD n.toNat 0).toNat)), st)
    | _, _ => none) := Eq.trans rfl rfl
@[simp ↓] theorem qKO {d : Nat} {st : St} {K : AV → St → Prop} {x : Operand} {i : Operand} : Bo P Γ d (.idxS x i) st K = F7 (B6 Γ d (.idxS x i) st) K ⟨⟩ := Eq.trans rfl rfl
@[simp ↓] theorem qMA {d : Nat} {st : St} {len : Nat} {s : Nat} {g : Bool} {x : Operand} {i : Operand} : B6 Γ d (.idxA len s g x i) st = (
   match ev Γ st.env x, ev Γ st.env i with
    | some (.t (.agg ts)), some (.t (.v (.int _ n))) => some (0 ≤ n ∧ n < len ∧ n.toNat * s + s ≤ ts.length, .t (Pv g ((ts.drop (n.toNat * s)).take s)), st)
    | some (.ag cs), some (.t (.v (.int _ n))) => some (0 ≤ n ∧ n < len ∧ n.toNat * s + s ≤ cs.length, Zu g ((cs.drop (n.toNat * s)).take s), st)
    | _, _ => none) := Eq.trans rfl rfl
@[simp ↓] theorem qKP {d : Nat} {st : St} {K : AV → St → Prop} {len : Nat} {s : Nat} {g : Bool} {x : Operand} {i : Operand} : Bo P Γ d (.idxA len s g x i) st K = F7 (B6 Γ d (.idxA len s g x i) st) K ⟨⟩ := Eq.trans rfl rfl
@[simp ↓] theorem qMf {d : Nat} {st : St} {op : BinOp} {x : Operand} {y : Operand} : B6 Γ d (.bin op x y) st = (
   match ev Γ st.env x, ev Γ st.env y with
    | some (.t (.v a)), some (.t (.v b)) => (qFb op a b).map fun r => (r.1, .t (.v r.2), st)
    | _, _ => none) := Eq.trans rfl rfl
@[simp ↓] theorem qLE {d : Nat} {st : St} {K : AV → St → Prop} {op : BinOp} {x : Operand} {y : Operand} : Bo P Γ d (.bin op x y) st K = F7 (B6 Γ d (.bin op x y) st) K ⟨⟩ := Eq.trans rfl rfl
@[simp ↓] theorem qLF {d : Nat} {st : St} {pos : Bool} {x : Operand} : B6 Γ d (.isNil pos x) st = (
   match ev Γ st.env x with
    | some (.t (.sl es _ nl)) => match nl with
      | some q => some (True, .t (.v (.bool (q == pos))), st)
      | none => some (es ≠ [], .t (.v (.bool (!pos))), st)
    | _ => none) := Eq.trans rfl rfl
@[simp ↓] theorem qJY {d : Nat} {st : St} {K : AV → St → Prop} {pos : Bool} {x : Operand} : Bo P Γ d (.isNil pos x) st K = F7 (B6 Γ d (.isNil pos x) st) K ⟨⟩ := Eq.trans rfl rfl
@[simp ↓] theorem qMg {d : Nat} {st : St} {pos : Bool} {x : Operand} {y : Operand} : B6 Γ d (.eqb pos x y) st = (
   match ev Γ st.env x, ev Γ st.env y with
    | some (.t (.v (.bool a))), some (.t (.v (.bool b))) => some (True, .t (.v (.bool (if pos then a == b else a != b))), st)
    | _, _ => none) := Eq.trans rfl rfl
@[simp ↓] theorem qLG {d : Nat} {st : St} {K : AV → St → Prop} {pos : Bool} {x : Operand} {y : Operand} : Bo P Γ d (.eqb pos x y) st K = F7 (B6 Γ d (.eqb pos x y) st) K ⟨⟩ := Eq.trans rfl rfl
@[simp ↓] theorem qN6 {d : Nat} {st : St} {op : UnOp} {x : Operand} : B6 Γ d (.un op x) st = (
   match ev Γ st.env x with
    | some (.t (.v a)) => (unV op a).map fun r => (True, .t (.v r), st)
    | _ => none) := Eq.trans rfl rfl
@[simp ↓] theorem qMB {d : Nat} {st : St} {K : AV → St → Prop} {op : UnOp} {x : Operand} : Bo P Γ d (.un op x) st K = F7 (B6 Γ d (.un op x) st) K ⟨⟩ := Eq.trans rfl rfl
@[simp ↓] theorem qMC {d : Nat} {st : St} {k : IntKind} {x : Operand} : B6 Γ d (.conv k x) st = (
   match ev Γ st.env x with
    | some (.t (.v (.int _ n))) => some (True, .t (.v (.int k (k.wrap n))), st)
    | _ => none) := Eq.trans rfl rfl
@[simp ↓] theorem qKQ {d : Nat} {st : St} {K : AV → St → Prop} {k : IntKind} {x : Operand} : Bo P Γ d (.conv k x) st K = F7 (B6 Γ d (.conv k x) st) K ⟨⟩ := Eq.trans rfl rfl
@[simp ↓] theorem qIm {d : Nat} {st : St} {x : Operand} : B6 Γ d (.bytesStr x) st = (
   ((ev Γ st.env x).bind (C5 st.hp)).bind fun es => (Xa es).map fun bs => (True, .t (.v (.string ⟨bs.toArray⟩)), st)) := Eq.trans rfl rfl
@[simp ↓] theorem qH8 {d : Nat} {st : St} {K : AV → St → Prop} {x : Operand} : Bo P Γ d (.bytesStr x) st K = F7 (B6 Γ d (.bytesStr x) st) K ⟨⟩ := Eq.trans rfl rfl
@[simp ↓] theorem qJZ {d : Nat} {st : St} {x : Operand} : B6 Γ d (.runeStr x) st = (
   match ev Γ st.env x with
    | some (.t (.v (.int _ n))) => some (True, .t (.v (.string (Utf8.encode n))), st)
    | _ => none) := Eq.trans rfl rfl
@[simp ↓] theorem qIQ {d : Nat} {st : St} {K : AV → St → Prop} {x : Operand} : Bo P Γ d (.runeStr x) st K = F7 (B6 Γ d (.runeStr x) st) K ⟨⟩ := Eq.trans rfl rfl
@[simp ↓] theorem qMh {d : Nat} {st : St} {k : Nat} {x : Operand} : B6 Γ d (.len k x) st = (
   (ev Γ st.env x).bind fun a => if qIS k a then (lenOf st.hp a).map fun (n : Nat) => (True, .t (.v (.int .i64 (n : Int))), st) else none) := Eq.trans rfl rfl
@[simp ↓] theorem qLH {d : Nat} {st : St} {K : AV → St → Prop} {k : Nat} {x : Operand} : Bo P Γ d (.len k x) st K = F7 (B6 Γ d (.len k x) st) K ⟨⟩ := Eq.trans rfl rfl
@[simp ↓] theorem qMi {d : Nat} {st : St} {x : Operand} : B6 Γ d (.cap x) st = (
   match ev Γ st.env x with
    | some (.t (.sl _ (some c) _)) => some (True, .t (.v (.int .i64 c)), st)
    | some (.ls _ _ _ (some c)) => some (True, .t (.v (.int .i64 c)), st)
    | _ => none) := Eq.trans rfl rfl
@[simp ↓] theorem qLI {d : Nat} {st : St} {K : AV → St → Prop} {x : Operand} : Bo P Γ d (.cap x) st K = F7 (B6 Γ d (.cap x) st) K ⟨⟩ := Eq.trans rfl rfl
@[simp ↓] theorem qMj {d : Nat} {st : St} {mx : Bool} {xs : List Operand} : B6 Γ d (.mmx mx xs) st = (
   (evs Γ st.env xs).bind fun as => (q0w mx as none).map fun r => (I2 r.1 as = true, .t (.v (.int r.1 r.2)), st)) := Eq.trans rfl rfl
@[simp ↓] theorem qLJ {d : Nat} {st : St} {K : AV → St → Prop} {mx : Bool} {xs : List Operand} : Bo P Γ d (.mmx mx xs) st K = F7 (B6 Γ d (.mmx mx xs) st) K ⟨⟩ := Eq.trans rfl rfl
@[simp ↓] theorem qMk {d : Nat} {st : St} {fz : Bool} {ty : Nat} {s : Nat} {b : Operand} {x : Operand} : B6 Γ d (.app fz ty s b x) st = (
   ((ev Γ st.env x).bind (C5 st.hp)).bind fun news => (ev Γ st.env b).bind fun a =>
    let fin (c0 : Prop) (es : List (List T)) (st' : St) : Option (Prop × AV × St) :=
      let c : Prop := Ec s news ∧ c0
      if fz then some (c, .t (.sl es none none), st')
      else some (c ∧ A9 st'.hp d = none, .ls d 0 es.length none, ⟨st'.env, (d, .sl ty s es) :: st'.hp⟩)
    match a with
    | .t (.sl es (some c) _) => fin (Ec s es ∧ c = es.length ∧ es.length + news.length ≤ 2147483648 ∧ (fz = true ∨ news ≠ [] ∨ es = [])) (es ++ news) st
    | .ls id off len (some c) => match A9 st.hp id with
      | some (.sl t q es) => fin (t = ty ∧ q = s ∧ c = len ∧ len + news.length ≤ 2147483648 ∧ (news ≠ [] ∨ len = 0)) ((es.drop off).take len ++ news) st
      | _ => none
    | .ls id 0 len none => match A9 st.hp id with
      | some (.sl t q es) => fin (t = ty ∧ q = s ∧ len + news.length ≤ 2147483648) (es.take len ++ news) (st.kill id)
      | _ => none
    | _ => none) := Eq.trans rfl rfl
@[simp ↓] theorem qLK {d : Nat} {st : St} {K : AV → St → Prop} {fz : Bool} {ty : Nat} {s : Nat} {b : Operand} {x : Operand} : Bo P Γ d (.app fz ty s b x) st K = F7 (B6 Γ d (.app fz ty s b x) st) K ⟨⟩ := Eq.trans rfl rfl
@[simp ↓] theorem qMD {d : Nat} {st : St} {u0 : Nat} {s : Nat} {b : Operand} {x : Operand} : B6 Γ d (.appT u0 s b x) st = (
   ((ev Γ st.env x).bind (C5 st.hp)).bind fun news => match ev Γ st.env b with
    | some (.t (.sl es (some c) _)) => some (Ec s news ∧ Ec s es ∧ c = es.length ∧ es.length + news.length ≤ 2147483648, .t (.sl (es ++ news) none none), st)
    | _ => none) := Eq.trans rfl rfl
@[simp ↓] theorem qKR {d : Nat} {st : St} {K : AV → St → Prop} {u0 : Nat} {s : Nat} {b : Operand} {x : Operand} : Bo P Γ d (.appT u0 s b x) st K = F7 (B6 Γ d (.appT u0 s b x) st) K ⟨⟩ := Eq.trans rfl rfl
@[simp ↓] theorem qME {d : Nat} {st : St} {b : Operand} {x : Operand} : B6 Γ d (.appB b x) st = (
   ((ev Γ st.env x).bind (C5 st.hp)).bind fun news => match ev Γ st.env b with
    | some (.t (.sl es (some c) _)) => some (Ec 1 news ∧ Ec 1 es ∧ c = es.length ∧ es.length + news.length ≤ 140737488355328, .t (.sl (es ++ news) none none), st)
    | _ => none) := Eq.trans rfl rfl
@[simp ↓] theorem qKS {d : Nat} {st : St} {K : AV → St → Prop} {b : Operand} {x : Operand} : Bo P Γ d (.appB b x) st K = F7 (B6 Γ d (.appB b x) st) K ⟨⟩ := Eq.trans rfl rfl
@[simp ↓] theorem qMF {d : Nat} {st : St} {ty : Nat} {s : Nat} {zs : List Value} {b : Operand} {n : Operand} : B6 Γ d (.appZ ty s zs b n) st = (
   match ev Γ st.env b, ev Γ st.env n with
    | some (.t (.sl es (some q) _)), some (.t (.v (.int _ m))) =>
      some (A9 st.hp d = none ∧ 0 < m ∧ (Ec s es ∧ (q : Int) < es.length + m) ∧ es.length + m ≤ 2147483648, .ls d 0 (es.length + m.toNat) none, ⟨st.env, (d, .sl ty s (es ++ List.replicate m.toNat (zs.map D2))) :: st.hp⟩)
    | _, _ => none) := Eq.trans rfl rfl
@[simp ↓] theorem qKT {d : Nat} {st : St} {K : AV → St → Prop} {ty : Nat} {s : Nat} {zs : List Value} {b : Operand} {n : Operand} : Bo P Γ d (.appZ ty s zs b n) st K = F7 (B6 Γ d (.appZ ty s zs b n) st) K ⟨⟩ := Eq.trans rfl rfl
@[simp ↓] theorem qMl {d : Nat} {st : St} {s : Nat} {x y : Operand} : B6 Γ d (.cpy s x y) st = (
   match ev Γ st.env x with
    | some (.ls id off len _) => match A9 st.hp id with
      | some (.sl ty q es) => ((ev Γ st.env y).bind (C5 st.hp)).map fun news =>
        (q = s ∧ Ec s news, .t (.v (.int .i64 (min len news.length : Nat))), ⟨st.env, Gu id (.sl ty s (es.take off ++ news.take (min len news.length) ++ es.drop (off + min len news.length))) st.hp⟩)
      | _ => none
    | _ => none) := Eq.trans rfl rfl
@[simp ↓] theorem qLL {d : Nat} {st : St} {K : AV → St → Prop} {s : Nat} {x y : Operand} : Bo P Γ d (.cpy s x y) st K = F7 (B6 Γ d (.cpy s x y) st) K ⟨⟩ := Eq.trans rfl rfl
@[simp ↓] theorem qLM {d : Nat} {st : St} {s : Nat} {x : Operand} {lo : Option Operand} {hi : Option Operand} {mx : Option Operand} : B6 Γ d (.slice s x lo hi mx) st = (
   (ev Γ st.env x).bind fun a =>
    match a with
    | .t (.v (.string b)) => (Jl Γ st.env lo 0).bind fun l => (Jl Γ st.env hi b.size).map fun h => (s = 0 ∧ l.1 ∧ h.1 ∧ l.2 ≤ h.2 ∧ h.2 ≤ b.size, .t (.v (.string (b.extract l.2 h.2))), st)
    | .t (.sl es cap nl) => (Jl Γ st.env lo 0).bind fun l => (Jl Γ st.env hi es.length).bind fun h => match mx with
      | none => some (s ≠ 0 ∧ Ec s es ∧ l.1 ∧ h.1 ∧ l.2 ≤ h.2 ∧ h.2 ≤ es.length, .t (.sl ((es.drop l.2).take (h.2 - l.2)) (cap.map (· - l.2)) nl), st)
      | some _ => (Jl Γ st.env mx 0).map fun m => (s ≠ 0 ∧ Ec s es ∧ l.1 ∧ h.1 ∧ m.1 ∧ l.2 ≤ h.2 ∧ h.2 ≤ m.2 ∧ m.2 ≤ es.length, .t (.sl ((es.drop l.2).take (h.2 - l.2)) (some (m.2 - l.2)) nl), st)
    | .ls id off len cap => (Jl Γ st.env lo 0).bind fun l => (Jl Γ st.env hi len).bind fun h => match A9 st.hp id with
     | some (.sl _ q _) => match mx with
      | none => some (s ≠ 0 ∧ q = s ∧ l.1 ∧ h.1 ∧ l.2 ≤ h.2 ∧ h.2 ≤ len, .ls id (off + l.2) (h.2 - l.2) (cap.map (· - l.2)), st)
      | some _ => (Jl Γ st.env mx 0).map fun m => (s ≠ 0 ∧ q = s ∧ l.1 ∧ h.1 ∧ m.1 ∧ l.2 ≤ h.2 ∧ h.2 ≤ m.2 ∧ m.2 ≤ len, .ls id (off + l.2) (h.2 - l.2) (some (m.2 - l.2)), st)
     | _ => none
    | _ => none) := Eq.trans rfl rfl
@[simp ↓] theorem qJa {d : Nat} {st : St} {K : AV → St → Prop} {s : Nat} {x : Operand} {lo : Option Operand} {hi : Option Operand} {mx : Option Operand} : Bo P Γ d (.slice s x lo hi mx) st K = F7 (B6 Γ d (.slice s x lo hi mx) st) K ⟨⟩ := Eq.trans rfl rfl
@[simp ↓] theorem qN7 {d : Nat} {st : St} {ty : Nat} {s : Nat} {zs : List Value} {l : Operand} {c : Operand} : B6 Γ d (.mk ty s zs l c) st = (
   match ev Γ st.env l, ev Γ st.env c with
    | some (.t (.v (.int _ n))), some (.t (.v (.int _ m))) =>
      some (A9 st.hp d = none ∧ 0 ≤ n ∧ n ≤ m ∧ m ≤ 2147483648, .ls d 0 n.toNat none, ⟨st.env, (d, .sl ty s (List.replicate n.toNat (zs.map D2))) :: st.hp⟩)
    | _, _ => none) := Eq.trans rfl rfl
@[simp ↓] theorem qMG {d : Nat} {st : St} {K : AV → St → Prop} {ty : Nat} {s : Nat} {zs : List Value} {l : Operand} {c : Operand} : Bo P Γ d (.mk ty s zs l c) st K = F7 (B6 Γ d (.mk ty s zs l c) st) K ⟨⟩ := Eq.trans rfl rfl
@[simp ↓] theorem qMm {d : Nat} {st : St} {f : FuncId} {caps : List Operand} : B6 Γ d (.mkf f caps) st = (
   (evs Γ st.env caps).map fun as => (Da as = true, (match q0f as with | some ts => .t (.fn f ts) | none => .fn f as), st)) := Eq.trans rfl rfl
@[simp ↓] theorem qLN {d : Nat} {st : St} {K : AV → St → Prop} {f : FuncId} {caps : List Operand} : Bo P Γ d (.mkf f caps) st K = F7 (B6 Γ d (.mkf f caps) st) K ⟨⟩ := Eq.trans rfl rfl
@[simp ↓] theorem qMn {d : Nat} {st : St} {x : Operand} {i : Nat} : B6 Γ d (.ext x i) st = (
   match ev Γ st.env x with
    | some (.t (.tup vs)) => (vs[i]?).map fun t => (True, .t t, st)
    | _ => none) := Eq.trans rfl rfl
@[simp ↓] theorem qLO {d : Nat} {st : St} {K : AV → St → Prop} {x : Operand} {i : Nat} : Bo P Γ d (.ext x i) st K = F7 (B6 Γ d (.ext x i) st) K ⟨⟩ := Eq.trans rfl rfl
@[simp ↓] theorem qMo {d : Nat} {st : St} {x : Operand} : B6 Γ d (.nck x) st = (
   match ev Γ st.env x with
    | some (.t (.ip cs k)) => some (True, .t (.ip cs k), st)
    | some (.lp id i k) => some (True, .lp id i k, st)
    | some (.t (.fn f cs)) => some (True, .t (.fn f cs), st)
    | some (.fn f cs) => some (True, .fn f cs, st)
    | _ => none) := Eq.trans rfl rfl
@[simp ↓] theorem qLP {d : Nat} {st : St} {K : AV → St → Prop} {x : Operand} : Bo P Γ d (.nck x) st K = F7 (B6 Γ d (.nck x) st) K ⟨⟩ := Eq.trans rfl rfl
@[simp ↓] theorem qLQ {d : Nat} {st : St}  : B6 Γ d (.mkmap ) st = (
   some (A9 st.hp d = none, .lm d, ⟨st.env, (d, .mp []) :: st.hp⟩)) := Eq.trans rfl rfl
@[simp ↓] theorem qJb {d : Nat} {st : St} {K : AV → St → Prop}  : Bo P Γ d (.mkmap ) st K = F7 (B6 Γ d (.mkmap ) st) K ⟨⟩ := Eq.trans rfl rfl
@[simp ↓] theorem qMp {d : Nat} {st : St} {u0 : Nat} {zs : List Value} {l : Operand} {c : Operand} : B6 Γ d (.mkB u0 zs l c) st = (
   match ev Γ st.env l, ev Γ st.env c with
    | some (.t (.v (.int _ n))), some (.t (.v (.int _ m))) =>
      some (A9 st.hp d = none ∧ 0 ≤ n ∧ n = m ∧ m ≤ 2147483648, .lb d n.toNat, ⟨st.env, (d, .bx (List.replicate n.toNat (.t (D2 (zs.headD undef))))) :: st.hp⟩)
    | _, _ => none) := Eq.trans rfl rfl
@[simp ↓] theorem qLR {d : Nat} {st : St} {K : AV → St → Prop} {u0 : Nat} {zs : List Value} {l : Operand} {c : Operand} : Bo P Γ d (.mkB u0 zs l c) st K = F7 (B6 Γ d (.mkB u0 zs l c) st) K ⟨⟩ := Eq.trans rfl rfl
@[simp ↓] theorem qMq {d : Nat} {st : St} {ty : Nat} {s : Nat} {zs : List Value} {l : Operand} {c : Operand} : B6 Γ d (.mkE ty s zs l c) st = (
   match ev Γ st.env l, ev Γ st.env c with
    | some (.t (.v (.int _ n))), some (.t (.v (.int _ m))) =>
      some (A9 st.hp d = none ∧ 0 ≤ n ∧ n ≤ m ∧ m ≤ 2147483648, .ls d 0 n.toNat (some m.toNat), ⟨st.env, (d, .sl ty s (List.replicate n.toNat (zs.map D2))) :: st.hp⟩)
    | _, _ => none) := Eq.trans rfl rfl
@[simp ↓] theorem qLS {d : Nat} {st : St} {K : AV → St → Prop} {ty : Nat} {s : Nat} {zs : List Value} {l : Operand} {c : Operand} : Bo P Γ d (.mkE ty s zs l c) st K = F7 (B6 Γ d (.mkE ty s zs l c) st) K ⟨⟩ := Eq.trans rfl rfl
@[simp ↓] theorem qMr {d : Nat} {st : St} {x : Operand} : B6 Γ d (.rng x) st = (
   match ev Γ st.env x with
    | some (.t (.v (.string s))) => some (A9 st.hp d = none, .li d, ⟨st.env, (d, .it s 0) :: st.hp⟩)
    | _ => none) := Eq.trans rfl rfl
@[simp ↓] theorem qLT {d : Nat} {st : St} {K : AV → St → Prop} {x : Operand} : Bo P Γ d (.rng x) st K = F7 (B6 Γ d (.rng x) st) K ⟨⟩ := Eq.trans rfl rfl
@[simp ↓] theorem qMs {d : Nat} {st : St} {x : Operand} : B6 Γ d (.nxt x) st = (
   match ev Γ st.env x with
    | some (.li id) => match A9 st.hp id with
      | some (.it s pos) => if pos < s.size then some (True, .t (.tup [.v (.bool true), .v (.int .i64 pos), .v (.int .i32 (Utf8.decode s pos).1)]), ⟨st.env, Gu id (.it s (pos + (Utf8.decode s pos).2)) st.hp⟩)
        else some (True, .t (.tup [.v (.bool false)]), st)
      | _ => none
    | _ => none) := Eq.trans rfl rfl
@[simp ↓] theorem qLU {d : Nat} {st : St} {K : AV → St → Prop} {x : Operand} : Bo P Γ d (.nxt x) st K = F7 (B6 Γ d (.nxt x) st) K ⟨⟩ := Eq.trans rfl rfl
@[simp ↓] theorem qMH {d : Nat} {st : St} {kt : KT} {zv : Value} {ok : Bool} {m : Operand} {k : Operand} : B6 Γ d (.lkup kt zv ok m k) st = (
   match ev Γ st.env k with
    | some (.t (.v kv)) =>
      let out (es : List (Value × T)) : Prop × AV × St :=
        (kt.fits kv = true ∧ Iy kt es, if ok then .t (.tup [(Eh kv es).getD (Ix zv), .v (.bool (Eh kv es).isSome)]) else .t ((Eh kv es).getD (Ix zv)), st)
      match ev Γ st.env m with
      | some (.t (.mp es)) => some (out es)
      | some (.lm id) => match A9 st.hp id with
        | some (.mp es) => some (out es)
        | _ => none
      | _ => none
    | _ => none) := Eq.trans rfl rfl
@[simp ↓] theorem qKU {d : Nat} {st : St} {K : AV → St → Prop} {kt : KT} {zv : Value} {ok : Bool} {m : Operand} {k : Operand} : Bo P Γ d (.lkup kt zv ok m k) st K = F7 (B6 Γ d (.lkup kt zv ok m k) st) K ⟨⟩ := Eq.trans rfl rfl
@[simp ↓] theorem qMt {d : Nat} {st : St} {kt : KT} {m : Operand} {k : Operand} {x : Operand} : B6 Γ d (.mup kt m k x) st = (
   match ev Γ st.env k, ev Γ st.env m with
    | some (.t (.v kv)), some (.lm id) => match A9 st.hp id with
      | some (.mp es) => ((ev Γ st.env x).bind toT).map fun t => (kt.fits kv = true ∧ Iy kt es, .un, ⟨st.env, Gu id (.mp (q1k kv t es)) st.hp⟩)
      | _ => none
    | _, _ => none) := Eq.trans rfl rfl
@[simp ↓] theorem qLV {d : Nat} {st : St} {K : AV → St → Prop} {kt : KT} {m : Operand} {k : Operand} {x : Operand} : Bo P Γ d (.mup kt m k x) st K = F7 (B6 Γ d (.mup kt m k x) st) K ⟨⟩ := Eq.trans rfl rfl
@[simp ↓] theorem qMu {d : Nat} {st : St} {id : Nat} {n : Nat} {a : Operand} {x : Operand} : B6 Γ d (.stR id n a x) st = (
   if Jm id (ev Γ st.env a) then ((ev Γ st.env x).bind fun v => match ev Γ st.env a with
      | some (.lp id i k) => match A9 st.hp id with
        | some (.sl ty s es) => (q0f v.cells).map fun ts =>
          (i < es.length ∧ k + n ≤ s ∧ ts.length = n ∧ D4 ts = true, .un,
            ⟨st.env, Gu id (.sl ty s (es.set i (if k = 0 ∧ n = s then ts else (es.getD i []).take k ++ ts ++ (es.getD i []).drop (k + n)))) st.hp⟩)
        | some (.bx cs) => some (i = 0 ∧ k + n ≤ cs.length ∧ v.cells.length = n ∧ Da v.cells = true, .un, ⟨st.env, Gu id (.bx (cs.take k ++ v.cells ++ cs.drop (k + n))) st.hp⟩)
        | _ => none
      | _ => none) else none) := Eq.trans rfl rfl
@[simp ↓] theorem qLW {d : Nat} {st : St} {K : AV → St → Prop} {id : Nat} {n : Nat} {a : Operand} {x : Operand} : Bo P Γ d (.stR id n a x) st K = F7 (B6 Γ d (.stR id n a x) st) K ⟨⟩ := Eq.trans rfl rfl
@[simp ↓] theorem qMv {d : Nat} {st : St} {id : Nat} {n : Nat} {g : Bool} {a : Operand} : B6 Γ d (.ldR id n g a) st = (
   if Jm id (ev Γ st.env a) then (match ev Γ st.env a with
      | some (.t (.ip cs k)) => some (k + n ≤ cs.length, .t (Pv g ((cs.drop k).take n)), st)
      | some (.lp id i k) => match A9 st.hp id with
        | some (.sl _ s es) => some (i < es.length ∧ k + n ≤ s, .t (Pv g (((es.getD i []).drop k).take n)), st)
        | some (.bx cs) => some (i = 0 ∧ k + n ≤ cs.length, Zu g ((cs.drop k).take n), st)
        | _ => none
      | _ => none) else none) := Eq.trans rfl rfl
@[simp ↓] theorem qLX {d : Nat} {st : St} {K : AV → St → Prop} {id : Nat} {n : Nat} {g : Bool} {a : Operand} : Bo P Γ d (.ldR id n g a) st K = F7 (B6 Γ d (.ldR id n g a) st) K ⟨⟩ := Eq.trans rfl rfl
@[simp ↓] theorem qMw {d : Nat} {st : St} {n : Nat} {g : Bool} {a : Operand} : B6 Γ d (.ldT n g a) st = (
   match ev Γ st.env a with
    | some (.t (.ip cs k)) => some (k + n ≤ cs.length, .t (Pv g ((cs.drop k).take n)), st)
    | _ => none) := Eq.trans rfl rfl
@[simp ↓] theorem qLY {d : Nat} {st : St} {K : AV → St → Prop} {n : Nat} {g : Bool} {a : Operand} : Bo P Γ d (.ldT n g a) st K = F7 (B6 Γ d (.ldT n g a) st) K ⟨⟩ := Eq.trans rfl rfl
@[simp ↓] theorem qMx {d : Nat} {st : St} {kt : KT} {zv : Value} {ok : Bool} {m : Operand} {k : Operand} : B6 Γ d (.lkT kt zv ok m k) st = (
   match ev Γ st.env k, ev Γ st.env m with
    | some (.t (.v kv)), some (.t (.mp es)) => some (kt.fits kv = true ∧ Iy kt es, if ok then .t (.tup [(Eh kv es).getD (Ix zv), .v (.bool (Eh kv es).isSome)]) else .t ((Eh kv es).getD (Ix zv)), st)
    | _, _ => none) := Eq.trans rfl rfl
@[simp ↓] theorem qLZ {d : Nat} {st : St} {K : AV → St → Prop} {kt : KT} {zv : Value} {ok : Bool} {m : Operand} {k : Operand} : Bo P Γ d (.lkT kt zv ok m k) st K = F7 (B6 Γ d (.lkT kt zv ok m k) st) K ⟨⟩ := Eq.trans rfl rfl
@[simp ↓] theorem qKV {d : Nat} {st : St} {K : AV → St → Prop} {f : FuncId} {args : List Operand} : Bo P Γ d (.call f args) st K = asK (evs Γ st.env args) (fun as => q7h P Γ st.hp f as (fun res => K (.t res) st) ⟨⟩) ⟨⟩ := Eq.trans rfl rfl
@[simp ↓] theorem qJc {d : Nat} {st : St} {K : AV → St → Prop} {x : Operand} {args : List Operand} : Bo P Γ d (.callv x args) st K = fnK ((ev Γ st.env x).bind qGs) (fun f cs => asK (evs Γ st.env args) (fun as => q7h P Γ st.hp f (as ++ cs) (fun res => K (.t res) st) ⟨⟩) ⟨⟩) ⟨⟩ := Eq.trans rfl rfl
@[simp ↓] theorem qJd {d : Nat} {st : St} {K : AV → St → Prop} {f : FuncId} {args : List Operand} {rs : List Nat} {base : Nat} : Bo P Γ d (.hcall f args rs base) st K = asK (evs Γ st.env args) (fun as => rs.Nodup ∧ qH3 P Γ st f rs base (Iq rs st.hp) (as.map (C2 (fwd rs))) K ⟨⟩) ⟨⟩ := Eq.trans rfl rfl
@[simp ↓] theorem qJe {d : Nat} {st : St} {K : AV → St → Prop} {f : FuncId} {args : List Operand} {base : Nat} : Bo P Γ d (.ncall f args base) st K = asK (evs Γ st.env args) (fun as => qH4 P Γ st f base (as.map (C2 (fwd []))) K ⟨⟩) ⟨⟩ := Eq.trans rfl rfl
@[simp ↓] theorem qJf {d : Nat} {st : St} {K : AV → St → Prop} {f : FuncId} {args : List Operand} : Bo P Γ d (.callT f args) st K = asK (evs Γ st.env args) (fun as => qEA P Γ f as (fun res => K (.t res) st) ⟨⟩) ⟨⟩ := Eq.trans rfl rfl
@[simp ↓] theorem qJg {d : Nat} {st : St} {K : AV → St → Prop} {f : FuncId} {args : List Operand} {rs : List Nat} : Bo P Γ d (.rcall f args rs) st K = asK (evs Γ st.env args) (fun as => rs.Nodup ∧ (∀ i ∈ rs, ∃ ty s es, A9 st.hp i = some (.sl ty s es)) ∧ qH5 P Γ st f rs (Iq rs st.hp) (as.map (C2 (fwd rs))) K ⟨⟩) ⟨⟩ := Eq.trans rfl rfl
@[simp] theorem qN8 {e : List (Nat × AV)} {t : Nat} : ev Γ e (.tmp t) = A9 e t := Eq.trans rfl rfl
@[simp] theorem qMI {e : List (Nat × AV)} {v : Value} : ev Γ e (.const v) = some (q8S v) := Eq.trans rfl rfl
@[simp] theorem qLa {e : List (Nat × AV)} {g : Nat} : ev Γ e (.global g) = (Γ g).map fun cs => .t (.ip cs 0) := Eq.trans rfl rfl
@[simp] theorem qMy {e : List (Nat × AV)} {f : FuncId} : ev Γ e (.func f) = some (.t (.fn f [])) := Eq.trans rfl rfl
@[simp] theorem qN9 {e : List (Nat × AV)} {xs : List Operand} : evs Γ e xs = Bd (xs.map (ev Γ e)) := Eq.trans rfl rfl
@[simp] theorem qKW {e : List (Nat × AV)} : Nj e none = some true := Eq.trans rfl rfl
@[simp] theorem qKX {e : List (Nat × AV)} {g : Nat} {b : Bool} : Nj e (some (g, b)) = match A9 e g with
    | some (.t (.v (.bool p))) => some (p == b)
    | some .un => some false
    | _ => none := Eq.trans rfl rfl
end
attribute [simp] RO.d St.put Bd A9 params Gh.run J0 qCZ qBg q32 Ak q8S Ix D2 qFb unV q0w I2 lenOf qIS Pv Zu AV.cells q0f toT qGd q6p C5 Jl Gu qGs St.kill Gp kill1 Qn del Jm qBh qAG Iq fwd bwd Ni q6u q7e Pz okB C2 ren1 ren0 D7 qGq I4 Zy qE7 Bl.sh List.filter_cons
end Go.Lg
namespace Go.Lg
open Go
abbrev tm (n : Nat) : Operand := .tmp n
abbrev ki (n : Int) : Operand := .const (.int .i64 n)
abbrev ku (n : Int) : Operand := .const (.int .u8 n)
abbrev kT : Operand := .const (.bool true)
abbrev kF : Operand := .const (.bool false)
abbrev kN : Operand := .const (.slice none 0 0)
abbrev od (d : Nat) (io : Dk) : RO := ⟨some d, io, none, none⟩
abbrev on (io : Dk) : RO := ⟨none, io, none, none⟩
abbrev oz (d : Nat) (io : Dk) (r : Nat) : RO := ⟨some d, io, none, some r⟩
abbrev oT (d : Nat) (io : Dk) (g : Nat) : RO := ⟨some d, io, some (g, true), none⟩
abbrev oF (d : Nat) (io : Dk) (g : Nat) : RO := ⟨some d, io, some (g, false), none⟩
abbrev om (d x : Nat) : RO := ⟨some d, .mv (.tmp x), none, none⟩
abbrev ld (n x : Nat) : Dk := .load n false (.tmp x)
abbrev lG (n x : Nat) : Dk := .load n true (.tmp x)
abbrev ia (s x i : Nat) : Dk := .iadr s (.tmp x) (.tmp i)
abbrev fa (k x : Nat) : Dk := .fadr k (.tmp x)
abbrev le (k x : Nat) : Dk := .len k (.tmp x)
abbrev ex (x i : Nat) : Dk := .ext (.tmp x) i
abbrev kp (ks rs : List Nat) : Gh := .keep ks rs
end Go.Lg
namespace Go.Lg
open Go Go.RowKit
def Old (w : World) (b : Nat) : Prop := b < w.heap.size
def Rd (P : Program) (t : TypeId) (S : List T → Prop) : Prop :=
  ∀ (H : Type) (enc : TypeId × Value → H) (w : World) (held : Bool) (fuel : Nat) (cs : List Value) (x : DataW H × List MemPlace), DataW.trod enc P w 0 (fun _ => true) held fuel t cs = some x → ∃ ts, S ts ∧ Gq w (Old w) ts cs ∧ ∀ u ∈ ts, u.one = true
theorem qEu {w : World} {a : Addr} {v : Value} (h : w.cell? a = some v) : a.block < w.heap.size := by
  unfold World.cell? at h
  split at h
  · rename_i hb
    have := Array.getElem?_eq_some_iff.1 hb
    exact this.1
  · simp at h
variable {P : Program} {t e : TypeId}
theorem Gq.one1 {w : World} {X : Nat → Prop} {u : T} {v : Value} (h : TR w X u v) : Gq w X [u] [v] := Gq.cons h (Gq.nil w X)
theorem Rd.mono {S S' : List T → Prop} (h : Rd P t S) (hs : ∀ ts, S ts → S' ts) : Rd P t S' := fun H enc w held fuel cs x hx => by
  obtain ⟨ts, h1, h2, h3⟩ := h H enc w held fuel cs x hx
  exact ⟨ts, hs ts h1, h2, h3⟩
theorem qKY {k : IntKind} (ht : P.underlying t = some (.int k)) : Rd P t fun ts => ∃ n, ts = [.v (.int k n)] ∧ (Lit.int k n).wf = true := by
  intro H enc w held fuel cs x h
  obtain ⟨n, rfl, _, hw⟩ := DataW.trod_int ht h
  exact ⟨[.v (.int k n)], ⟨n, rfl, hw⟩, Gq.one1 (.v _), by intro u hu; simp at hu; subst hu; rfl⟩
theorem qEv (ht : P.underlying t = some .bool) : Rd P t fun ts => ∃ b, ts = [.v (.bool b)] := by
  intro H enc w held fuel cs x h
  obtain ⟨b, rfl, _⟩ := DataW.trod_bool ht h
  exact ⟨[.v (.bool b)], ⟨b, rfl⟩, Gq.one1 (.v _), by intro u hu; simp at hu; subst hu; rfl⟩
theorem qAk {α : Type} {Q : Nat → α → Prop} : ∀ (n : Nat), (∀ i, i < n → ∃ a, Q i a) → ∃ l : List α, l.length = n ∧ ∀ i a, l[i]? = some a → Q i a
  | 0, _ => ⟨[], rfl, fun i a h => by simp at h⟩
  | n + 1, h => by
    obtain ⟨l, hl, hq⟩ := qAk n fun i hi => h i (by omega)
    obtain ⟨a, ha⟩ := h n (by omega)
    refine ⟨l ++ [a], by simp [hl], fun i b hb => ?_⟩
    by_cases hi : i < n
    · rw [List.getElem?_append_left (by omega)] at hb; exact hq i b hb
    · have : i = n := by
        have := (List.getElem?_eq_some_iff.1 hb).1
        simp at this; omega
      subst this
      rw [List.getElem?_append_right (by omega), hl] at hb
      simp at hb; subst hb; exact ha
theorem q65 {s : Nat} {S : List T → Prop} (ht : P.underlying t = some (.slice e)) (hc : P.cellsOf e = s) (hs : 0 < s) (he : Rd P e S) :
    Rd P t fun ts => ∃ es cap nl, ts = [.sl es cap nl] ∧ es.length ≤ maxLen ∧ ∀ x ∈ es, S x ∧ x.length = s := by
  intro H enc w held fuel cs x h
  rcases DataW.trod_slice ht h with ⟨rfl, _⟩ | ⟨a, len, cap, E2, rest, n, rfl, rfl, _, _, hlc, hcm, hel, hat, _, _⟩
  · exact ⟨[.sl [] (some 0) (some true)], ⟨[], _, _, rfl, by simp, by simp⟩, Gq.one1 (.nil _ _ none 0 (by rintro n ⟨⟩; rfl) (by rintro b ⟨⟩; rfl) (fun _ => rfl)), by intro u hu; simp at hu; subst hu; rfl⟩
  by_cases h0 : len = 0
  · subst h0
    exact ⟨[.sl [] none none], ⟨[], _, _, rfl, by simp, by simp⟩, Gq.one1 (.nil _ _ (some a) cap (fun _ h => by cases h) (fun _ h => by cases h) (fun h => by cases h)), by intro u hu; simp at hu; subst hu; rfl⟩
  obtain ⟨b, off, spot⟩ := a
  obtain ⟨hsp, hb⟩ : spot = none ∧ b < w.heap.size := by
    have h1 := hat 0 (by omega)
    rw [List.getElem?_eq_getElem (by omega), Option.bind_eq_some_iff] at h1
    obtain ⟨cs', h2, h3⟩ := h1
    unfold World.cells? at h2
    rw [if_pos (Nat.zero_le _)] at h2
    have hl := mapM_some_length h2
    simp only [List.length_range, hc] at hl
    have h4 := mapM_some_get h2 0 0 (by simp [hc, hs])
    rw [List.getElem?_eq_getElem (by omega)] at h4
    simp [Addr.add] at h4
    exact ⟨World.cell?_spot h4, qEu h4⟩
  subst hsp
  have hadd : ∀ k, (Addr.mk b off none).add k = ⟨b, off + k, none⟩ := fun k => by
    unfold Addr.add
    split
    · rename_i h; subst h; rfl
    · rfl
  have hadd2 : ∀ o k, (Addr.mk b o none).add k = ⟨b, o + k, none⟩ := fun o k => by
    unfold Addr.add
    split
    · rename_i h; subst h; rfl
    · rfl
  have hone : ∀ i, i < len → ∃ el : List T, S el ∧ el.length = s ∧ (∀ u ∈ el, u.one = true) ∧ ∀ k, k < s → ∃ v, w.cell? ⟨b, off + i * s + k, none⟩ = some v ∧ ∀ u, el[k]? = some u → TR w (Old w) u v := fun i hi => by
    have h1 := hat i hi
    rw [List.getElem?_eq_getElem (by omega), Option.bind_eq_some_iff] at h1
    obtain ⟨cs', h2, h3⟩ := h1
    obtain ⟨el, hS, htr, ho⟩ := he H enc w held n cs' _ h3
    unfold World.cells? at h2
    rw [if_pos (Nat.zero_le _)] at h2
    have hl := mapM_some_length h2
    simp only [List.length_range, hc] at hl
    refine ⟨el, hS, by rw [htr.1, hl], ho, fun k hk => ?_⟩
    have h4 := mapM_some_get h2 k k (by simp [hc, hk])
    rw [List.getElem?_eq_getElem (by omega), hadd, hadd2, hc] at h4
    exact ⟨cs'[k], h4, fun u hu => htr.2 k u _ hu (List.getElem?_eq_getElem (by omega))⟩
  obtain ⟨es, hlen, hes⟩ := qAk len hone
  have hget : ∀ i (hi : i < es.length), es[i]? = some es[i] := fun i hi => List.getElem?_eq_getElem hi
  refine ⟨[.sl es none none], ⟨es, none, none, rfl, by omega, fun x hx => ?_⟩, ?_, by intro u hu; simp at hu; subst hu; rfl⟩
  · obtain ⟨i, hi, rfl⟩ := List.getElem_of_mem hx
    have := hes i _ (hget i hi)
    exact ⟨this.1, this.2.1⟩
  · rw [← hlen]
    refine Gq.one1 (.sl es none none s b off cap (fun i k => (w.cell? ⟨b, off + i * s + k, none⟩).getD .nilFunc) ?_ ?_ ?_ ?_ hb (by omega) (fun _ h => by cases h) (fun _ h => by cases h))
    · intro i k hi hk
      obtain ⟨v, hv, _⟩ := (hes i _ (hget i hi)).2.2.2 k hk
      simp [hv]
    · intro i el hi
      exact (hes i _ hi).2.1
    · intro i k el u hi hu
      have hq := hes i _ hi
      have hk : k < s := by rw [← hq.2.1]; exact (List.getElem?_eq_some_iff.1 hu).1
      obtain ⟨v, hv, hr⟩ := hq.2.2.2 k hk
      simp only [hv, Option.getD_some]
      exact hr u hu
    · intro i k el u hi hu
      exact (hes i _ hi).2.2.1 u (List.mem_of_getElem? hu)
def q7i : List (Nat × (List T → Prop)) → List T → Prop
  | [], ts => ts = []
  | (_, S) :: l, ts => ∃ a b, ts = a ++ b ∧ S a ∧ q7i l b
inductive qH9 (P : Program) : Nat → List Field → List (Nat × (List T → Prop)) → Prop
  | nil (o : Nat) : qH9 P o [] []
  | cons {o n : Nat} {f : Field} {S : List T → Prop} {fl : List Field} {l : List (Nat × (List T → Prop))} (h1 : f.offset = o) (h2 : P.cellsOf f.type = n) (h3 : Rd P f.type S) (h : qH9 P (o + n) fl l) : qH9 P o (f :: fl) ((n, S) :: l)
def qCe : List (Nat × (List T → Prop)) → Nat
  | [] => 0
  | (n, _) :: l => n + qCe l
theorem qAl {H : Type} {enc : TypeId × Value → H} {w : World} {held : Bool} {m : Nat} {cs : List Value} : ∀ {fl : List Field} {l : List (Nat × (List T → Prop))} {o : Nat}, qH9 P o fl l → (∀ f ∈ fl, ∃ x, DataW.trod enc P w 0 (fun _ => true) held m f.type ((cs.drop f.offset).take (P.cellsOf f.type)) = some x) → cs.length = o + qCe l →
    ∃ ts, q7i l ts ∧ Gq w (Old w) ts (cs.drop o) ∧ ∀ u ∈ ts, u.one = true
  | _, _, o, .nil _, _, hl => ⟨[], rfl, by rw [List.drop_of_length_le (by simp [qCe] at hl; omega)]; exact Gq.nil w _, by simp⟩
  | _, _, o, .cons (n := n) (f := f) (S := S) (l := l) h1 h2 h3 h, hx, hl => by
    obtain ⟨x, hx0⟩ := hx f List.mem_cons_self
    rw [h1, h2] at hx0
    obtain ⟨a, ha, hta, hoa⟩ := h3 H enc w held m _ _ hx0
    obtain ⟨b, hb, htb, hob⟩ := qAl h (fun g hg => hx g (List.mem_cons_of_mem _ hg)) (by simp only [qCe] at hl; omega)
    refine ⟨a ++ b, ⟨a, b, rfl, ha, hb⟩, ?_, fun u hu => ?_⟩
    · have := hta.append htb
      rwa [← List.drop_drop, List.take_append_drop] at this
    · rcases List.mem_append.1 hu with hu | hu
      · exact hoa u hu
      · exact hob u hu
theorem q15 {fs : Array Field} {l : List (Nat × (List T → Prop))} (ht : P.underlying t = some (.struct fs)) (hc : P.cellsOf t = qCe l) (hf : qH9 P 0 fs.toList l) : Rd P t (q7i l) := by
  intro H enc w held fuel cs x h
  obtain ⟨xs, m, rfl, rfl, hcl, hn, hat⟩ := DataW.trod_struct ht h
  have := qAl (enc := enc) (w := w) (held := held) (m := m) (cs := cs) hf (fun f hf' => by
    obtain ⟨i, hi, rfl⟩ := List.getElem_of_mem hf'
    have := hat i fs.toList[i] (by simp at hi; simp [hi])
    rw [List.getElem?_eq_getElem (by simp at hi; omega)] at this
    exact ⟨_, this⟩) (by omega)
  simpa using this
theorem qCf {H : Type} {enc : TypeId × Value → H} {w : World} {held : Bool} {m s : Nat} {S : List T → Prop} (he : Rd P e S) (hs : P.cellsOf e = s) : ∀ (n : Nat) (cs : List Value), (∀ i, i < n → ∃ x, DataW.trod enc P w 0 (fun _ => true) held m e ((cs.drop (i * s)).take s) = some x) → cs.length = n * s →
    ∃ ts, q7i (List.replicate n (s, S)) ts ∧ Gq w (Old w) ts cs ∧ ∀ u ∈ ts, u.one = true
  | 0, cs, _, hl => ⟨[], rfl, by have h0 : cs = [] := List.eq_nil_of_length_eq_zero (by simpa using hl); rw [h0]; exact Gq.nil w _, by simp⟩
  | n + 1, cs, hx, hl => by
    obtain ⟨x, hx0⟩ := hx 0 (by omega)
    simp only [Nat.zero_mul, List.drop_zero] at hx0
    obtain ⟨a, ha, hta, hoa⟩ := he H enc w held m _ _ hx0
    have hl' : cs.length = n * s + s := by rw [hl, Nat.add_mul, Nat.one_mul]
    obtain ⟨b, hb, htb, hob⟩ := qCf he hs n (cs.drop s) (fun i hi => by
      obtain ⟨x, hx1⟩ := hx (i + 1) (by omega)
      rw [Nat.add_mul, Nat.one_mul, Nat.add_comm (i * s)] at hx1
      exact ⟨x, by rw [List.drop_drop]; exact hx1⟩) (by simp; omega)
    refine ⟨a ++ b, ⟨a, b, rfl, ha, hb⟩, ?_, fun u hu => ?_⟩
    · have := hta.append htb
      rwa [List.take_append_drop] at this
    · rcases List.mem_append.1 hu with hu | hu
      · exact hoa u hu
      · exact hob u hu
theorem q97 {n s : Nat} {S : List T → Prop} (ht : P.underlying t = some (.array n e)) (hs : P.cellsOf e = s) (hc : P.cellsOf t = n * s) (he : Rd P e S) : Rd P t (q7i (List.replicate n (s, S))) := by
  intro H enc w held fuel cs x h
  obtain ⟨xs, m, rfl, rfl, hcl, hn, hat⟩ := DataW.trod_array ht h
  refine qCf (enc := enc) (held := held) (m := m) he hs n cs (fun i hi => ?_) (by omega)
  have := hat i hi
  rw [hs, List.getElem?_eq_getElem (by omega)] at this
  exact ⟨_, this⟩
theorem qKZ {w : World} {X : Nat → Prop} {ts : List T} {cs : Array Value} (h : Gq w X ts cs.toList) (ho : ∀ u ∈ ts, u.one = true) : TR w X (.agg ts) (.agg cs) := by
  have : cs = cs.toList.toArray := by simp
  rw [this]
  exact .agg ts cs.toList h.1 (fun k u hk => ho u (List.mem_of_getElem? hk)) h.2
theorem qEB {H : Type} {enc : TypeId × Value → H} {w : World} {base : Nat} {sp : Nat → Bool} {held : Bool} {fuel : Nat} {n : Nat} {q : TypeId} {k : IntKind} {cs : List Value} {l : List (Int × Int)} {p : List MemPlace}
    (ht : P.underlying t = some (.array n e)) (he : P.underlying e = some (.array 2 q)) (hq : P.underlying q = some (.int k)) (hcq : P.cellsOf q = 1) (hce : P.cellsOf e = 2) (hct : P.cellsOf t = n * 2)
    (h : DataW.trod enc P w base sp held fuel t cs = some (.agg (l.map fun x => .agg [.lit (.int k x.1), .lit (.int k x.2)]), p)) : cs = l.flatMap fun x => [.int k x.1, .int k x.2] := by
  obtain ⟨xs, m, rfl, hx, hcl, hn, hat⟩ := DataW.trod_array ht h
  simp only [Prod.mk.injEq, DataW.agg.injEq] at hx
  have hxs := hx.1
  have hl : l.length = n := by have := congrArg List.length hxs; simp at this; omega
  have hi : ∀ i (h : i < l.length), (cs.drop (i * 2)).take 2 = [.int k l[i].1, .int k l[i].2] := fun i hi => by
    have h1 := hat i (by omega)
    rw [hce, List.getElem?_eq_getElem (by omega)] at h1
    have h2 : xs[i].1 = .agg [.lit (.int k l[i].1), .lit (.int k l[i].2)] := by
      have := congrArg (fun z => z[i]?) hxs
      simp only [List.getElem?_map, List.getElem?_eq_getElem hi, List.getElem?_eq_getElem (show i < xs.length by omega), Option.map_some, Option.some.injEq] at this
      exact this.symm
    have h3 : xs[i] = (.agg [.lit (.int k l[i].1), .lit (.int k l[i].2)], xs[i].2) := by rw [← h2]
    rw [h3] at h1
    exact Lib.cells_of_tab (zs := [l[i].1, l[i].2]) he hq hcq hce h1
  have hcl' : cs.length = l.length * 2 := by omega
  clear h hat hx hxs hcl hn hct ht hl
  induction l generalizing cs with
  | nil => exact List.eq_nil_of_length_eq_zero (by simpa using hcl')
  | cons x l ih =>
    have h0 := hi 0 (by simp)
    simp only [Nat.zero_mul, List.drop_zero, List.getElem_cons_zero] at h0
    have hr := ih (cs := cs.drop 2) (fun i h => by
      have := hi (i + 1) (by simpa using h)
      rw [Nat.add_mul, Nat.one_mul, Nat.add_comm (i * 2)] at this
      simpa [List.drop_drop] using this) (by simp at hcl' ⊢; omega)
    rw [List.flatMap_cons, ← h0, ← hr, List.take_append_drop]
theorem q4j {H : Type} {enc : TypeId × Value → H} {W W' : World} (hl : laidOutB P = true) (hb : Below W.heap.size W W') : ∀ {ts : List TypeId} {vs : List Value} {ds : List (DataW H)} {p : List MemPlace}, (∀ t ∈ ts, P.readableRec t = true ∧ t < P.types.size) → DataW.TrodAll enc P W 0 (fun _ => true) true ts vs ds p → (∀ x ∈ p, x.block < W.heap.size) → DataW.TrodAll enc P W' 0 (fun b => decide (b < W.heap.size)) true ts vs ds p
  | [], [], [], _, _, h, _ => h
  | [], [], _ :: _, _, _, h, _ => h.elim
  | [], _ :: _, _, _, _, h, _ => by cases h
  | _ :: _, [], _, _, _, h, _ => by cases h
  | _ :: _, _ :: _, [], _, _, h, _ => by cases h
  | t :: ts, v :: vs, d :: ds, _, hr, h, hlt => by
    obtain ⟨p1, q1, h1, h2, rfl⟩ := h
    have hr0 := hr t List.mem_cons_self
    exact ⟨p1, q1, Below.trod hl hr0.1 hr0.2 h1 hb (fun x hx => hlt x (List.mem_append_left _ hx)), q4j hl hb (fun t' ht => hr t' (List.mem_cons_of_mem _ ht)) h2 (fun x hx => hlt x (List.mem_append_right _ hx)), rfl⟩
theorem qMJ {H : Type} {enc : TypeId × Value → H} {f : Func} {s : ChangeSpec} {W W' : World} {args : Array Value} {ds gs : List (DataW H)} {before : List MemPlace} {tb : TypeId}
    (hl : laidOutB P = true) (hr : ∀ t ∈ f.params.toList, P.readableRec t = true ∧ t < P.types.size) (hv : s.vars = []) (hres : f.resultTypes = #[tb]) (htb : P.underlying tb = some .bool)
    (hW : DataW.Whole enc P f.params.toList s.vars false W args.toList ds gs before) (hfn : (s.fn H (ds ++ gs)).results = [.lit (.bool true)]) (hfa : (s.fn H (ds ++ gs)).args = ds) (hfv : (s.fn H (ds ++ gs)).vars = []) (hb : Below W.heap.size W W') :
    s.post enc P f false true false false W args (.bool true) W' := by
  have hW' := hW
  obtain ⟨p, q, hA, hV, rfl, _, _⟩ := hW
  have hlt : ∀ x ∈ p ++ q, x.block < W.heap.size := fun x hx => by simpa using hW'.lt x hx
  have hargs := q4j hl hb hr hA (fun x hx => hlt x (List.mem_append_left _ hx))
  rw [hv] at hV
  obtain ⟨rfl, rfl⟩ := ChangeShapes.trodVars_none hV
  refine ⟨ds, [], p ++ [], [], p, [], hW', ?_, ?_, ?_, hb.frame _, fun h => by cases h⟩
  · rw [hfn, hres]
    exact ChangeShapes.trodAll_mk1 (RowKit.shut_bool htb _)
  · rw [hfa]; exact hargs
  · rw [hv, hfv]; rfl
theorem qLb {Γ : Tables} {f : FuncId} {N n : Nat} {ic : IC} {rvs : List RV} {args : List T} {W : World} {vs : List Value} (hc : B1 P f ic N n rvs = true) (h : Ai P Γ f args (.v (.bool true))) (hg : Gl Γ W (Old W)) (ha : Gq W (Old W) args vs) :
    Calls P f vs.toArray W fun e W' => e = .returned (.bool true) ∧ Below W.heap.size W W' := by
  rcases h W (Old W) vs hg (fun b hb => hb) ha with ⟨_, h2⟩ | ⟨v, h1, _⟩
  · refine h2.mono fun e W' ⟨v, he, hb, hr⟩ => ?_
    cases hr
    exact ⟨he, hb⟩
  · rw [q64 hc] at h1
    cases h1
end Go.Lg
