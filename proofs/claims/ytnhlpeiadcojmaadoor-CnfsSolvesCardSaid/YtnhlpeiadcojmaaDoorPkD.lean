/- THE LOGIC, part 28: from a function's code to its contract. Conditions: none. -/
import Derived.Test.YtnhlpeiadcojmaaDoorPkC
import Derived.Defers
set_option linter.unusedSimpArgs false
set_option linter.unusedVariables false
namespace Go.Lg
open Go
inductive RV where
 | tmp (t : Nat)
 | cell (t n : Nat) (g : Bool)
def q5o (P : Program) : RV → ResultVar → Bool
 | .tmp t, .tmp u => t == u
 | .cell t n g, .cell u ty => t == u && Ha P ty == some n && Sr P ty == some g && (g || n == 1)
 | _, _ => false
def Bt (P : Program) : List RV → List ResultVar → Bool
 | [], [] => true
 | a :: as, b :: bs => q5o P a b && Bt P as bs
 | _, _ => false
def Zz (s : St) : RV → Option (Prop × AV)
 | .tmp t => (A2 s.env t).map fun a => (True, a)
 | .cell t n g => match A2 s.env t with
  | some (.lp id _ k) => match A2 s.hp id with
   | some (.bx cs) => some (k + n ≤ cs.length, I8 g ((cs.drop k).take n))
   | _ => none
  | _ => none
def Z5 (s : St) (rv : RV) : Option (Prop × T) := (Zz s rv).bind fun q => (An s.hp 4 q.2).map fun t => (q.1, t)
def Pj (s : St) : List RV → Option (Prop × T)
 | [] => some (True, .tup [])
 | [a] => Z5 s a
 | [a, b] => (Z5 s a).bind fun p => (Z5 s b).map fun q => (p.1 ∧ q.1, .tup [p.2, q.2])
 | [a, b, c] => (Z5 s a).bind fun p => (Z5 s b).bind fun q => (Z5 s c).map fun r => (p.1 ∧ q.1 ∧ r.1, .tup [p.2, q.2, r.2])
 | [a, b, c, d] => (Z5 s a).bind fun p => (Z5 s b).bind fun q => (Z5 s c).bind fun r => (Z5 s d).map fun u => (p.1 ∧ q.1 ∧ r.1 ∧ u.1, .tup [p.2, q.2, r.2, u.2])
 | _ => none
def Ax (P : Program) (f : FuncId) (ic : IC) (N n : Nat) (rvs : List RV) : Bool := match P.funcs[f]? with
 | some fn => (match fn.body with | some c => K5 P N ic c | none => false) && !(fn.name == "runtime.NumGoroutine") && fn.ntmps == N && decide (N ≤ 1000000) && decide (n ≤ N) && Bt P rvs fn.results.toList && P.follows .mixedOrders
 | none => false
def params : Nat → List T → List (Nat × AV)
 | _, [] => []
 | k, t :: ts => (k, .t t) :: params (k + 1) ts
theorem q5p {ts : List T} : ∀ {k i : Nat} {a : AV}, A2 (params k ts) i = some a → k ≤ i ∧ ∃ t, ts[i - k]? = some t ∧ a = .t t := by
 induction ts with
 | nil => intro k i a h; simp [params, A2] at h
 | cons t ts ih =>
  intro k i a h
  simp only [params, A2] at h
  split at h
  ·rename_i e; subst e; simp only [Option.some.injEq] at h; subst h; exact ⟨Nat.le_refl _, t, by simp, rfl⟩
  ·obtain ⟨h1, u, h2, h3⟩ := ih h
   refine ⟨by omega, u, ?_, h3⟩
   have : i - k = i - (k + 1) + 1 := by omega
   rw [this]; simpa using h2
def qFU (rvs : List RV) (res : T) : AX → St → Prop
 | .exit _, _ => False
 | _, s => ∃ c, Pj s rvs = some (c, res) ∧ c
section
variable {P : Program} {Γ : Tables} {w0 : World} {B : Nat} {κ : B9} {X0 X : Nat → Prop} {μ : B9} {st : St} {N : Nat} {a : Act} {w : World} {tm : Array Value}
def q4J (tm : Array Value) : ResultVar → Go.Sem Value
 | .tmp t => pure (tm.getD t undef)
 | .cell a t => do loadVar t (← asAddr (tm.getD a undef))
theorem Uo (h : Av w0 B κ X μ st tm w) {rv : RV} {r : ResultVar} (hc : q5o P rv r = true) {c : Prop} {x : AV} (hr : Zz st rv = some (c, x)) (hcc : c) : ∃ v, (q4J tm r).run P w = .ok v w ∧ AR w X μ st.sh x v := by
 cases rv with
 | tmp t =>
  cases r <;> simp [q5o] at hc
  subst hc
  simp only [Zz, Option.map_eq_some_iff, Prod.mk.injEq] at hr
  obtain ⟨b, hb, _, rfl⟩ := hr
  exact ⟨_, rfl, h.env t b hb⟩
 | cell t n g =>
  cases r <;> simp [q5o] at hc
  rename_i u ty
  obtain ⟨⟨⟨rfl, hz⟩, ha⟩, hn⟩ := hc
  have hn : (g || n == 1) = true := by simpa using hn
  simp only [Zz] at hr
  split at hr
  ·rename_i id i k hl0
   split at hr
   ·rename_i cs hl
    simp only [Option.some.injEq, Prod.mk.injEq] at hr
    obtain ⟨rfl, rfl⟩ := hr
    obtain ⟨gb, m, hm, hp⟩ := (h.env t _ hl0).lp_inv
    rcases hp with ⟨s, q, hs, _⟩ | ⟨hs, rfl, he⟩
    ·rw [Bm hl] at hs; cases hs
    obtain ⟨h1, g', arr, ty', hm', hheap, hsz, hr⟩ := h.reg id _ hl
    rw [hm] at hm'; cases hm'
    have hr : Fo w X μ st.sh cs arr.toList := ⟨by simp [hsz], fun k a x h2 h3 => hr k a x h2 (by simpa using h3)⟩
    have h1 : Ao cs = true := List.all_eq_true.2 fun t ht => by obtain ⟨j, hj, rfl⟩ := List.getElem_of_mem ht; exact h1 j _ (by simp [hj])
    have hlen : ((arr.toList.drop k).take n).length = n := by simp; omega
    refine ⟨if g then .agg ((arr.toList.drop k).take n).toArray else ((arr.toList.drop k).take n).headD undef, ?_, Vy ((hr.drop k).take n) (Su h1 k n) (by rw [hlen]; exact hn)⟩
    have hrun := Ua (P := P) (w := w) hz ha hn (b := gb) (off := k) hlen (fun j x hj => by
     rw [List.getElem?_take] at hj
     split at hj
     ·rw [List.getElem?_drop] at hj
      rw [cell_of_row w gb _ arr ty' (0, 0) hheap]; simpa using hj
     ·cases hj)
    have e : q4J tm (.cell t ty) = (Instr.loadAt ty (.pointer (some ⟨gb, k, none⟩))) := by
     simp only [q4J, he, asAddr, Instr.loadAt, Instr.sureAddr]
    rw [e]; exact hrun
   ·cases hr
  ·cases hr
theorem Nq (h : Av w0 B κ X μ st tm w) {rv : RV} {r : ResultVar} (hc : q5o P rv r = true) {c : Prop} {t : T} (hr : Z5 st rv = some (c, t)) (hcc : c) : ∃ v, (q4J tm r).run P w = .ok v w ∧ TR w (fun b => X b ∨ q4r st μ b) t v := by
 simp only [Z5, Option.bind_eq_some_iff, Option.map_eq_some_iff, Prod.mk.injEq] at hr
 obtain ⟨⟨c', x⟩, hq, t', ht, rfl, rfl⟩ := hr
 obtain ⟨v, h1, h2⟩ := Uo h hc hq hcc
 exact ⟨v, h1, q2b h 4 h2 ht⟩
theorem q5q (h : Av w0 B κ X μ st tm w) {fn : Func} {rvs : List RV} (hc : Bt P rvs fn.results.toList = true) {c : Prop} {res : T} (hr : Pj st rvs = some (c, res)) (hcc : c) :
  ∃ v, (results fn tm).run P w = .ok v w ∧ TR w (fun b => X b ∨ q4r st μ b) res v := by
 have hres : results fn tm = (do let vs ← fn.results.mapM (q4J tm); pure (if h : vs.size = 1 then vs[0] else .tuple vs)) := rfl
 have hfr : fn.results = fn.results.toList.toArray := by simp
 generalize hl : fn.results.toList = l at hc hfr
 match rvs, l, hc with
 | [], [], _ =>
  simp only [Pj, Option.some.injEq, Prod.mk.injEq] at hr
  obtain ⟨rfl, rfl⟩ := hr
  exact ⟨.tuple #[], by rw [hres, hfr]; simp, TR.mk_tup (E7.nil _ _)⟩
 | [a], [x], hc =>
  simp only [Bt, Bool.and_eq_true] at hc
  obtain ⟨v, h1, h2⟩ := Nq h hc.1 hr hcc
  exact ⟨v, by rw [hres, hfr]; simp [h1], h2⟩
 | [a, b], [x, y], hc =>
  simp only [Bt, Bool.and_eq_true] at hc
  simp only [Pj, Option.bind_eq_some_iff, Option.map_eq_some_iff, Prod.mk.injEq] at hr
  obtain ⟨p, hp, q, hq, rfl, rfl⟩ := hr
  obtain ⟨v, h1, h2⟩ := Nq h hc.1 hp hcc.1
  obtain ⟨u, h3, h4⟩ := Nq h hc.2.1 hq hcc.2
  exact ⟨.tuple #[v, u], by rw [hres, hfr]; simp [h1, h3], TR.mk_tup (E7.cons h2 (E7.cons h4 (E7.nil _ _)))⟩
 | [a, b, d], [x, y, z], hc =>
  simp only [Bt, Bool.and_eq_true] at hc
  simp only [Pj, Option.bind_eq_some_iff, Option.map_eq_some_iff, Prod.mk.injEq] at hr
  obtain ⟨p, hp, q, hq, r, hr, rfl, rfl⟩ := hr
  obtain ⟨v, h1, h2⟩ := Nq h hc.1 hp hcc.1
  obtain ⟨u, h3, h4⟩ := Nq h hc.2.1 hq hcc.2.1
  obtain ⟨z, h5, h6⟩ := Nq h hc.2.2.1 hr hcc.2.2
  exact ⟨.tuple #[v, u, z], by rw [hres, hfr]; simp [h1, h3, h5], TR.mk_tup (E7.cons h2 (E7.cons h4 (E7.cons h6 (E7.nil _ _))))⟩
 | [a, b, d, e], [x, y, z, u], hc =>
  simp only [Bt, Bool.and_eq_true] at hc
  simp only [Pj, Option.bind_eq_some_iff, Option.map_eq_some_iff, Prod.mk.injEq] at hr
  obtain ⟨p, hp, q, hq, r, hr, u, hu, rfl, rfl⟩ := hr
  obtain ⟨v, h1, h2⟩ := Nq h hc.1 hp hcc.1
  obtain ⟨u, h3, h4⟩ := Nq h hc.2.1 hq hcc.2.1
  obtain ⟨z, h5, h6⟩ := Nq h hc.2.2.1 hr hcc.2.2.1
  obtain ⟨y, h7, h8⟩ := Nq h hc.2.2.2.1 hu hcc.2.2.2
  exact ⟨.tuple #[v, u, z, y], by rw [hres, hfr]; simp [h1, h3, h5, h7], TR.mk_tup (E7.cons h2 (E7.cons h4 (E7.cons h6 (E7.cons h8 (E7.nil _ _)))))⟩
 | _ :: _ :: _ :: _ :: _ :: _, _, _ => simp [Pj] at hr
 | [_, _, _, _], [_], hc => simp [Bt] at hc
 | [_, _, _, _], [_, _], hc => simp [Bt] at hc
 | [_, _, _, _], [_, _, _], hc => simp [Bt] at hc
 | [_, _, _, _], _ :: _ :: _ :: _ :: _ :: _, hc => simp [Bt] at hc
 | [], _ :: _, hc => simp [Bt] at hc
 | _ :: _, [], hc => simp [Bt] at hc
 | [_], _ :: _ :: _, hc => simp [Bt] at hc
 | [_, _], [_], hc => simp [Bt] at hc
 | [_, _], _ :: _ :: _ :: _, hc => simp [Bt] at hc
 | [_, _, _], [_], hc => simp [Bt] at hc
 | [_, _, _], [_, _], hc => simp [Bt] at hc
 | [_, _, _], _ :: _ :: _ :: _ :: _, hc => simp [Bt] at hc
theorem Wi {f : FuncId} {ic : IC} {n : Nat} {rvs : List RV} (hc : Ax P f ic N n rvs = true) (vs : Array Value) : (callFunc f vs).run P w = .ok (.enter f vs) w := by
 unfold Ax at hc
 split at hc
 ·rename_i fn hf
  simp only [Bool.and_eq_true, Bool.not_eq_true'] at hc
  obtain ⟨⟨⟨⟨⟨⟨h1, h2⟩, h3⟩, h4⟩, h5⟩, h6⟩, h7⟩ := hc
  cases hb : fn.body with
  | none => rw [hb] at h1; cases h1
  | some c =>
   have h2' : ¬ fn.name = "runtime.NumGoroutine" := by simpa using h2
   simp [callFunc, hf, h2', hb]
 ·cases hc
theorem Inv.start {ts : List T} {vs : List Value} (hg : Gl Γ w X) (hx : ∀ b, X b → b < w.heap.size) (hts : E7 w X ts vs) (hn : vs.length ≤ N) :
  Inv Γ w w.heap.size (fun _ => none) X N ⟨params 0 ts, []⟩ { tmps := vs.toArray ++ Array.replicate (N - vs.toArray.size) undef, defers := [] } w := by
 refine ⟨X, fun _ => none, ⟨?_, fun id r h => by simp [A2] at h, fun _ _ _ _ _ _ _ h => (by cases h), fun _ _ _ _ h => (by cases h), fun _ _ _ => rfl, fun _ _ h => (by cases h), hx, rfl, rfl, rfl, Nat.le_refl _, fun _ _ _ => rfl⟩, hg, fun _ h => h, fun _ h => .inl h, ?_, rfl⟩
 ·intro t a ht
  obtain ⟨_, u, hu, rfl⟩ := q5p ht
  obtain ⟨x, h1, h2⟩ := hts.get hu
  simp only [Nat.sub_zero] at h1
  have hlt : t < vs.length := (List.getElem?_eq_some_iff.1 h1).1
  have : (vs.toArray ++ Array.replicate (N - vs.toArray.size) undef).getD t undef = x := by
   rw [Array.getD_eq_getD_getElem?, Array.getElem?_append_left (by simpa using hlt)]
   simp [h1]
  rw [this]; exact .t _ _ h2
 ·simp; omega
theorem q2q {f : FuncId} {ic : IC} {n : Nat} {rvs : List RV} {args : List T} {res : T} (hc : Ax P f ic N n rvs = true) (hn : args.length = n) (h : awp P Γ ic (qFU rvs res) ⟨params 0 args, []⟩) : Aw P Γ f args res := by
 intro w X vs hg hx hts
 refine .inl ⟨Wi hc _, ?_⟩
 unfold Ax at hc
 split at hc
 case h_2 => cases hc
 rename_i fn hf
 simp only [Bool.and_eq_true, Bool.not_eq_true', decide_eq_true_eq, beq_iff_eq] at hc
 obtain ⟨⟨⟨⟨⟨⟨h1, h2⟩, h3⟩, h4⟩, h5⟩, h6⟩, h7⟩ := hc
 cases hb : fn.body with
 | none => rw [hb] at h1; cases h1
 | some c =>
  rw [hb] at h1
  subst h3
  refine calls_of_wp hf hb ?_
  have hI := Inv.start (N := fn.ntmps) hg hx hts (by rw [← hts.1, hn]; exact h5)
  refine wp_mono (Na h4 h7 h1 hI h) ?_
  rintro e a w' ⟨x, s, rfl, ⟨X', μ, hsim, hg', h0, hbd, hsz, hds⟩, hq⟩
  have fin : ∀ c, Pj s rvs = some (c, res) → c → a.defers = [] ∧ ∃ v, (results fn a.tmps).run P w' = .ok v w' ∧ ∃ u, Ending.returned v = .returned u ∧ RowKit.Below w.heap.size w w' ∧ TR w' (fun b => X b ∨ (w.heap.size ≤ b ∧ b < w'.heap.size)) res u := by
   intro c hr hcc
   obtain ⟨v, h8, h9⟩ := q5q hsim h6 hr hcc
   refine ⟨hds, v, h8, v, rfl, ⟨hsim.os, hsim.tape, hsim.output, hsim.size, fun k hk => hsim.fr k hk (fun id n h => by cases h)⟩, h9.mono (fun _ _ => rfl) fun b hb => ?_⟩
   rcases hb with hb | ⟨id, n, hi, hm⟩
   ·rcases hbd b hb with h | h | ⟨_, _, h⟩
    ·exact .inl h
    ·exact .inr ⟨h, hsim.xlt b hb⟩
    ·cases h
   ·obtain ⟨_, h10, h11⟩ := hsim.loc id b n hi hm
    refine .inr ⟨?_, h10⟩
    rcases Nat.lt_or_ge b w.heap.size with h | h
    ·obtain ⟨_, _, h⟩ := h11 h; cases h
    ·exact h
  cases x with
  | normal => obtain ⟨c, hr, hcc⟩ := hq; exact fin c hr hcc
  | ret => obtain ⟨c, hr, hcc⟩ := hq; exact fin c hr hcc
  | exit i => exact hq.elim
def G3 : AV → Prop
 | .t x => D2 x = true
 | .ag cs => ∀ c ∈ cs, match c with
  | .t x => D2 x = true
  | .fn _ cs => cs = []
  | _ => True
 | .fn _ cs => cs = []
 | .tu cs => ∀ c ∈ cs, match c with
  | .t x => D2 x = true
  | .fn _ cs => cs = []
  | .ag ds => ∀ d ∈ ds, match d with
   | .t x => D2 x = true
   | .fn _ cs => cs = []
   | _ => True
  | _ => True
 | _ => True
def Nr : Ak → Prop
 | .sl _ _ es => ∀ e ∈ es, ∀ t ∈ e, D2 t = true
 | .bx cs => ∀ c ∈ cs, G3 c
 | .rs _ _ es => ∀ e ∈ es, ∀ a ∈ e, G3 a
 | .mr es => ∀ e ∈ es, G3 e.2
 | .mp es => ∀ e ∈ es, D2 e.2 = true
 | .it _ _ => True
def Hv {α : Type} (p : α → Prop) : List (Nat × α) → Prop
 | [] => True
 | x :: l => p x.2 ∧ Hv p l
theorem Z6 {α : Type} {p : α → Prop} : ∀ {l : List (Nat × α)} {t : Nat} {a : α}, Hv p l → A2 l t = some a → p a
 | [], _, _, _, h => by simp [A2] at h
 | (k, v) :: l, t, a, h, hl => by
  simp only [A2] at hl
  split at hl
  ·simp only [Option.some.injEq] at hl; subst hl; exact h.1
  ·exact Z6 h.2 hl
def E6 (s : St) : Prop := Hv G3 s.env ∧ Hv Nr s.hp
theorem q00 {sh : Nat → Option Sh} {a : AV} {x : Value} {Y : Nat → Prop} (h : AR w X μ sh a x) (hf : G3 a) : AR w Y μ sh a x := by
 have key : ∀ {c : AV} {y : Value}, AR w X μ sh c y → Be c = true → (match c with | .t x => D2 x = true | .fn _ cs => cs = [] | _ => True) → AR w Y μ sh c y := by
  intro c y h hna hf
  cases h with
  | t y v hy => exact .t _ _ (q2a hy hf)
  | fn f cs xs hlen hrel => simp only at hf; subst hf; exact .fn f [] xs hlen (fun k a x h => by simp at h)
  | ag => simp [Be] at hna
  | tu => simp [Be] at hna
  | lsnil i s n hs hm oa cap hq => exact .lsnil i s n hs hm oa cap hq
  | ls i off len s n g m c cap hs hm hle hlc hcm hfit hfull hq ad had => exact .ls i off len s n g m c cap hs hm hle hlc hcm hfit hfull hq ad had
  | lpsl i j k s n g m hs hm => exact .lpsl i j k s n g m hs hm
  | lpbx i k g m hs hm => exact .lpbx i k g m hs hm
  | lm i g m hs hm => exact .lm i g m hs hm
  | lb i g m hs hm hle => exact .lb i g m hs hm hle
  | li i g m hs hm => exact .li i g m hs hm
  | dead v h => exact .dead _ h
  | un => exact .un
 by_cases hg : Be a = true
 ·refine key h hg ?_
  cases a <;> first | exact hf | exact True.intro | simp [Be] at hg
 ·cases a with
  | ag cs =>
   obtain ⟨xs, rfl, h1, hr⟩ := h.ag_inv
   exact AR.mk_ag h1 ⟨hr.1, fun k c y hc hy => key (hr.2 k c y hc hy) (Sj (J1 h1 hc)) (hf c (List.mem_of_getElem? hc))⟩
  | tu cs =>
   obtain ⟨xs, rfl, h1, hr⟩ := h.tu_inv
   refine AR.mk_tu h1 ⟨hr.1, fun k c y hc hy => ?_⟩
   have hcf := hf c (List.mem_of_getElem? hc)
   by_cases hn : Be c = true
   ·refine key (hr.2 k c y hc hy) hn ?_
    cases c <;> first | exact hcf | exact True.intro | simp [Be] at hn
   ·cases c with
    | ag ds =>
     obtain ⟨ys, rfl, h2, hr2⟩ := (hr.2 k _ y hc hy).ag_inv
     exact AR.mk_ag h2 ⟨hr2.1, fun k c y hc hy => key (hr2.2 k c y hc hy) (Sj (J1 h2 hc)) (hcf c (List.mem_of_getElem? hc))⟩
    | tu ds => cases h1 k _ hc
    | _ => exact absurd rfl hn
  | _ => exact absurd rfl hg
theorem Av.flat (h : Av w0 B κ X μ st tm w) (hf : E6 st) : Av w0 B κ (fun _ => False) μ st tm w := by
 refine ⟨fun t a ht => q00 (h.env t a ht) (Z6 hf.1 ht), ?_, h.inj, fun id g n hi hm => ⟨fun h => h, (h.loc id g n hi hm).2⟩, h.kap, h.kbig, fun _ h => h.elim, h.os, h.tape, h.output, h.size, h.fr⟩
 intro id r hr
 have hfr := Z6 hf.2 hr
 have := h.reg id r hr
 cases r with
 | sl ty s es =>
  refine ⟨this.1, this.2.imp (fun h => h) fun ⟨g, arr, hm, hg, hle, hr⟩ => ⟨g, arr, hm, hg, hle, fun i k e t x h1 h2 h3 => q2a (hr i k e t x h1 h2 h3) (hfr e (List.mem_of_getElem? h1) t (List.mem_of_getElem? h2))⟩⟩
 | it s pos => exact this
 | mr es =>
  obtain ⟨g, n, clock, ms, hm, hg, hbo, hle, hr⟩ := this
  exact ⟨g, n, clock, ms, hm, hg, hbo, hle, fun i e m h1 h2 => ⟨(hr i e m h1 h2).1, q00 (hr i e m h1 h2).2 (hfr e (List.mem_of_getElem? h1))⟩⟩
 | mp es =>
  obtain ⟨g, n, clock, ms, hm, hg, hle, hr⟩ := this
  exact ⟨g, n, clock, ms, hm, hg, hle, fun i e m h1 h2 => ⟨(hr i e m h1 h2).1, q2a (hr i e m h1 h2).2 (hfr e (List.mem_of_getElem? h1))⟩⟩
 | rs ty s es =>
  exact ⟨this.1, this.2.imp (fun h => h) fun ⟨g, arr, hm, hg, hle, hr⟩ => ⟨g, arr, hm, hg, hle, fun i k e a x h1 h2 h3 => q00 (hr i k e a x h1 h2 h3) (hfr e (List.mem_of_getElem? h1) a (List.mem_of_getElem? h2))⟩⟩
 | bx cs =>
  obtain ⟨h1, g, arr, ty, hm, hg, hle, hr⟩ := this
  exact ⟨h1, g, arr, ty, hm, hg, hle, fun k a x ha hx => q00 (hr k a x ha hx) (hfr a (List.mem_of_getElem? ha))⟩
def qC7 (rvs : List RV) (res : T) : AX → St → Prop
 | .exit _, _ => False
 | _, s => ∃ c, Pj s rvs = some (c, res) ∧ c ∧ E6 s
theorem q1d {f : FuncId} {ic : IC} {n : Nat} {rvs : List RV} {args : List T} {res : T} (hc : Ax P f ic N n rvs = true) (hn : args.length = n) (h : awp P Γ ic (qC7 rvs res) ⟨params 0 args, []⟩) : A5 P Γ f args res := by
 intro w X vs hg hx hts
 refine .inl ⟨Wi hc _, ?_⟩
 unfold Ax at hc
 split at hc
 case h_2 => cases hc
 rename_i fn hf
 simp only [Bool.and_eq_true, Bool.not_eq_true', decide_eq_true_eq, beq_iff_eq] at hc
 obtain ⟨⟨⟨⟨⟨⟨h1, h2⟩, h3⟩, h4⟩, h5⟩, h6⟩, h7⟩ := hc
 cases hb : fn.body with
 | none => rw [hb] at h1; cases h1
 | some c =>
  rw [hb] at h1
  subst h3
  refine calls_of_wp hf hb ?_
  have hI := Inv.start (N := fn.ntmps) hg hx hts (by rw [← hts.1, hn]; exact h5)
  refine wp_mono (Na h4 h7 h1 hI h) ?_
  rintro e a w' ⟨x, s, rfl, ⟨X', μ, hsim, hg', h0, hbd, hsz, hds⟩, hq⟩
  have fin : ∀ c, Pj s rvs = some (c, res) → c → E6 s → a.defers = [] ∧ ∃ v, (results fn a.tmps).run P w' = .ok v w' ∧ ∃ u, Ending.returned v = .returned u ∧ RowKit.Below w.heap.size w w' ∧ TR w' (fun b => w.heap.size ≤ b ∧ b < w'.heap.size) res u := by
   intro c hr hcc hfl
   obtain ⟨v, h8, h9⟩ := q5q (hsim.flat hfl) h6 hr hcc
   refine ⟨hds, v, h8, v, rfl, ⟨hsim.os, hsim.tape, hsim.output, hsim.size, fun k hk => hsim.fr k hk (fun id n h => by cases h)⟩, h9.mono (fun _ _ => rfl) fun b hb => ?_⟩
   rcases hb with hb | ⟨id, n, hi, hm⟩
   ·exact hb.elim
   ·obtain ⟨_, h10, h11⟩ := hsim.loc id b n hi hm
    refine ⟨?_, h10⟩
    rcases Nat.lt_or_ge b w.heap.size with h | h
    ·obtain ⟨_, _, h⟩ := h11 h; cases h
    ·exact h
  cases x with
  | normal => obtain ⟨c, hr, hcc, hfl⟩ := hq; exact fin c hr hcc hfl
  | ret => obtain ⟨c, hr, hcc, hfl⟩ := hq; exact fin c hr hcc hfl
  | exit i => exact hq.elim
def Xy : Nat → List AV → List (Nat × AV)
 | _, [] => []
 | k, a :: as => (k, a) :: Xy (k + 1) as
theorem q0s {ts : List AV} : ∀ {k i : Nat} {a : AV}, A2 (Xy k ts) i = some a → k ≤ i ∧ ts[i - k]? = some a := by
 induction ts with
 | nil => intro k i a h; simp [Xy, A2] at h
 | cons t ts ih =>
  intro k i a h
  simp only [Xy, A2] at h
  split at h
  ·rename_i e; subst e; simp only [Option.some.injEq] at h; subst h; exact ⟨Nat.le_refl _, by simp⟩
  ·obtain ⟨h1, h2⟩ := ih h
   refine ⟨by omega, ?_⟩
   have : i - k = i - (k + 1) + 1 := by omega
   rw [this]; simpa using h2
def toN (a : AV) : AV := match toT a with
 | some x => .t x
 | none => a
theorem q2r {Y : Nat → Prop} {μ : B9} {sh : Nat → Option Sh} {w : World} {p : AV} {v : Value} (hp : AR w Y μ sh p v) : AR w Y μ sh (toN p) v := by
 unfold toN
 split
 ·rename_i x hx; exact .t _ _ (q2S hp hx)
 ·exact hp
def qBR (p q : AV) : Option AV := match toT p, toT q with
 | some x, some y => some (.t (.tup [x, y]))
 | _, _ => if H7 (toN p) && H7 (toN q) then some (.tu [toN p, toN q]) else none
theorem qBS {Y : Nat → Prop} {μ : B9} {sh : Nat → Option Sh} {w : World} {p q r : AV} {v u : Value} (hp : AR w Y μ sh p v) (hq : AR w Y μ sh q u) (hr : qBR p q = some r) : AR w Y μ sh r (.tuple #[v, u]) := by
 unfold qBR at hr
 split at hr
 ·rename_i x y hx hy
  simp only [Option.some.injEq] at hr; subst hr
  exact .t _ _ (TR.mk_tup (E7.cons (q2S hp hx) (E7.cons (q2S hq hy) (E7.nil _ _))))
 ·split at hr
  ·rename_i h
   simp only [Bool.and_eq_true] at h
   simp only [Option.some.injEq] at hr; subst hr
   refine AR.mk_tu (cs := [toN p, toN q]) (xs := [v, u]) (fun k a ha => ?_) ⟨rfl, fun k a x ha hx => ?_⟩
   ·rcases k with _ | _ | k
    ·simp at ha; subst ha; exact h.1
    ·simp at ha; subst ha; exact h.2
    ·simp at ha
   ·rcases k with _ | _ | k
    ·simp at ha hx; subst ha; subst hx; exact q2r hp
    ·simp at ha hx; subst ha; subst hx; exact q2r hq
    ·simp at ha
  ·cases hr
def tri (p q u : AV) : Option AV := if H7 (toN p) && H7 (toN q) && H7 (toN u) then some (.tu [toN p, toN q, toN u]) else none
theorem qD4 {Y : Nat → Prop} {μ : B9} {sh : Nat → Option Sh} {w : World} {p q u r : AV} {v x y : Value} (hp : AR w Y μ sh p v) (hq : AR w Y μ sh q x) (hu : AR w Y μ sh u y) (hr : tri p q u = some r) : AR w Y μ sh r (.tuple #[v, x, y]) := by
 unfold tri at hr
 split at hr
 ·rename_i h
  simp only [Bool.and_eq_true] at h
  simp only [Option.some.injEq] at hr; subst hr
  refine AR.mk_tu (cs := [toN p, toN q, toN u]) (xs := [v, x, y]) (fun k a ha => ?_) ⟨rfl, fun k a x ha hx => ?_⟩
  ·rcases k with _ | _ | _ | k
   ·simp at ha; subst ha; exact h.1.1
   ·simp at ha; subst ha; exact h.1.2
   ·simp at ha; subst ha; exact h.2
   ·simp at ha
  ·rcases k with _ | _ | _ | k
   ·simp at ha hx; subst ha; subst hx; exact q2r hp
   ·simp at ha hx; subst ha; subst hx; exact q2r hq
   ·simp at ha hx; subst ha; subst hx; exact q2r hu
   ·simp at ha
 ·cases hr
def Up (s : St) : List RV → Option (Prop × AV)
 | [] => some (True, .t (.tup []))
 | [a] => Zz s a
 | [a, b] => (Zz s a).bind fun p => (Zz s b).bind fun q => (qBR p.2 q.2).map fun r => (p.1 ∧ q.1, r)
 | [a, b, c] => (Zz s a).bind fun p => (Zz s b).bind fun q => (Zz s c).bind fun u => (tri p.2 q.2 u.2).map fun r => (p.1 ∧ q.1 ∧ u.1, r)
 | _ => none
def q4K (rvs : List RV) (res : AV) (hp' : List (Nat × Ak)) : AX → St → Prop
 | .exit _, _ => False
 | _, s => ∃ c, Up s rvs = some (c, res) ∧ c ∧ s.hp = hp'
theorem q4w (h : Av w0 B κ X μ st tm w) {fn : Func} {rvs : List RV} (hc : Bt P rvs fn.results.toList = true) {c : Prop} {res : AV} (hr : Up st rvs = some (c, res)) (hcc : c) :
  ∃ v, (results fn tm).run P w = .ok v w ∧ AR w X μ st.sh res v := by
 have hres : results fn tm = (do let vs ← fn.results.mapM (q4J tm); pure (if h : vs.size = 1 then vs[0] else .tuple vs)) := rfl
 have hfr : fn.results = fn.results.toList.toArray := by simp
 generalize hl : fn.results.toList = l at hc hfr
 match rvs, l, hc with
 | [], [], _ =>
  simp only [Up, Option.some.injEq, Prod.mk.injEq] at hr
  obtain ⟨rfl, rfl⟩ := hr
  exact ⟨.tuple #[], by rw [hres, hfr]; simp, .t _ _ (TR.mk_tup (E7.nil _ _))⟩
 | [a], [x], hc =>
  simp only [Bt, Bool.and_eq_true] at hc
  obtain ⟨v, h1, h2⟩ := Uo h hc.1 hr hcc
  exact ⟨v, by rw [hres, hfr]; simp [h1], h2⟩
 | [a, b], [x, y], hc =>
  simp only [Bt, Bool.and_eq_true] at hc
  simp only [Up, Option.bind_eq_some_iff, Option.map_eq_some_iff, Prod.mk.injEq] at hr
  obtain ⟨p, hp, q, hq, r', hr', rfl, rfl⟩ := hr
  obtain ⟨v, h1, h2⟩ := Uo h hc.1 hp hcc.1
  obtain ⟨u, h3, h4⟩ := Uo h hc.2.1 hq hcc.2
  exact ⟨.tuple #[v, u], by rw [hres, hfr]; simp [h1, h3], qBS h2 h4 hr'⟩
 | [a, b, d], [x, y, z], hc =>
  simp only [Bt, Bool.and_eq_true] at hc
  simp only [Up, Option.bind_eq_some_iff, Option.map_eq_some_iff, Prod.mk.injEq] at hr
  obtain ⟨p, hp, q, hq, u, hu, r', hr', rfl, rfl⟩ := hr
  obtain ⟨v1, h1, h2⟩ := Uo h hc.1 hp hcc.1
  obtain ⟨v2, h3, h4⟩ := Uo h hc.2.1 hq hcc.2.1
  obtain ⟨v3, h5, h6⟩ := Uo h hc.2.2.1 hu hcc.2.2
  exact ⟨.tuple #[v1, v2, v3], by rw [hres, hfr]; simp [h1, h3, h5], qD4 h2 h4 h6 hr'⟩
 | _ :: _ :: _ :: _ :: _, _, _ => simp [Up] at hr
 | [_, _, _], [], hc => simp [Bt] at hc
 | [_, _, _], [_], hc => simp [Bt] at hc
 | [_, _, _], [_, _], hc => simp [Bt] at hc
 | [_, _, _], _ :: _ :: _ :: _ :: _, hc => simp [Bt] at hc
 | [], _ :: _, hc => simp [Bt] at hc
 | _ :: _, [], hc => simp [Bt] at hc
 | [_], _ :: _ :: _, hc => simp [Bt] at hc
 | [_, _], [_], hc => simp [Bt] at hc
 | [_, _], _ :: _ :: _ :: _, hc => simp [Bt] at hc
theorem q7r {f : FuncId} {ic : IC} {n : Nat} {rvs : List RV} {args : List AV} {hp hp' : List (Nat × Ak)} {res : AV} (hc : Ax P f ic N n rvs = true) (hn : args.length = n) (h : awp P Γ ic (q4K rvs res hp') ⟨Xy 0 args, hp⟩) : C3 P Γ f hp args res hp' := by
 intro w X κ vs hg hk hs hts
 refine .inl ⟨Wi hc _, ?_⟩
 unfold Ax at hc
 split at hc
 case h_2 => cases hc
 rename_i fn hf
 simp only [Bool.and_eq_true, Bool.not_eq_true', decide_eq_true_eq, beq_iff_eq] at hc
 obtain ⟨⟨⟨⟨⟨⟨h1, h2⟩, h3⟩, h4⟩, h5⟩, h6⟩, h7⟩ := hc
 cases hb : fn.body with
 | none => rw [hb] at h1; cases h1
 | some c =>
  rw [hb] at h1
  subst h3
  refine calls_of_wp hf hb ?_
  have hlen : vs.length ≤ fn.ntmps := by rw [← hts.1, hn]; exact h5
  have hI : Inv Γ w w.heap.size κ X fn.ntmps ⟨Xy 0 args, hp⟩ { tmps := vs.toArray ++ Array.replicate (fn.ntmps - vs.toArray.size) undef, defers := [] } w := by
   refine ⟨X, κ, ⟨?_, hs.reg, hs.inj, hs.loc, hs.kap, hs.kbig, hs.xlt, rfl, rfl, rfl, Nat.le_refl _, fun _ _ _ => rfl⟩, hg, fun _ h => h, fun _ h => .inl h, ?_, rfl⟩
   ·intro t a ht
    obtain ⟨_, hu⟩ := q0s ht
    obtain ⟨x, h1, h2⟩ := hts.get hu
    simp only [Nat.sub_zero] at h1
    have hlt : t < vs.length := (List.getElem?_eq_some_iff.1 h1).1
    have : (vs.toArray ++ Array.replicate (fn.ntmps - vs.toArray.size) undef).getD t undef = x := by
     rw [Array.getD_eq_getD_getElem?, Array.getElem?_append_left (by simpa using hlt)]
     simp [h1]
    rw [this]; exact h2
   ·simp; omega
  refine wp_mono (Na h4 h7 h1 hI h) ?_
  rintro e a w' ⟨x, s, rfl, ⟨X', μ', hsim, hg', h0, hbd, hsz, hds⟩, hq⟩
  have fin : ∀ c, Up s rvs = some (c, res) → c → s.hp = hp' → a.defers = [] ∧ ∃ v, (results fn a.tmps).run P w' = .ok v w' ∧ ∃ u, Ending.returned v = .returned u ∧
    ∃ X' μ', Av w w.heap.size κ X' μ' ⟨[], hp'⟩ #[] w' ∧ AR w' X' μ' (St.sh ⟨[], hp'⟩) res u ∧ (∀ b, X b → X' b) ∧ (∀ b, X' b → X b ∨ w.heap.size ≤ b ∨ ∃ id n, κ id = some (b, n)) := by
   intro c hr hcc hh
   obtain ⟨v, h8, h9⟩ := q4w hsim h6 hr hcc
   subst hh
   exact ⟨hds, v, h8, v, rfl, X', μ', ⟨fun t a ht => by simp [A2] at ht, hsim.reg, hsim.inj, hsim.loc, hsim.kap, hsim.kbig, hsim.xlt, hsim.os, hsim.tape, hsim.output, hsim.size, hsim.fr⟩, h9, h0, hbd⟩
  cases x with
  | normal => obtain ⟨c, hr, hcc, hh⟩ := hq; exact fin c hr hcc hh
  | ret => obtain ⟨c, hr, hcc, hh⟩ := hq; exact fin c hr hcc hh
  | exit i => exact hq.elim
end
end Go.Lg
namespace Go.Lg
open Go
def q4x (P : Program) (Γ : Tables) (f : FuncId) (hp : List (Nat × Ak)) (args : List AV) (hp' : List (Nat × Ak)) : Prop :=
 ∀ (w : World) (X : Nat → Prop) (κ : B9) (vs : List Value), Gl Γ w X → (∀ id, κ id ≠ none → A2 hp id ≠ none) → Av w w.heap.size κ X κ ⟨[], hp⟩ #[] w → Fo w X κ (St.sh ⟨[], hp⟩) args vs →
  (callFunc f vs.toArray).run P w = .ok (.enter f vs.toArray) w ∧ ∀ u, CallsD P f vs.toArray u w fun e u' w' => u' = u ∧ ∃ v, e = .returned v ∧ ∃ X' μ', Av w w.heap.size κ X' μ' ⟨[], hp'⟩ #[] w' ∧ (∀ b, X b → X' b) ∧ (∀ b, X' b → X b ∨ w.heap.size ≤ b ∨ ∃ id n, κ id = some (b, n))
section
variable {P : Program} {Γ : Tables} {N : Nat}
theorem qD5 {f : FuncId} {ic : IC} {n : Nat} {rvs : List RV} {args : List AV} {hp hp' : List (Nat × Ak)} {res : AV} (hc : Ax P f ic N n rvs = true) (hn : args.length = n) (h : awp P Γ ic (q4K rvs res hp') ⟨Xy 0 args, hp⟩)
  {w : World} {X : Nat → Prop} {κ : B9} {vs : List Value} (hg : Gl Γ w X) (hs : Av w w.heap.size κ X κ ⟨[], hp⟩ #[] w) (hts : Fo w X κ (St.sh ⟨[], hp⟩) args vs) :
  ∃ fn c, P.funcs[f]? = some fn ∧ fn.body = some c ∧ c.wp P (bodyPost P fn fun e w' => ∃ u, e = .returned u ∧ ∃ X' μ', Av w w.heap.size κ X' μ' ⟨[], hp'⟩ #[] w' ∧ AR w' X' μ' (St.sh ⟨[], hp'⟩) res u ∧ (∀ b, X b → X' b) ∧ (∀ b, X' b → X b ∨ w.heap.size ≤ b ∨ ∃ id n, κ id = some (b, n)))
   { tmps := vs.toArray ++ Array.replicate (fn.ntmps - vs.toArray.size) undef, defers := [] } w := by
 unfold Ax at hc
 split at hc
 case h_2 => cases hc
 rename_i fn hf
 simp only [Bool.and_eq_true, Bool.not_eq_true', decide_eq_true_eq, beq_iff_eq] at hc
 obtain ⟨⟨⟨⟨⟨⟨h1, h2⟩, h3⟩, h4⟩, h5⟩, h6⟩, h7⟩ := hc
 cases hb : fn.body with
 | none => rw [hb] at h1; cases h1
 | some c =>
  rw [hb] at h1
  subst h3
  refine ⟨fn, c, hf, hb, ?_⟩
  have hlen : vs.length ≤ fn.ntmps := by rw [← hts.1, hn]; exact h5
  have hI : Inv Γ w w.heap.size κ X fn.ntmps ⟨Xy 0 args, hp⟩ { tmps := vs.toArray ++ Array.replicate (fn.ntmps - vs.toArray.size) undef, defers := [] } w := by
   refine ⟨X, κ, ⟨?_, hs.reg, hs.inj, hs.loc, hs.kap, hs.kbig, hs.xlt, rfl, rfl, rfl, Nat.le_refl _, fun _ _ _ => rfl⟩, hg, fun _ h => h, fun _ h => .inl h, ?_, rfl⟩
   ·intro t a ht
    obtain ⟨_, hu⟩ := q0s ht
    obtain ⟨x, h1, h2⟩ := hts.get hu
    simp only [Nat.sub_zero] at h1
    have hlt : t < vs.length := (List.getElem?_eq_some_iff.1 h1).1
    have : (vs.toArray ++ Array.replicate (fn.ntmps - vs.toArray.size) undef).getD t undef = x := by
     rw [Array.getD_eq_getD_getElem?, Array.getElem?_append_left (by simpa using hlt)]
     simp [h1]
    rw [this]; exact h2
   ·simp; omega
  refine wp_mono (Na h4 h7 h1 hI h) ?_
  rintro e a w' ⟨x, s, rfl, ⟨X', μ', hsim, hg', h0, hbd, hsz, hds⟩, hq⟩
  have fin : ∀ c, Up s rvs = some (c, res) → c → s.hp = hp' → a.defers = [] ∧ ∃ v, (results fn a.tmps).run P w' = .ok v w' ∧ ∃ u, Ending.returned v = .returned u ∧
    ∃ X' μ', Av w w.heap.size κ X' μ' ⟨[], hp'⟩ #[] w' ∧ AR w' X' μ' (St.sh ⟨[], hp'⟩) res u ∧ (∀ b, X b → X' b) ∧ (∀ b, X' b → X b ∨ w.heap.size ≤ b ∨ ∃ id n, κ id = some (b, n)) := by
   intro c hr hcc hh
   obtain ⟨v, h8, h9⟩ := q4w hsim h6 hr hcc
   subst hh
   exact ⟨hds, v, h8, v, rfl, X', μ', ⟨fun t a ht => by simp [A2] at ht, hsim.reg, hsim.inj, hsim.loc, hsim.kap, hsim.kbig, hsim.xlt, hsim.os, hsim.tape, hsim.output, hsim.size, hsim.fr⟩, h9, h0, hbd⟩
  cases x with
  | normal => obtain ⟨c, hr, hcc, hh⟩ := hq; exact fin c hr hcc hh
  | ret => obtain ⟨c, hr, hcc, hh⟩ := hq; exact fin c hr hcc hh
  | exit i => exact hq.elim
theorem q9f {f : FuncId} {ic : IC} {n : Nat} {rvs : List RV} {args : List AV} {hp hp' : List (Nat × Ak)} {res : AV} (hc : Ax P f ic N n rvs = true) (hn : args.length = n) (h : awp P Γ ic (q4K rvs res hp') ⟨Xy 0 args, hp⟩) : q4x P Γ f hp args hp' := by
 intro w X κ vs hg hk hs hts
 refine ⟨Wi hc _, fun u => ?_⟩
 obtain ⟨fn, c, hf, hb, hw⟩ := qD5 hc hn h hg hs hts
 refine (callsD_of_wp (u := u) hf hb hw).mono ?_
 rintro e u' w' ⟨rfl, v, he, X', μ', h1, _, h2, h3⟩
 exact ⟨rfl, v, he, X', μ', h1, h2, h3⟩
def qD6 (P : Program) (f : FuncId) (A0 A1 R : IC) (N n : Nat) (rvs : List RV) (t : Nat) (g : FuncId) (caps : List Operand) : Bool := match P.funcs[f]? with
 | some fn => (match fn.body with
  | some (.seq a (.seq b (.seq (.region _ ops false) r))) => K5 P N A0 a && K5 P N A1 b && K5 P N R r && noC [t] R && (match ops.toList with
   | [o1, o2] => q2e P N [o1, o2] ⟨some t, .mkf g caps, none, none⟩ o1 && o2.dst.isNone && o2.guard.isNone && (match o2.op with
    | .defer c => (match c.callee with | .value (.tmp s) => s == t && c.args.isEmpty | _ => false)
    | _ => false)
   | _ => false)
  | _ => false) && !(fn.name == "runtime.NumGoroutine") && fn.ntmps == N && decide (N ≤ 1000000) && decide (n ≤ N) && decide (t < N) && Bt P rvs fn.results.toList && P.follows .mixedOrders
 | none => false
def q5r (P : Program) (Γ : Tables) (rvs : List RV) (t : Nat) (g : FuncId) (rt : T) (ids : List Nat) (hp' : List (Nat × Ak)) : AX → St → Prop
 | .exit _, _ => False
 | _, s => ∃ av cs rs base hp2, A2 s.env t = some av ∧ Xx av = some (g, cs) ∧ rs.Nodup ∧ q4x P Γ g (B8 rs s.hp) (cs.map (Ae (Rw rs))) hp2 ∧ Qi rs base s.hp hp2 ∧
   ∃ c, Up (C7 rs base hp2 s) rvs = some (c, .t rt) ∧ c ∧ (Gh.run (.keep [] ids) (C7 rs base hp2 s)).hp = hp'
theorem qBT {f : FuncId} {A0 A1 R : IC} {n : Nat} {rvs : List RV} {args : List AV} {hp hp' : List (Nat × Ak)} {rt : T} {t : Nat} {g : FuncId} {caps : List Operand} {gs : List Gh} {ids : List Nat} (hc : qD6 P f A0 A1 R N n rvs t g caps = true) (hn : args.length = n)
  (h : awp P Γ (.seq A0 (.seq A1 (.reg [⟨some t, .mkf g caps, none, none⟩] gs))) (fun e s => e = .normal ∧ awp P Γ R (q5r P Γ rvs t g rt ids hp') s) ⟨Xy 0 args, hp⟩) : C3 P Γ f hp args (.t rt) hp' := by
 intro w X κ vs hg hk hs hts
 unfold qD6 at hc
 split at hc
 case h_2 => cases hc
 rename_i fn hf
 simp only [Bool.and_eq_true, Bool.not_eq_true', decide_eq_true_eq, beq_iff_eq] at hc
 obtain ⟨⟨⟨⟨⟨⟨⟨h1, h2⟩, h3⟩, h4⟩, h5⟩, ht⟩, h6⟩, h7⟩ := hc
 split at h1
 case h_2 => cases h1
 rename_i c a b idr ops r hb
 simp only [Bool.and_eq_true] at h1
 obtain ⟨⟨⟨⟨hca, hcb⟩, hcr⟩, hno⟩, hops⟩ := h1
 split at hops
 case h_2 => cases hops
 rename_i l o1 o2 hol
 simp only [Bool.and_eq_true, Option.isNone_iff_eq_none] at hops
 obtain ⟨⟨⟨hk1, hd2⟩, hg2⟩, hdf⟩ := hops
 have hent : (callFunc f vs.toArray).run P w = .ok (.enter f vs.toArray) w := by
  have h2' : ¬ fn.name = "runtime.NumGoroutine" := by simpa using h2
  simp [callFunc, hf, h2', hb]
 refine .inl ⟨hent, ?_⟩
 subst h3
 refine calls_of_wp_defers hf hb ?_
 have hlen : vs.length ≤ fn.ntmps := by rw [← hts.1, hn]; exact h5
 have hI : Inv Γ w w.heap.size κ X fn.ntmps ⟨Xy 0 args, hp⟩ { tmps := vs.toArray ++ Array.replicate (fn.ntmps - vs.toArray.size) undef, defers := [] } w := by
  refine ⟨X, κ, ⟨?_, hs.reg, hs.inj, hs.loc, hs.kap, hs.kbig, hs.xlt, rfl, rfl, rfl, Nat.le_refl _, fun _ _ _ => rfl⟩, hg, fun _ h => h, fun _ h => .inl h, ?_, rfl⟩
  ·intro t a ht
   obtain ⟨_, hu⟩ := q0s ht
   obtain ⟨x, h1, h2⟩ := hts.get hu
   simp only [Nat.sub_zero] at h1
   have hlt : t < vs.length := (List.getElem?_eq_some_iff.1 h1).1
   have : (vs.toArray ++ Array.replicate (fn.ntmps - vs.toArray.size) undef).getD t undef = x := by
    rw [Array.getD_eq_getD_getElem?, Array.getElem?_append_left (by simpa using hlt)]
    simp [h1]
   rw [this]; exact h2
  ·simp; omega
 -- the end
 have fin : ∀ (s : St) (a : Act) (w' : World), Fa [t] Γ w w.heap.size κ X fn.ntmps s a w' → q5r P Γ rvs t g rt ids hp' .normal s → Leaves P fn a.tmps (fun e w' => ∃ v, e = .returned v ∧ ∃ X' μ', Av w w.heap.size κ X' μ' ⟨[], hp'⟩ #[] w' ∧ AR w' X' μ' (St.sh ⟨[], hp'⟩) (.t rt) v ∧ (∀ b, X b → X' b) ∧ (∀ b, X' b → X b ∨ w.heap.size ≤ b ∨ ∃ id n, κ id = some (b, n))) a.defers .returning w' := by
  rintro s a w' ⟨X', μ', hsim, hg', h0, hbd, hsz, hds⟩ ⟨av, cs, rs, base, hp2, hl, hfn, hnd, hcall, hok, c, hr, hcc, hh⟩
  obtain ⟨ys, hy, hys⟩ := q4s hfn (hsim.env t av hl)
  have hd : a.defers = [⟨.fn (.func g) ys.toArray, #[]⟩] := by rw [hds]; simp [dfr, hy]
  obtain ⟨hrun, hcd⟩ := hcall w' X' (Ic μ' s rs) ys hg' (fun id hi => by
   cases hk : Ic μ' s rs id with
   | none => exact absurd hk hi
   | some l =>
    unfold Ic at hk
    split at hk
    ·rename_i hc
     have e0 := Zv hc.2.1
     have hm : rs.getD (id - 1000000) 0 ∈ rs := by rw [e0]; exact List.getElem_mem _
     have hidx : rs.idxOf (rs.getD (id - 1000000) 0) = id - 1000000 := by rw [e0, hnd.idxOf_getElem]
     obtain ⟨q, hq⟩ : ∃ q, s.sh (rs.getD (id - 1000000) 0) = some q := by
      cases he : s.sh (rs.getD (id - 1000000) 0) with
      | none => exact absurd he hc.2.2
      | some q => exact ⟨q, rfl⟩
     have := Qp hm hq
     rw [hidx] at this
     have e : 1000000 + (id - 1000000) = id := by have := hc.1; omega
     rw [e] at this
     intro hn
     simp only [St.sh, hn, Option.map_none, reduceCtorEq] at this
    ·cases hk) (hsim.hand rs) (Xm hsim hys)
  rw [hd]
  refine ⟨by simp, .func g, ys.toArray, g, ys.toArray, rfl, by simp [invoke, hrun], (hcd .returning).mono ?_⟩
  rintro e u' w2 ⟨rfl, v, rfl, X2, μ2, hs2, hX2, hX2'⟩
  obtain ⟨hsb, hsame, _⟩ := hsim.back hnd hs2 hok hX2 hX2'
  have hbd2 : ∀ b, X2 b → X b ∨ w.heap.size ≤ b ∨ ∃ id n, κ id = some (b, n) := fun b hb => by
   rcases hX2' b hb with hb | hb | ⟨id, n, hk⟩
   ·exact hbd b hb
   ·exact .inr (.inl (Nat.le_trans hsim.size hb))
   ·obtain ⟨t', h8, h9, h10⟩ := Ea hk
    rcases Nat.lt_or_ge b w.heap.size with hlt | hge
    ·obtain ⟨id', n', hq⟩ := (hsim.loc t' b n h9 h10).2.2 hlt
     exact .inr (.inr ⟨id', n', hq⟩)
    ·exact .inr (.inl hge)
  have hI2 : Inv Γ w w.heap.size κ X fn.ntmps (C7 rs base hp2 s) ⟨a.tmps, []⟩ w2 := ⟨X2, _, hsb, hg'.mono hsame hX2, fun b hb => hX2 b (h0 b hb), hbd2, hsz, rfl⟩
  obtain ⟨x, hres, hx⟩ := q4w hsb h6 hr hcc
  have hpin : Inv Γ w w.heap.size κ X2 fn.ntmps (C7 rs base hp2 s) ⟨a.tmps, []⟩ w2 := ⟨X2, _, hsb, hg'.mono hsame hX2, fun b hb => hb, fun b hb => .inl hb, hsz, rfl⟩
  obtain ⟨X3, μ3, hs3, hg3, h03, hbd3, _, _⟩ := Gh.run_ok (.keep [] ids) hpin
  rw [← hh]
  refine ⟨x, hres, x, rfl, X3, μ3, ⟨fun t a ht => by simp [A2] at ht, hs3.reg, hs3.inj, hs3.loc, hs3.kap, hs3.kbig, hs3.xlt, hs3.os, hs3.tape, hs3.output, hs3.size, hs3.fr⟩, .t _ _ (hx.t_inv.mono (fun _ _ => rfl) h03), fun b hb => h03 b (hX2 b (h0 b hb)), fun b hb => ?_⟩
  rcases hbd3 b hb with hb | hb | hb
  ·exact hbd2 b hb
  ·exact .inr (.inl hb)
  ·exact .inr (.inr hb)
 refine wp_seq (wp_mono (Na h4 h7 hca hI h) ?_)
 rintro e a w1 ⟨x, s, rfl, hIa, hq⟩
 cases x with
 | exit i => cases hq.1
 | ret => cases hq.1
 | normal =>
 refine wp_seq (wp_mono (Na h4 h7 hcb hIa hq) ?_)
 rintro e a w2 ⟨x, s, rfl, hIa, hq⟩
 cases x with
 | exit i => cases hq.1
 | ret => cases hq.1
 | normal =>
 obtain ⟨s1, ⟨s2, hst, rfl⟩, _, hR⟩ := hq
 refine wp_seq (wp_region_list ?_)
 rw [hol]
 have harr : ops = #[o1, o2] := by apply Array.toList_inj.1; rw [hol]
 rw [harr]
 unfold wpList
 refine Yz (ops := [o1, o2]) hIa h4 hk1 hst fun a3 w3 hI3 => ?_
 have hw : Region.wanted o2 (yielded #[o1, o2] a3.tmps) = true := by simp [Region.wanted, hg2]
 unfold wpList
 rw [if_pos hw]
 refine .inl ?_
 obtain ⟨X3, μ3, hsim3, hg3, h03, hbd3, hsz3, hds3⟩ := hI3
 generalize hop : o2.op = op2 at hdf
 split at hdf
 case h_2 => cases hdf
 rename_i cl
 split at hdf
 case h_2 => cases hdf
 rename_i t2 hcal
 simp only [Bool.and_eq_true, beq_iff_eq] at hdf
 obtain ⟨rfl, hargs⟩ := hdf
 have hargs : cl.args = #[] := by simpa using hargs
 have hv : ∃ ys : List Value, a3.tmps.getD t2 undef = .func (.func g) #[] ys.toArray := by
  rcases hst with ⟨_, rr, st1, hex, rfl⟩ | ⟨hno, _⟩
  ·simp only [Bw, A6] at hex
   obtain ⟨c, hc1, hc2⟩ := hex
   simp only [Option.map_eq_some_iff, Prod.mk.injEq] at hc1
   obtain ⟨as, has, rfl, rfl, rfl⟩ := hc1
   have hat := hsim3.env t2 (match Hl as with | some ts => .t (.fn g ts) | none => .fn g as) (by simp [St.put, A2]; rfl)
   simp only [q2e, Bool.and_eq_true, decide_eq_true_eq] at hk1
   obtain ⟨⟨⟨⟨⟨_, hch⟩, _⟩, _⟩, _⟩, _⟩ := hk1
   have hlt : g < 1000000000 := by
    simp only [Ia] at hch
    split at hch
    ·simp only [Bool.and_eq_true, decide_eq_true_eq] at hch; exact hch.2
    ·cases hch
   generalize a3.tmps.getD t2 undef = v at hat
   cases hto : Hl as with
   | some ts =>
    simp only [hto] at hat
    cases hat.t_inv with
    | fn f cs xs hlen hrel => exact ⟨xs, rfl⟩
   | none =>
    simp only [hto] at hat
    cases hat with
    | fn f cs xs hlen hrel => exact ⟨xs, q2H hlt⟩
  ·simp [C9] at hno
 obtain ⟨ys, hy⟩ := hv
 have hrun : (execOp a3.eval o2).run P w3 = .ok (.defer ⟨.fn (.func g) ys.toArray, #[]⟩) w3 := by
  simp [execOp, hop, resolve, hcal, Deferred.ofValue, Act.eval, hy, hargs]
 unfold Oper.wp
 rw [hrun, Oper.upon_defer, hd2]
 show wpList P _ _ [] _ _
 unfold wpList
 have hI4 : Fa [t2] Γ w w.heap.size κ X fn.ntmps _ { a3 with defers := ⟨.fn (.func g) ys.toArray, #[]⟩ :: a3.defers } w3 := ⟨X3, μ3, hsim3, hg3, h03, hbd3, hsz3, by
  simp only [hds3, List.map_nil, List.map_cons, dfr, hy]⟩
 refine wp_mono (D4 h4 h7 hcr (q0r hI4) hR hno) ?_
 rintro e a5 w5 ⟨x, s5, rfl, hI5, hq⟩
 cases x with
 | exit i => exact hq.elim
 | ret => exact fin s5 a5 w5 hI5 hq
 | normal => exact fin s5 a5 w5 hI5 hq
end
end Go.Lg
namespace Go.Lg
open Go
def sV (l : List UInt8) : Value := .string ⟨l.toArray⟩
structure Tag {α : Sort _} (a : α) : Type where
def Fh (A : Prop) (_ : Tag A) : Prop := A
def Bo (x : Option (Prop × AV × St)) (K : AV → St → Prop) (_ : Tag K) : Prop := match x with
 | some (c, r, st1) => c ∧ K r st1
 | none => False
def asK (x : Option (List AV)) (K : List AV → Prop) (_ : Tag K) : Prop := match x with
 | some as => K as
 | none => False
def fnK (x : Option (FuncId × List AV)) (K : FuncId → List AV → Prop) (_ : Tag K) : Prop := match x with
 | some p => K p.1 p.2
 | none => False
def q1e (x : Option AV) (A B : Prop) (_ : Tag A) (_ : Tag B) : Prop := match x with
 | some (.t (.v (.bool t))) => (t = true → A) ∧ (t = false → B)
 | _ => False
def q2s (P : Program) (Γ : Tables) (hp : List (Nat × Ak)) (f : FuncId) (as : List AV) (K : T → Prop) (_ : Tag K) : Prop := ∃ res, W8 P Γ hp f as res ∧ K res
def Ry (P : Program) (Γ : Tables) (st : St) (f : FuncId) (rs : List Nat) (base : Nat) (hp : List (Nat × Ak)) (as : List AV) (K : AV → St → Prop) (_ : Tag K) : Prop :=
 ∃ res hp', C3 P Γ f hp as res hp' ∧ Qi rs base st.hp hp' ∧ K (Ae (fun i => some (Np rs base i)) res) (C7 rs base hp' st)
def q9g (P : Program) (Γ : Tables) (st : St) (f : FuncId) (base : Nat) (as : List AV) (K : AV → St → Prop) (_ : Tag K) : Prop :=
 ∃ res hp', C3 P Γ f [] as res hp' ∧ Qi [] base st.hp hp' ∧ K (Ae (fun i => some (Np [] base i)) res) ⟨st.env, Et [] base hp' ++ st.hp⟩
def q9h (P : Program) (Γ : Tables) (f : FuncId) (as : List AV) (K : T → Prop) (_ : Tag K) : Prop := ∃ ts res, Aa (as.map toT) = some ts ∧ (Aw P Γ f ts res ∨ A5 P Γ f ts res) ∧ K res
def q9i (P : Program) (Γ : Tables) (st : St) (f : FuncId) (rs : List Nat) (hp : List (Nat × Ak)) (as : List AV) (K : AV → St → Prop) (_ : Tag K) : Prop :=
 ∃ res, C3 P Γ f hp as res hp ∧ K (Ae (fun i => some (Np rs 0 i)) res) st
def Ai (P : Program) (Γ : Tables) (d : Nat) (io : Ar) (st : St) (K : AV → St → Prop) : Prop := match io with
 | .call f args => asK (Hk Γ st.env args) (fun as => q2s P Γ st.hp f as (fun res => K (.t res) st) ⟨⟩) ⟨⟩
 | .callv x args => fnK ((ev Γ st.env x).bind Xx) (fun f cs => asK (Hk Γ st.env args) (fun as => q2s P Γ st.hp f (as ++ cs) (fun res => K (.t res) st) ⟨⟩) ⟨⟩) ⟨⟩
 | .hcall f args rs base => asK (Hk Γ st.env args) (fun as => rs.Nodup ∧ Ry P Γ st f rs base (B8 rs st.hp) (as.map (Ae (Rw rs))) K ⟨⟩) ⟨⟩
 | .hcallv x args rs base => fnK ((ev Γ st.env x).bind Xx) (fun f cs => asK (Hk Γ st.env args) (fun as => rs.Nodup ∧ Ry P Γ st f rs base (B8 rs st.hp) ((as ++ cs).map (Ae (Rw rs))) K ⟨⟩) ⟨⟩) ⟨⟩
 | .hcallW f args base => asK (Hk Γ st.env args) (fun as => ∃ rs, rs.Nodup ∧ Ry P Γ st f rs base (B8 rs st.hp) (as.map (Ae (Rw rs))) K ⟨⟩) ⟨⟩
 | .hcallvW x args base => fnK ((ev Γ st.env x).bind Xx) (fun f cs => asK (Hk Γ st.env args) (fun as => ∃ rs, rs.Nodup ∧ Ry P Γ st f rs base (B8 rs st.hp) ((as ++ cs).map (Ae (Rw rs))) K ⟨⟩) ⟨⟩) ⟨⟩
 | .hcallB x args base => fnK ((ev Γ st.env x).bind q4A) (fun f cs => asK (Hk Γ st.env args) (fun as => ∃ rs, rs.Nodup ∧ Ry P Γ st f rs base (B8 rs st.hp) ((cs ++ as).map (Ae (Rw rs))) K ⟨⟩) ⟨⟩) ⟨⟩
 | .ncall f args base => asK (Hk Γ st.env args) (fun as => q9g P Γ st f base (as.map (Ae (Rw []))) K ⟨⟩) ⟨⟩
 | .callT f args => asK (Hk Γ st.env args) (fun as => q9h P Γ f as (fun res => K (.t res) st) ⟨⟩) ⟨⟩
 | .rcall f args rs => asK (Hk Γ st.env args) (fun as => rs.Nodup ∧ (∀ i ∈ rs, ∃ ty s es, A2 st.hp i = some (.sl ty s es)) ∧ q9i P Γ st f rs (B8 rs st.hp) (as.map (Ae (Rw rs))) K ⟨⟩) ⟨⟩
 | io => Bo (A6 Γ d io st) K ⟨⟩
def q2t (x : Option Bool) (A B : Prop) (_ : Tag A) (_ : Tag B) : Prop := match x with
 | some true => A
 | some false => B
 | none => False
def qC8 (P : Program) (Γ : Tables) (ro : RO) (st : St) (K : St → Prop) : Prop := q2t (C9 st.env ro.guard) (Ai P Γ ro.d ro.op st fun r st1 => K (st1.put ro.dst r)) (K (st.put ro.dst .un)) ⟨⟩ ⟨⟩
def Ey (P : Program) (Γ : Tables) : (ros : List RO) → (st : St) → (K : St → Prop) → Tag K → Prop
 | [], st, K, _ => K st
 | ro :: ros, st, K, t => qC8 P Γ ro st fun st1 => Ey P Γ ros st1 K t
theorem q9j {P : Program} {Γ : Tables} {d : Nat} {io : Ar} {st : St} {K : AV → St → Prop} (h : Ai P Γ d io st K) : ∃ r st1, Bw P Γ d io st r st1 ∧ K r st1 := by
 have gen : Bo (A6 Γ d io st) K ⟨⟩ → ∃ r st1, (∃ c, A6 Γ d io st = some (c, r, st1) ∧ c) ∧ K r st1 := by
  intro h
  unfold Bo at h
  split at h
  ·rename_i c r st1 hs; exact ⟨r, st1, ⟨c, hs, h.1⟩, h.2⟩
  ·exact h.elim
 cases io with
 | call f args =>
  simp only [Ai, asK] at h
  split at h
  ·rename_i as has; obtain ⟨res, h1, h2⟩ := h; exact ⟨_, _, ⟨as, res, has, h1, rfl, rfl⟩, h2⟩
  ·exact h.elim
 | callv x args =>
  simp only [Ai, fnK] at h
  split at h
  ·rename_i p hp
   obtain ⟨a, ha, hf⟩ := Option.bind_eq_some_iff.1 hp
   simp only [asK] at h
   split at h
   ·rename_i as has; obtain ⟨res, h1, h2⟩ := h; exact ⟨_, _, ⟨a, p.1, p.2, as, res, ha, hf, has, h1, rfl, rfl⟩, h2⟩
   ·exact h.elim
  ·exact h.elim
 | hcall f args rs base =>
  simp only [Ai, asK] at h
  split at h
  ·rename_i as has; obtain ⟨hnd, res, hp', h1, h2, h3⟩ := h; exact ⟨_, _, ⟨as, res, hp', has, hnd, h1, h2, rfl, rfl⟩, h3⟩
  ·exact h.elim
 | hcallv x args rs base =>
  simp only [Ai, fnK] at h
  split at h
  ·rename_i p hp
   obtain ⟨a, ha, hf⟩ := Option.bind_eq_some_iff.1 hp
   simp only [asK] at h
   split at h
   ·rename_i as has; obtain ⟨hnd, res, hp', h1, h2, h3⟩ := h; exact ⟨_, _, ⟨a, p.1, p.2, as, res, hp', ha, hf, has, hnd, h1, h2, rfl, rfl⟩, h3⟩
   ·exact h.elim
  ·exact h.elim
 | hcallW f args base =>
  simp only [Ai, asK] at h
  split at h
  ·rename_i as has; obtain ⟨rs, hnd, res, hp', h1, h2, h3⟩ := h; exact ⟨_, _, ⟨rs, as, res, hp', has, hnd, h1, h2, rfl, rfl⟩, h3⟩
  ·exact h.elim
 | hcallvW x args base =>
  simp only [Ai, fnK] at h
  split at h
  ·rename_i p hp
   obtain ⟨a, ha, hf⟩ := Option.bind_eq_some_iff.1 hp
   simp only [asK] at h
   split at h
   ·rename_i as has; obtain ⟨rs, hnd, res, hp', h1, h2, h3⟩ := h; exact ⟨_, _, ⟨rs, a, p.1, p.2, as, res, hp', ha, hf, has, hnd, h1, h2, rfl, rfl⟩, h3⟩
   ·exact h.elim
  ·exact h.elim
 | hcallB x args base =>
  simp only [Ai, fnK] at h
  split at h
  ·rename_i p hp
   obtain ⟨a, ha, hf⟩ := Option.bind_eq_some_iff.1 hp
   simp only [asK] at h
   split at h
   ·rename_i as has; obtain ⟨rs, hnd, res, hp', h1, h2, h3⟩ := h; exact ⟨_, _, ⟨rs, a, p.1, p.2, as, res, hp', ha, hf, has, hnd, h1, h2, rfl, rfl⟩, h3⟩
   ·exact h.elim
  ·exact h.elim
 | ncall f args base =>
  simp only [Ai, asK] at h
  split at h
  ·rename_i as has; obtain ⟨res, hp', h1, h2, h3⟩ := h; exact ⟨_, _, ⟨as, res, hp', has, h1, h2, rfl, rfl⟩, h3⟩
  ·exact h.elim
 | callT f args =>
  simp only [Ai, asK] at h
  split at h
  ·rename_i as has; obtain ⟨ts, res, h1, h2, h3⟩ := h; exact ⟨_, _, ⟨as, ts, res, has, h1, h2, rfl, rfl⟩, h3⟩
  ·exact h.elim
 | rcall f args rs =>
  simp only [Ai, asK] at h
  split at h
  ·rename_i as has; obtain ⟨hnd, hsl, res, h1, h2⟩ := h; exact ⟨_, _, ⟨as, res, has, hnd, hsl, h1, rfl, rfl⟩, h2⟩
  ·exact h.elim
 | _ => exact gen h
theorem q0t {P : Program} {Γ : Tables} : ∀ {ros : List RO} {st : St} {K : St → Prop}, Ey P Γ ros st K ⟨⟩ → ∃ s1, K3 P Γ ros st s1 ∧ K s1
 | [], st, K, h => ⟨st, rfl, h⟩
 | ro :: ros, st, K, h => by
  simp only [Ey, qC8, q2t] at h
  split at h
  ·rename_i hw
   obtain ⟨r, st1, h1, h2⟩ := q9j h
   obtain ⟨s1, h3, h4⟩ := q0t (ros := ros) h2
   exact ⟨s1, ⟨_, .inl ⟨hw, r, st1, h1, rfl⟩, h3⟩, h4⟩
  ·rename_i hw
   obtain ⟨s1, h3, h4⟩ := q0t (ros := ros) h
   exact ⟨s1, ⟨_, .inr ⟨hw, rfl⟩, h3⟩, h4⟩
  ·exact h.elim
def ghs (gs : List Gh) (s : St) : St := gs.foldl (fun s g => g.run s) s
def run (P : Program) (Γ : Tables) : IC → (AX → St → Prop) → St → Prop
 | .skip, Q, s => Q .normal s
 | .reg ros gs, Q, s => Ey P Γ ros s (fun s1 => Q .normal (ghs gs s1)) ⟨⟩
 | .seq a b, Q, s => run P Γ a (B5 (run P Γ b Q) Q) s
 | .cond c a b, Q, s => q1e (ev Γ s.env c) (run P Γ a Q s) (run P Γ b Q s) ⟨⟩ ⟨⟩
 | .block id a, Q, s => run P Γ a (J5 id Q) s
 | .loop a, Q, s => awp P Γ (.loop a) Q s
 | .exit i, Q, s => Q (.exit i) s
 | .ret, Q, s => Q .ret s
 | .scope a, Q, s => run P Γ a Q s
 | .gh a gs, Q, s => run P Γ a (B5 (fun s => Q .normal (ghs gs s)) Q) s
 | .ghW a, Q, s => run P Γ a (B5 (fun s => ∃ s', Imp Γ s s' ∧ Q .normal s') Q) s
 | .pre gs a, Q, s => run P Γ a Q (ghs gs s)
 | .dead, _, _ => False
theorem Fq {P : Program} {Γ : Tables} : ∀ {c : IC} {Q : AX → St → Prop} {s : St}, run P Γ c Q s → awp P Γ c Q s
 | .skip, _, _, h => h
 | .reg ros gs, _, _, h => q0t h
 | .seq a b, Q, s, h => Ag (c := a) (Fq (c := a) h) fun e s h => by
  cases e with
  | normal => exact Fq (c := b) h
  | exit i => exact h
  | ret => exact h
 | .cond c a b, Q, s, h => by
  simp only [run, q1e] at h
  split at h
  ·rename_i t ht; exact ⟨t, ht, fun e => Fq (c := a) (h.1 e), fun e => Fq (c := b) (h.2 e)⟩
  ·exact h.elim
 | .block id a, Q, s, h => Fq (c := a) h
 | .loop a, Q, s, h => h
 | .exit _, _, _, h => h
 | .ret, _, _, h => h
 | .scope a, Q, s, h => Fq (c := a) h
 | .gh a gs, Q, s, h => Ag (c := a) (Fq (c := a) h) fun e s h => by
  cases e with
  | normal => exact h
  | exit i => exact h
  | ret => exact h
 | .ghW a, Q, s, h => Ag (c := a) (Fq (c := a) h) fun e s h => by
  cases e with
  | normal => exact h
  | exit i => exact h
  | ret => exact h
 | .pre _ a, _, _, h => Fq (c := a) h
 | .dead, _, _, h => h.elim
def ret (fl : Bool) (rvs : List RV) (R : T → Prop) : AX → St → Prop
 | .exit _, _ => False
 | .normal, s | .ret, s => (match Pj s rvs with | some (c, r) => c ∧ R r | none => False) ∧ (fl = true → E6 s)
theorem qC9 {rvs : List RV} {R : T → Prop} {e : AX} {s : St} {fl : Bool} (h : ret fl rvs R e s) : ∃ res, R res ∧ (if fl then qC7 rvs res e s else qFU rvs res e s) := by
 cases e with
 | exit i => exact h.elim
 | normal =>
  obtain ⟨h, hf⟩ := h
  split at h
  ·rename_i c r hr
   refine ⟨r, h.2, ?_⟩
   cases fl
   ·exact ⟨c, hr, h.1⟩
   ·exact ⟨c, hr, h.1, hf rfl⟩
  ·exact h.elim
 | ret =>
  obtain ⟨h, hf⟩ := h
  split at h
  ·rename_i c r hr
   refine ⟨r, h.2, ?_⟩
   cases fl
   ·exact ⟨c, hr, h.1⟩
   ·exact ⟨c, hr, h.1, hf rfl⟩
  ·exact h.elim
theorem run_pure {P : Program} {Γ : Tables} {f : FuncId} {ic : IC} {N n : Nat} {rvs : List RV} {args : List T} {R : T → Prop} (hc : Ax P f ic N n rvs = true) (hn : args.length = n) (h : run P Γ ic (ret false rvs R) ⟨params 0 args, []⟩) : ∃ res, Aw P Γ f args res ∧ R res := by
 obtain ⟨e, s, h1, h2⟩ := F4 (Fq h)
 obtain ⟨res, hR, hq⟩ := qC9 h1
 exact ⟨res, q2q hc hn (Ag h2 fun e s ⟨he, hs⟩ => by subst he; subst hs; exact hq), hR⟩
theorem q4L {P : Program} {Γ : Tables} {f : FuncId} {ic : IC} {N n : Nat} {rvs : List RV} {args : List T} {R : T → Prop} (hc : Ax P f ic N n rvs = true) (hn : args.length = n) (h : run P Γ ic (ret true rvs R) ⟨params 0 args, []⟩) : ∃ res, A5 P Γ f args res ∧ R res := by
 obtain ⟨e, s, h1, h2⟩ := F4 (Fq h)
 obtain ⟨res, hR, hq⟩ := qC9 h1
 exact ⟨res, q1d hc hn (Ag h2 fun e s ⟨he, hs⟩ => by subst he; subst hs; exact hq), hR⟩
def qBU (rvs : List RV) (R : AV → List (Nat × Ak) → Prop) : AX → St → Prop
 | .exit _, _ => False
 | .normal, s | .ret, s => match Up s rvs with | some (c, r) => c ∧ R r s.hp | none => False
theorem qD7 {rvs : List RV} {R : AV → List (Nat × Ak) → Prop} {e : AX} {s : St} (h : qBU rvs R e s) : ∃ res hp', R res hp' ∧ q4K rvs res hp' e s := by
 have key : ∀ s : St, (match Up s rvs with | some (c, r) => c ∧ R r s.hp | none => False) → ∃ res hp', R res hp' ∧ ∃ c, Up s rvs = some (c, res) ∧ c ∧ s.hp = hp' := by
  intro s h
  split at h
  ·rename_i c r hr; exact ⟨r, s.hp, h.2, c, hr, h.1, rfl⟩
  ·exact h.elim
 cases e with
 | exit i => exact h.elim
 | normal => exact key s h
 | ret => exact key s h
theorem q9k {P : Program} {Γ : Tables} {f : FuncId} {ic : IC} {N n : Nat} {rvs : List RV} {hp : List (Nat × Ak)} {args : List AV} {R : AV → List (Nat × Ak) → Prop} (hc : Ax P f ic N n rvs = true) (hn : args.length = n) (h : run P Γ ic (qBU rvs R) ⟨Xy 0 args, hp⟩) :
  ∃ res hp', C3 P Γ f hp args res hp' ∧ R res hp' := by
 obtain ⟨e, s, h1, h2⟩ := F4 (Fq h)
 obtain ⟨res, hp', hR, hq⟩ := qD7 h1
 exact ⟨res, hp', q7r hc hn (Ag h2 fun e s ⟨he, hs⟩ => by subst he; subst hs; exact hq), hR⟩
theorem A7 {n : Int} (h1 : -9223372036854775808 ≤ n) (h2 : n ≤ 9223372036854775807) : IntKind.i64.wrap n = n := by
 simp [IntKind.wrap, IntKind.signed, IntKind.bits]
 split <;> omega
theorem q2F {n : Int} (h1 : 0 ≤ n) (h2 : n ≤ 255) : IntKind.u8.wrap n = n := by
 simp [IntKind.wrap, IntKind.signed, IntKind.bits]
 omega
section
variable {P : Program} {Γ : Tables} {Q Q' : AX → St → Prop} {s s' : St} {hp hp' : List (Nat × Ak)}
theorem Au {a : IC} (h : ∀ K : St → Prop, K = run P Γ (.loop a) Q → run P Γ a (B5 K Q) s) : run P Γ (.loop a) Q s := q9e (Fq (h _ rfl))
@[simp ↓] theorem qGj {a b : IC} : run P Γ (.seq a b) Q s = run P Γ a (B5 (run P Γ b Q) Q) s := Eq.trans rfl rfl
@[simp ↓] theorem qGk {ros : List RO} {gs : List Gh} : run P Γ (.reg ros gs) Q s = Ey P Γ ros s (fun s1 => Q .normal (ghs gs s1)) ⟨⟩ := Eq.trans rfl rfl
@[simp ↓] theorem qFV {c : Operand} {a b : IC} : run P Γ (.cond c a b) Q s = q1e (ev Γ s.env c) (run P Γ a Q s) (run P Γ b Q s) ⟨⟩ ⟨⟩ := Eq.trans rfl rfl
@[simp ↓] theorem qES {id : Nat} {a : IC} : run P Γ (.block id a) Q s = run P Γ a (J5 id Q) s := Eq.trans rfl rfl
@[simp ↓] theorem qET {a : IC} : run P Γ (.scope a) Q s = run P Γ a Q s := Eq.trans rfl rfl
@[simp ↓] theorem qHN {a : IC} {gs : List Gh} : run P Γ (.gh a gs) Q s = run P Γ a (B5 (fun s => Q .normal (ghs gs s)) Q) s := Eq.trans rfl rfl
@[simp ↓] theorem qGl {a : IC} : run P Γ (.ghW a) Q s = run P Γ a (B5 (fun s => ∃ s', Imp Γ s s' ∧ Q .normal s') Q) s := Eq.trans rfl rfl
@[simp ↓] theorem qGm {a : IC} {gs : List Gh} : run P Γ (.pre gs a) Q s = run P Γ a Q (ghs gs s) := Eq.trans rfl rfl
@[simp ↓] theorem qFW : run P Γ .skip Q s = Q .normal s := Eq.trans rfl rfl
@[simp ↓] theorem qFX {i : Nat} : run P Γ (.exit i) Q s = Q (.exit i) s := Eq.trans rfl rfl
@[simp ↓] theorem qGn : run P Γ .ret Q s = Q .ret s := Eq.trans rfl rfl
@[simp ↓] theorem qFY : run P Γ .dead Q s = False := Eq.trans rfl rfl
@[simp ↓] theorem qEU {c : Prop} {r : AV} {K : AV → St → Prop} : Bo (some (c, r, s)) K ⟨⟩ = (c ∧ K r s) := Eq.trans rfl rfl
@[simp ↓] theorem qEV {K : AV → St → Prop} : Bo none K ⟨⟩ = False := Eq.trans rfl rfl
@[simp ↓] theorem qFZ {as : List AV} {K : List AV → Prop} : asK (some as) K ⟨⟩ = K as := Eq.trans rfl rfl
@[simp ↓] theorem qFa {f : FuncId} {cs : List AV} {K : FuncId → List AV → Prop} : fnK (some (f, cs)) K ⟨⟩ = K f cs := Eq.trans rfl rfl
@[simp ↓, simp] theorem qD8 {A B : Prop} : q1e (some (.t (.v (.bool true)))) A B ⟨⟩ ⟨⟩ = A := by simp [q1e]
@[simp ↓, simp] theorem qCA {A B : Prop} : q1e (some (.t (.v (.bool false)))) A B ⟨⟩ ⟨⟩ = B := by simp [q1e]
@[simp low] theorem qD9 {t : Bool} {A B : Prop} : q1e (some (.t (.v (.bool t)))) A B ⟨⟩ ⟨⟩ = ((t = true → Fh A ⟨⟩) ∧ (t = false → Fh B ⟨⟩)) := Eq.trans rfl rfl
@[simp ↓] theorem qDA {A B : Prop} : q2t (some true) A B ⟨⟩ ⟨⟩ = A := Eq.trans rfl rfl
@[simp ↓] theorem qCB {A B : Prop} : q2t (some false) A B ⟨⟩ ⟨⟩ = B := Eq.trans rfl rfl
@[simp ↓, simp] theorem qDB {K : St → Prop} : Ey P Γ [] s K ⟨⟩ = K s := Eq.trans rfl rfl
@[simp ↓, simp] theorem qDC {d : Nat}  {io : Ar} {ros : List RO} {K : St → Prop} :
  Ey P Γ (⟨some d, io, none, none⟩ :: ros) s K ⟨⟩ = Ai P Γ d io s fun q st1 => Ey P Γ ros ⟨(d, q) :: st1.env, st1.hp⟩ K ⟨⟩ := Eq.trans rfl rfl
@[simp ↓, simp] theorem qDD {d : Nat}  {r : Nat} {io : Ar} {ros : List RO} {K : St → Prop} :
  Ey P Γ (⟨some d, io, none, some r⟩ :: ros) s K ⟨⟩ = Ai P Γ r io s fun q st1 => Ey P Γ ros ⟨(d, q) :: st1.env, st1.hp⟩ K ⟨⟩ := Eq.trans rfl rfl
@[simp ↓, simp] theorem qDE {d : Nat} {g : Nat} {b : Bool} {io : Ar} {ros : List RO} {K : St → Prop} :
  Ey P Γ (⟨some d, io, some (g, b), none⟩ :: ros) s K ⟨⟩ = q2t (C9 s.env (some (g, b))) (Ai P Γ d io s fun q st1 => Ey P Γ ros ⟨(d, q) :: st1.env, st1.hp⟩ K ⟨⟩) (Ey P Γ ros ⟨(d, .un) :: s.env, s.hp⟩ K ⟨⟩) ⟨⟩ ⟨⟩ := Eq.trans rfl rfl
@[simp ↓, simp] theorem qDF {d : Nat} {g : Nat} {b : Bool} {r : Nat} {io : Ar} {ros : List RO} {K : St → Prop} :
  Ey P Γ (⟨some d, io, some (g, b), some r⟩ :: ros) s K ⟨⟩ = q2t (C9 s.env (some (g, b))) (Ai P Γ r io s fun q st1 => Ey P Γ ros ⟨(d, q) :: st1.env, st1.hp⟩ K ⟨⟩) (Ey P Γ ros ⟨(d, .un) :: s.env, s.hp⟩ K ⟨⟩) ⟨⟩ ⟨⟩ := Eq.trans rfl rfl
@[simp ↓, simp] theorem qDG   {io : Ar} {ros : List RO} {K : St → Prop} :
  Ey P Γ (⟨none, io, none, none⟩ :: ros) s K ⟨⟩ = Ai P Γ 0 io s fun q st1 => Ey P Γ ros st1 K ⟨⟩ := Eq.trans rfl rfl
@[simp ↓, simp] theorem qDH  {g : Nat} {b : Bool} {io : Ar} {ros : List RO} {K : St → Prop} :
  Ey P Γ (⟨none, io, some (g, b), none⟩ :: ros) s K ⟨⟩ = q2t (C9 s.env (some (g, b))) (Ai P Γ 0 io s fun q st1 => Ey P Γ ros st1 K ⟨⟩) (Ey P Γ ros s K ⟨⟩) ⟨⟩ ⟨⟩ := Eq.trans rfl rfl
@[simp ↓] theorem qBV {n : St → Prop} : B5 n Q .normal s = n s := Eq.trans rfl rfl
@[simp ↓] theorem qDI {n : St → Prop} {i : Nat} : B5 n Q (.exit i) s = Q (.exit i) s := Eq.trans rfl rfl
@[simp ↓] theorem qEW {n : St → Prop} : B5 n Q .ret s = Q .ret s := Eq.trans rfl rfl
@[simp ↓] theorem qB0 {id : Nat} : J5 id Q .normal s = Q .normal s := Eq.trans rfl rfl
@[simp ↓] theorem qCC {id i : Nat} : J5 id Q (.exit i) s = if i = id then Q .normal s else Q (.exit i) s := Eq.trans rfl rfl
@[simp ↓] theorem qDJ {id : Nat} : J5 id Q .ret s = Q .ret s := Eq.trans rfl rfl
@[simp ↓] theorem qGo : ghs [] s = s := Eq.trans rfl rfl
theorem Ec {g : Gh} {gs : List Gh} : ghs (g :: gs) s = ghs gs (g.run s) := rfl
@[simp ↓, simp] theorem qFb {g : Gh} {gs : List Gh} {e : List (Nat × AV)} {h : List (Nat × Ak)} : ghs (g :: gs) ⟨e, h⟩ = ghs gs (g.run ⟨e, h⟩) := Eq.trans rfl rfl
@[simp] theorem q2u {α : Type} {l : List (Nat × α)} : Lg.keep [] l = [] := Eq.trans rfl rfl
@[simp] theorem q0u {α : Type} {k : Nat} {ks : List Nat} {l : List (Nat × α)} : Lg.keep (k :: ks) l = match A2 l k with | some v => (k, v) :: Lg.keep ks l | none => Lg.keep ks l := by
 unfold Lg.keep
 rw [List.filterMap_cons]
 cases A2 l k <;> rfl
@[simp ↓] theorem qHO {d : Nat} {st : St} {x : Operand} : A6 Γ d (.mv x) st = (
   (ev Γ st.env x).map fun a => (True, a, st)) := Eq.trans rfl rfl
@[simp ↓] theorem qFc {d : Nat} {st : St} {K : AV → St → Prop} {x : Operand} : Ai P Γ d (.mv x) st K = Bo (A6 Γ d (.mv x) st) K ⟨⟩ := Eq.trans rfl rfl
@[simp ↓] theorem qFd {d : Nat} {st : St} {c : Operand} {a : Operand} {b : Operand} : A6 Γ d (.pick c a b) st = (
   match ev Γ st.env c, ev Γ st.env a, ev Γ st.env b with
    | some (.t (.v (.bool p))), some a, some b => some (True, Yq p a b, st)
    | _, _, _ => none) := Eq.trans rfl rfl
@[simp ↓] theorem qDK {d : Nat} {st : St} {K : AV → St → Prop} {c : Operand} {a : Operand} {b : Operand} : Ai P Γ d (.pick c a b) st K = Bo (A6 Γ d (.pick c a b) st) K ⟨⟩ := Eq.trans rfl rfl
@[simp ↓] theorem qEX {d : Nat} {st : St} {fz : Bool} {zs : List Value} : A6 Γ d (.alloc fz zs) st = (
  if fz then some (True, .t (.ip (zs.map Am) 0), st)
  else some (A2 st.hp d = none, .lp d 0 0, ⟨st.env, (d, .bx (zs.map fun z => .t (Am z))) :: st.hp⟩)) := Eq.trans rfl rfl
@[simp ↓] theorem qCD {d : Nat} {st : St} {K : AV → St → Prop} {fz : Bool} {zs : List Value} : Ai P Γ d (.alloc fz zs) st K = Bo (A6 Γ d (.alloc fz zs) st) K ⟨⟩ := Eq.trans rfl rfl
@[simp ↓] theorem qDL {d : Nat} {st : St} {ty : Nat} {zs : List Value} : A6 Γ d (.allocR ty zs) st = some (A2 st.hp d = none, .lp d 0 0, ⟨st.env, (d, .rs ty zs.length [zs.map fun z => .t (Am z)]) :: st.hp⟩) := Eq.trans rfl rfl
@[simp ↓] theorem qBW {d : Nat} {st : St} {K : AV → St → Prop} {ty : Nat} {zs : List Value} : Ai P Γ d (.allocR ty zs) st K = Bo (A6 Γ d (.allocR ty zs) st) K ⟨⟩ := Eq.trans rfl rfl
@[simp ↓] theorem qGp {d : Nat} {st : St} {fz : Bool} {x : Operand} : A6 Γ d (.box fz x) st = (
   (ev Γ st.env x).bind fun a =>
    if fz then (Hl a.cells).map fun ts => (Bf ts = true, .t (.ip ts 0), st)
    else some (A2 st.hp d = none ∧ Ao a.cells = true, .lp d 0 0, ⟨st.env, (d, .bx a.cells) :: st.hp⟩)) := Eq.trans rfl rfl
@[simp ↓] theorem qEY {d : Nat} {st : St} {K : AV → St → Prop} {fz : Bool} {x : Operand} : Ai P Γ d (.box fz x) st K = Bo (A6 Γ d (.box fz x) st) K ⟨⟩ := Eq.trans rfl rfl
@[simp ↓] theorem qEZ {d : Nat} {st : St} {parts : List (Nat × Operand)} : A6 Γ d (.build parts) st = (
   (Hk Γ st.env (parts.map (·.2))).map fun as => (as.map (·.cells.length) = parts.map (·.1) ∧ Ao (as.flatMap AV.cells) = true, .ag (as.flatMap AV.cells), st)) := Eq.trans rfl rfl
@[simp ↓] theorem qCE {d : Nat} {st : St} {K : AV → St → Prop} {parts : List (Nat × Operand)} : Ai P Γ d (.build parts) st K = Bo (A6 Γ d (.build parts) st) K ⟨⟩ := Eq.trans rfl rfl
@[simp ↓] theorem qGq {d : Nat} {st : St} {fz : Bool} {ty : Nat} {s : Nat} {parts : List Operand} : A6 Γ d (.bsl fz ty s parts) st = (
   (Hk Γ st.env parts).bind fun as => (Aa (as.map fun a => Hl a.cells)).map fun es =>
    if fz then ((∀ e ∈ es, e.length = s ∧ Bf e = true), .t (.sl es (some es.length) (some false)), st)
    else (A2 st.hp d = none ∧ (∀ e ∈ es, e.length = s ∧ Bf e = true), .ls d 0 es.length none, ⟨st.env, (d, .sl ty s es) :: st.hp⟩)) := Eq.trans rfl rfl
@[simp ↓] theorem qEa {d : Nat} {st : St} {K : AV → St → Prop} {fz : Bool} {ty : Nat} {s : Nat} {parts : List Operand} : Ai P Γ d (.bsl fz ty s parts) st K = Bo (A6 Γ d (.bsl fz ty s parts) st) K ⟨⟩ := Eq.trans rfl rfl
@[simp ↓] theorem qFe {d : Nat} {st : St} {n : Nat} {g : Bool} {a : Operand} : A6 Γ d (.load n g a) st = (
   match ev Γ st.env a with
    | some (.t (.ip cs k)) => some (k + n ≤ cs.length, .t (H8 g ((cs.drop k).take n)), st)
    | some (.lp id i k) => match A2 st.hp id with
      | some (.sl _ s es) => some (i < es.length ∧ k + n ≤ s, .t (H8 g (((es.getD i []).drop k).take n)), st)
      | some (.rs _ s es) => some (i < es.length ∧ k + n ≤ s, I8 g (((es.getD i []).drop k).take n), st)
      | some (.bx cs) => some (i = 0 ∧ k + n ≤ cs.length, I8 g ((cs.drop k).take n), st)
      | _ => none
    | _ => none) := Eq.trans rfl rfl
@[simp ↓] theorem qDM {d : Nat} {st : St} {K : AV → St → Prop} {n : Nat} {g : Bool} {a : Operand} : Ai P Γ d (.load n g a) st K = Bo (A6 Γ d (.load n g a) st) K ⟨⟩ := Eq.trans rfl rfl
@[simp ↓] theorem qEb {d : Nat} {st : St} {n : Nat} {a : Operand} {x : Operand} : A6 Γ d (.store n a x) st = (
   (ev Γ st.env x).bind fun v => match ev Γ st.env a with
    | some (.lp id i k) => match A2 st.hp id with
      | some (.sl ty s es) => (Hl v.cells).map fun ts =>
        (i < es.length ∧ k + n ≤ s ∧ ts.length = n ∧ Bf ts = true, .un,
          ⟨st.env, Ba id (.sl ty s (es.set i (if k = 0 ∧ n = s then ts else (es.getD i []).take k ++ ts ++ (es.getD i []).drop (k + n)))) st.hp⟩)
      | some (.rs ty s es) => some (i < es.length ∧ k + n ≤ s ∧ v.cells.length = n ∧ Ao v.cells = true, .un,
          ⟨st.env, Ba id (.rs ty s (es.set i (if k = 0 ∧ n = s then v.cells else (es.getD i []).take k ++ v.cells ++ (es.getD i []).drop (k + n)))) st.hp⟩)
      | some (.bx cs) => some (i = 0 ∧ k + n ≤ cs.length ∧ v.cells.length = n ∧ Ao v.cells = true, .un, ⟨st.env, Ba id (.bx (cs.take k ++ v.cells ++ cs.drop (k + n))) st.hp⟩)
      | _ => none
    | _ => none) := Eq.trans rfl rfl
@[simp ↓] theorem qCF {d : Nat} {st : St} {K : AV → St → Prop} {n : Nat} {a : Operand} {x : Operand} : Ai P Γ d (.store n a x) st K = Bo (A6 Γ d (.store n a x) st) K ⟨⟩ := Eq.trans rfl rfl
@[simp ↓] theorem qFf {d : Nat} {st : St} {off : Nat} {a : Operand} : A6 Γ d (.fadr off a) st = (
   match ev Γ st.env a with
    | some (.t (.ip cs k)) => some (True, .t (.ip cs (k + off)), st)
    | some (.lp id i k) => some (True, .lp id i (k + off), st)
    | _ => none) := Eq.trans rfl rfl
@[simp ↓] theorem qDN {d : Nat} {st : St} {K : AV → St → Prop} {off : Nat} {a : Operand} : Ai P Γ d (.fadr off a) st K = Bo (A6 Γ d (.fadr off a) st) K ⟨⟩ := Eq.trans rfl rfl
@[simp ↓] theorem qGr {d : Nat} {st : St} {off : Nat} {n : Nat} {g : Bool} {x : Operand} : A6 Γ d (.fld off n g x) st = (
   (ev Γ st.env x).bind fun a => match a with
    | .ag cs => some (off + n ≤ cs.length, I8 g ((cs.drop off).take n), st)
    | .t (.agg ts) => some (off + n ≤ ts.length, .t (H8 g ((ts.drop off).take n)), st)
    | _ => none) := Eq.trans rfl rfl
@[simp ↓] theorem qEc {d : Nat} {st : St} {K : AV → St → Prop} {off : Nat} {n : Nat} {g : Bool} {x : Operand} : Ai P Γ d (.fld off n g x) st K = Bo (A6 Γ d (.fld off n g x) st) K ⟨⟩ := Eq.trans rfl rfl
@[simp ↓] theorem qFg {d : Nat} {st : St} {s : Nat} {x : Operand} {i : Operand} : A6 Γ d (.iadr s x i) st = (
   match ev Γ st.env x, ev Γ st.env i with
    | some (.t (.sl es _ _)), some (.t (.v (.int _ n))) => some (0 ≤ n ∧ n < es.length ∧ Gk s es, .t (.ip (es.getD n.toNat []) 0), st)
    | some (.ls id off len _), some (.t (.v (.int _ n))) => match A2 st.hp id with
      | some (.sl _ q _) => some (q = s ∧ 0 ≤ n ∧ n < len, .lp id (off + n.toNat) 0, st)
      | some (.rs _ q _) => some (q = s ∧ 0 ≤ n ∧ n < len, .lp id (off + n.toNat) 0, st)
      | _ => none
    | some (.lb id m), some (.t (.v (.int _ n))) => match A2 st.hp id with
      | some (.bx _) => some (s = 1 ∧ 0 ≤ n ∧ n < m, .lp id 0 n.toNat, st)
      | _ => none
    | _, _ => none) := Eq.trans rfl rfl
@[simp ↓] theorem qDO {d : Nat} {st : St} {K : AV → St → Prop} {s : Nat} {x : Operand} {i : Operand} : Ai P Γ d (.iadr s x i) st K = Bo (A6 Γ d (.iadr s x i) st) K ⟨⟩ := Eq.trans rfl rfl
@[simp ↓] theorem qFh {d : Nat} {st : St} {s : Nat} {x : Operand} {i : Operand} : A6 Γ d (.iadT s x i) st = (
   match ev Γ st.env x, ev Γ st.env i with
    | some (.t (.sl es _ _)), some (.t (.v (.int _ n))) => some (0 ≤ n ∧ n < es.length ∧ Gk s es, .t (.ip (es.getD n.toNat []) 0), st)
    | _, _ => none) := Eq.trans rfl rfl
@[simp ↓] theorem qDP {d : Nat} {st : St} {K : AV → St → Prop} {s : Nat} {x : Operand} {i : Operand} : Ai P Γ d (.iadT s x i) st K = Bo (A6 Γ d (.iadT s x i) st) K ⟨⟩ := Eq.trans rfl rfl
@[simp ↓] theorem qEd {d : Nat} {st : St} {len : Nat} {s : Nat} {x : Operand} {i : Operand} : A6 Γ d (.iadrA len s x i) st = (
   match ev Γ st.env x, ev Γ st.env i with
    | some (.t (.ip cs k)), some (.t (.v (.int _ n))) => some (0 ≤ n ∧ n < len, .t (.ip cs (k + n.toNat * s)), st)
    | some (.lp id j k), some (.t (.v (.int _ n))) => some (0 ≤ n ∧ n < len, .lp id j (k + n.toNat * s), st)
    | _, _ => none) := Eq.trans rfl rfl
@[simp ↓] theorem qCG {d : Nat} {st : St} {K : AV → St → Prop} {len : Nat} {s : Nat} {x : Operand} {i : Operand} : Ai P Γ d (.iadrA len s x i) st K = Bo (A6 Γ d (.iadrA len s x i) st) K ⟨⟩ := Eq.trans rfl rfl
@[simp ↓] theorem qFi {d : Nat} {st : St} {x : Operand} {i : Operand} : A6 Γ d (.idxS x i) st = (
   match ev Γ st.env x, ev Γ st.env i with
    | some (.t (.v (.string s))), some (.t (.v (.int _ n))) => some (0 ≤ n ∧ n < s.size, .t (.v (.int .u8 (s.data.getD n.toNat 0).toNat)), st)
    | _, _ => none) := Eq.trans rfl rfl
@[simp ↓] theorem qDQ {d : Nat} {st : St} {K : AV → St → Prop} {x : Operand} {i : Operand} : Ai P Γ d (.idxS x i) st K = Bo (A6 Γ d (.idxS x i) st) K ⟨⟩ := Eq.trans rfl rfl
@[simp ↓] theorem qFj {d : Nat} {st : St} {len : Nat} {s : Nat} {g : Bool} {x : Operand} {i : Operand} : A6 Γ d (.idxA len s g x i) st = (
   match ev Γ st.env x, ev Γ st.env i with
    | some (.t (.agg ts)), some (.t (.v (.int _ n))) => some (0 ≤ n ∧ n < len ∧ n.toNat * s + s ≤ ts.length, .t (H8 g ((ts.drop (n.toNat * s)).take s)), st)
    | some (.ag cs), some (.t (.v (.int _ n))) => some (0 ≤ n ∧ n < len ∧ n.toNat * s + s ≤ cs.length, I8 g ((cs.drop (n.toNat * s)).take s), st)
    | _, _ => none) := Eq.trans rfl rfl
@[simp ↓] theorem qDR {d : Nat} {st : St} {K : AV → St → Prop} {len : Nat} {s : Nat} {g : Bool} {x : Operand} {i : Operand} : Ai P Γ d (.idxA len s g x i) st K = Bo (A6 Γ d (.idxA len s g x i) st) K ⟨⟩ := Eq.trans rfl rfl
@[simp ↓] theorem qGs {d : Nat} {st : St} {op : BinOp} {x : Operand} {y : Operand} : A6 Γ d (.bin op x y) st = (
   match ev Γ st.env x, ev Γ st.env y with
    | some (.t (.v a)), some (.t (.v b)) => (Vx op a b).map fun r => (r.1, .t (.v r.2), st)
    | _, _ => none) := Eq.trans rfl rfl
@[simp ↓] theorem qEe {d : Nat} {st : St} {K : AV → St → Prop} {op : BinOp} {x : Operand} {y : Operand} : Ai P Γ d (.bin op x y) st K = Bo (A6 Γ d (.bin op x y) st) K ⟨⟩ := Eq.trans rfl rfl
@[simp ↓] theorem qEf {d : Nat} {st : St} {pos : Bool} {x : Operand} : A6 Γ d (.isNil pos x) st = (
   match ev Γ st.env x with
    | some (.t (.sl es _ nl)) => match nl with
      | some q => some (True, .t (.v (.bool (q == pos))), st)
      | none => some (es ≠ [], .t (.v (.bool (!pos))), st)
    | _ => none) := Eq.trans rfl rfl
@[simp ↓] theorem qCH {d : Nat} {st : St} {K : AV → St → Prop} {pos : Bool} {x : Operand} : Ai P Γ d (.isNil pos x) st K = Bo (A6 Γ d (.isNil pos x) st) K ⟨⟩ := Eq.trans rfl rfl
@[simp ↓] theorem qGt {d : Nat} {st : St} {pos : Bool} {x : Operand} {y : Operand} : A6 Γ d (.eqb pos x y) st = (
   match ev Γ st.env x, ev Γ st.env y with
    | some (.t (.v (.bool a))), some (.t (.v (.bool b))) => some (True, .t (.v (.bool (if pos then a == b else a != b))), st)
    | _, _ => none) := Eq.trans rfl rfl
@[simp ↓] theorem qEg {d : Nat} {st : St} {K : AV → St → Prop} {pos : Bool} {x : Operand} {y : Operand} : Ai P Γ d (.eqb pos x y) st K = Bo (A6 Γ d (.eqb pos x y) st) K ⟨⟩ := Eq.trans rfl rfl
@[simp ↓] theorem qGu {d : Nat} {st : St} {pos : Bool} {ks : List (Option IntKind)} {x : Operand} {y : Operand} : A6 Γ d (.eqg pos ks x y) st = (
   ((ev Γ st.env x).bind q4k).bind fun as => ((ev Γ st.env y).bind q4k).map fun bs => (Vs ks as ∧ Vs ks bs, .t (.v (.bool (if pos then Xu as bs else !Xu as bs))), st)) := Eq.trans rfl rfl
@[simp ↓] theorem qEh {d : Nat} {st : St} {K : AV → St → Prop} {pos : Bool} {ks : List (Option IntKind)} {x : Operand} {y : Operand} : Ai P Γ d (.eqg pos ks x y) st K = Bo (A6 Γ d (.eqg pos ks x y) st) K ⟨⟩ := Eq.trans rfl rfl
@[simp ↓] theorem qHP {d : Nat} {st : St} {op : UnOp} {x : Operand} : A6 Γ d (.un op x) st = (
   match ev Γ st.env x with
    | some (.t (.v a)) => (unV op a).map fun r => (True, .t (.v r), st)
    | _ => none) := Eq.trans rfl rfl
@[simp ↓] theorem qFk {d : Nat} {st : St} {K : AV → St → Prop} {op : UnOp} {x : Operand} : Ai P Γ d (.un op x) st K = Bo (A6 Γ d (.un op x) st) K ⟨⟩ := Eq.trans rfl rfl
@[simp ↓] theorem qFl {d : Nat} {st : St} {k : IntKind} {x : Operand} : A6 Γ d (.conv k x) st = (
   match ev Γ st.env x with
    | some (.t (.v (.int _ n))) => some (True, .t (.v (.int k (k.wrap n))), st)
    | _ => none) := Eq.trans rfl rfl
@[simp ↓] theorem qDS {d : Nat} {st : St} {K : AV → St → Prop} {k : IntKind} {x : Operand} : Ai P Γ d (.conv k x) st K = Bo (A6 Γ d (.conv k x) st) K ⟨⟩ := Eq.trans rfl rfl
@[simp ↓] theorem qBX {d : Nat} {st : St} {x : Operand} : A6 Γ d (.bytesStr x) st = (
   ((ev Γ st.env x).bind (As st.hp)).bind fun es => (Qn es).map fun bs => (True, .t (.v (.string ⟨bs.toArray⟩)), st)) := Eq.trans rfl rfl
@[simp ↓] theorem q9l {d : Nat} {st : St} {K : AV → St → Prop} {x : Operand} : Ai P Γ d (.bytesStr x) st K = Bo (A6 Γ d (.bytesStr x) st) K ⟨⟩ := Eq.trans rfl rfl
@[simp ↓] theorem qCI {d : Nat} {st : St} {x : Operand} : A6 Γ d (.runeStr x) st = (
   match ev Γ st.env x with
    | some (.t (.v (.int _ n))) => some (True, .t (.v (.string (Utf8.encode n))), st)
    | _ => none) := Eq.trans rfl rfl
@[simp ↓] theorem qB1 {d : Nat} {st : St} {K : AV → St → Prop} {x : Operand} : Ai P Γ d (.runeStr x) st K = Bo (A6 Γ d (.runeStr x) st) K ⟨⟩ := Eq.trans rfl rfl
@[simp ↓] theorem qGv {d : Nat} {st : St} {k : Nat} {x : Operand} : A6 Γ d (.len k x) st = (
   (ev Γ st.env x).bind fun a => if q8K k a then (lenOf st.hp a).map fun (n : Nat) => (True, .t (.v (.int .i64 (n : Int))), st) else none) := Eq.trans rfl rfl
@[simp ↓] theorem qEi {d : Nat} {st : St} {K : AV → St → Prop} {k : Nat} {x : Operand} : Ai P Γ d (.len k x) st K = Bo (A6 Γ d (.len k x) st) K ⟨⟩ := Eq.trans rfl rfl
@[simp ↓] theorem qGw {d : Nat} {st : St} {x : Operand} : A6 Γ d (.cap x) st = (
   match ev Γ st.env x with
    | some (.t (.sl _ (some c) _)) => some (True, .t (.v (.int .i64 c)), st)
    | some (.ls _ _ _ (some c)) => some (True, .t (.v (.int .i64 c)), st)
    | _ => none) := Eq.trans rfl rfl
@[simp ↓] theorem qEj {d : Nat} {st : St} {K : AV → St → Prop} {x : Operand} : Ai P Γ d (.cap x) st K = Bo (A6 Γ d (.cap x) st) K ⟨⟩ := Eq.trans rfl rfl
@[simp ↓] theorem qGx {d : Nat} {st : St} {mx : Bool} {xs : List Operand} : A6 Γ d (.mmx mx xs) st = (
   (Hk Γ st.env xs).bind fun as => (Rr mx as none).map fun r => (F3 r.1 as = true, .t (.v (.int r.1 r.2)), st)) := Eq.trans rfl rfl
@[simp ↓] theorem qEk {d : Nat} {st : St} {K : AV → St → Prop} {mx : Bool} {xs : List Operand} : Ai P Γ d (.mmx mx xs) st K = Bo (A6 Γ d (.mmx mx xs) st) K ⟨⟩ := Eq.trans rfl rfl
@[simp ↓] theorem qGy {d : Nat} {st : St} {fz : Bool} {ty : Nat} {s : Nat} {b : Operand} {x : Operand} : A6 Γ d (.app fz ty s b x) st = (
   ((ev Γ st.env x).bind (As st.hp)).bind fun news => (ev Γ st.env b).bind fun a =>
    let fin (c0 : Prop) (es : List (List T)) (st' : St) : Option (Prop × AV × St) :=
      let c : Prop := Gk s news ∧ c0
      if fz then some (c, .t (.sl es none none), st')
      else some (c ∧ A2 st'.hp d = none, .ls d 0 es.length none, ⟨st'.env, (d, .sl ty s es) :: st'.hp⟩)
    match a with
    | .t (.sl es (some c) _) => fin (Gk s es ∧ c = es.length ∧ es.length + news.length ≤ 2147483648 ∧ (fz = true ∨ news ≠ [] ∨ es = [])) (es ++ news) st
    | .ls id off len (some c) => match A2 st.hp id with
      | some (.sl t q es) => fin (t = ty ∧ q = s ∧ c = len ∧ len + news.length ≤ 2147483648 ∧ (news ≠ [] ∨ len = 0)) ((es.drop off).take len ++ news) st
      | _ => none
    | .ls id 0 len none => match A2 st.hp id with
      | some (.sl t q es) => fin (t = ty ∧ q = s ∧ len + news.length ≤ 2147483648) (es.take len ++ news) (st.kill id)
      | _ => none
    | _ => none) := Eq.trans rfl rfl
@[simp ↓] theorem qEl {d : Nat} {st : St} {K : AV → St → Prop} {fz : Bool} {ty : Nat} {s : Nat} {b : Operand} {x : Operand} : Ai P Γ d (.app fz ty s b x) st K = Bo (A6 Γ d (.app fz ty s b x) st) K ⟨⟩ := Eq.trans rfl rfl
@[simp ↓] theorem qFm {d : Nat} {st : St} {u0 : Nat} {s : Nat} {b : Operand} {x : Operand} : A6 Γ d (.appT u0 s b x) st = (
   ((ev Γ st.env x).bind (As st.hp)).bind fun news => match ev Γ st.env b with
    | some (.t (.sl es (some c) _)) => some (Gk s news ∧ Gk s es ∧ c = es.length ∧ es.length + news.length ≤ 2147483648, .t (.sl (es ++ news) none none), st)
    | _ => none) := Eq.trans rfl rfl
@[simp ↓] theorem qDT {d : Nat} {st : St} {K : AV → St → Prop} {u0 : Nat} {s : Nat} {b : Operand} {x : Operand} : Ai P Γ d (.appT u0 s b x) st K = Bo (A6 Γ d (.appT u0 s b x) st) K ⟨⟩ := Eq.trans rfl rfl
@[simp ↓] theorem qFn {d : Nat} {st : St} {b : Operand} {x : Operand} : A6 Γ d (.appB b x) st = (
   ((ev Γ st.env x).bind (As st.hp)).bind fun news => match ev Γ st.env b with
    | some (.t (.sl es (some c) _)) => some (Gk 1 news ∧ Gk 1 es ∧ c = es.length ∧ es.length + news.length ≤ 140737488355328, .t (.sl (es ++ news) none none), st)
    | _ => none) := Eq.trans rfl rfl
@[simp ↓] theorem qDU {d : Nat} {st : St} {K : AV → St → Prop} {b : Operand} {x : Operand} : Ai P Γ d (.appB b x) st K = Bo (A6 Γ d (.appB b x) st) K ⟨⟩ := Eq.trans rfl rfl
@[simp ↓] theorem qFo {d : Nat} {st : St} {fz : Bool} {i ty : Nat} {b : Operand} {x : Operand} : A6 Γ d (.appR fz i ty b x) st = (
   match ev Γ st.env x, ev Γ st.env b with
    | some (.t (.sl news _ _)), some (.ls id 0 len none) => match A2 st.hp i with
      | some (.sl t q es) =>
        if fz then some (id = i ∧ Gk 1 news ∧ t = ty ∧ q = 1 ∧ len + news.length ≤ 140737488355328, .t (.sl (es.take len ++ news) none none), st.kill i)
        else some ((id = i ∧ Gk 1 news ∧ t = ty ∧ q = 1 ∧ len + news.length ≤ 140737488355328) ∧ A2 (st.kill i).hp d = none, .ls d 0 (es.take len ++ news).length none, ⟨(st.kill i).env, (d, .sl ty 1 (es.take len ++ news)) :: (st.kill i).hp⟩)
      | _ => none
    | _, _ => none) := Eq.trans rfl rfl
@[simp ↓] theorem qDV {d : Nat} {st : St} {K : AV → St → Prop} {fz : Bool} {i ty : Nat} {b : Operand} {x : Operand} : Ai P Γ d (.appR fz i ty b x) st K = Bo (A6 Γ d (.appR fz i ty b x) st) K ⟨⟩ := Eq.trans rfl rfl
@[simp ↓] theorem qFp {d : Nat} {st : St} {ty : Nat} {s : Nat} {zs : List Value} {b : Operand} {n : Operand} : A6 Γ d (.appZ ty s zs b n) st = (
   match ev Γ st.env b, ev Γ st.env n with
    | some (.t (.sl es (some q) _)), some (.t (.v (.int _ m))) =>
      some (A2 st.hp d = none ∧ 0 < m ∧ (Gk s es ∧ (q : Int) < es.length + m) ∧ es.length + m ≤ 2147483648, .ls d 0 (es.length + m.toNat) none, ⟨st.env, (d, .sl ty s (es ++ List.replicate m.toNat (zs.map Am))) :: st.hp⟩)
    | _, _ => none) := Eq.trans rfl rfl
@[simp ↓] theorem qDW {d : Nat} {st : St} {K : AV → St → Prop} {ty : Nat} {s : Nat} {zs : List Value} {b : Operand} {n : Operand} : Ai P Γ d (.appZ ty s zs b n) st K = Bo (A6 Γ d (.appZ ty s zs b n) st) K ⟨⟩ := Eq.trans rfl rfl
@[simp ↓] theorem qFq {d : Nat} {st : St} {ty s : Nat} {x : Operand} : A6 Γ d (.appN ty s x) st = (
   match ev Γ st.env x with
    | some (.t (.sl es _ _)) => some (A2 st.hp d = none ∧ Gk s es ∧ es.length ≤ 2147483648, .ls d 0 es.length none, ⟨st.env, (d, .sl ty s es) :: st.hp⟩)
    | _ => none) := Eq.trans rfl rfl
@[simp ↓] theorem qDX {d : Nat} {st : St} {K : AV → St → Prop} {ty s : Nat} {x : Operand} : Ai P Γ d (.appN ty s x) st K = Bo (A6 Γ d (.appN ty s x) st) K ⟨⟩ := Eq.trans rfl rfl
@[simp ↓] theorem qGz {d : Nat} {st : St} {s : Nat} {x y : Operand} : A6 Γ d (.cpy s x y) st = (
   match ev Γ st.env x with
    | some (.ls id off len _) => match A2 st.hp id with
      | some (.sl ty q es) => ((ev Γ st.env y).bind (As st.hp)).map fun news =>
        (q = s ∧ Gk s news, .t (.v (.int .i64 (min len news.length : Nat))), ⟨st.env, Ba id (.sl ty s (es.take off ++ news.take (min len news.length) ++ es.drop (off + min len news.length))) st.hp⟩)
      | _ => none
    | _ => none) := Eq.trans rfl rfl
@[simp ↓] theorem qEm {d : Nat} {st : St} {K : AV → St → Prop} {s : Nat} {x y : Operand} : Ai P Γ d (.cpy s x y) st K = Bo (A6 Γ d (.cpy s x y) st) K ⟨⟩ := Eq.trans rfl rfl
@[simp ↓] theorem qEn {d : Nat} {st : St} {s : Nat} {x : Operand} {lo : Option Operand} {hi : Option Operand} {mx : Option Operand} : A6 Γ d (.slice s x lo hi mx) st = (
   (ev Γ st.env x).bind fun a =>
    match a with
    | .t (.v (.string b)) => (E8 Γ st.env lo 0).bind fun l => (E8 Γ st.env hi b.size).map fun h => (s = 0 ∧ l.1 ∧ h.1 ∧ l.2 ≤ h.2 ∧ h.2 ≤ b.size, .t (.v (.string (b.extract l.2 h.2))), st)
    | .t (.sl es cap nl) => (E8 Γ st.env lo 0).bind fun l => (E8 Γ st.env hi es.length).bind fun h => match mx with
      | none => some (s ≠ 0 ∧ Gk s es ∧ l.1 ∧ h.1 ∧ l.2 ≤ h.2 ∧ h.2 ≤ es.length, .t (.sl ((es.drop l.2).take (h.2 - l.2)) (cap.map (· - l.2)) nl), st)
      | some _ => (E8 Γ st.env mx 0).map fun m => (s ≠ 0 ∧ Gk s es ∧ l.1 ∧ h.1 ∧ m.1 ∧ l.2 ≤ h.2 ∧ h.2 ≤ m.2 ∧ m.2 ≤ es.length, .t (.sl ((es.drop l.2).take (h.2 - l.2)) (some (m.2 - l.2)) nl), st)
    | .ls id off len cap => (E8 Γ st.env lo 0).bind fun l => (E8 Γ st.env hi len).bind fun h => match A2 st.hp id with
     | some (.sl _ q _) => match mx with
      | none => some (s ≠ 0 ∧ q = s ∧ l.1 ∧ h.1 ∧ l.2 ≤ h.2 ∧ h.2 ≤ len, .ls id (off + l.2) (h.2 - l.2) (cap.map (· - l.2)), st)
      | some _ => (E8 Γ st.env mx 0).map fun m => (s ≠ 0 ∧ q = s ∧ l.1 ∧ h.1 ∧ m.1 ∧ l.2 ≤ h.2 ∧ h.2 ≤ m.2 ∧ m.2 ≤ len, .ls id (off + l.2) (h.2 - l.2) (some (m.2 - l.2)), st)
     | _ => none
    | _ => none) := Eq.trans rfl rfl
@[simp ↓] theorem qCJ {d : Nat} {st : St} {K : AV → St → Prop} {s : Nat} {x : Operand} {lo : Option Operand} {hi : Option Operand} {mx : Option Operand} : Ai P Γ d (.slice s x lo hi mx) st K = Bo (A6 Γ d (.slice s x lo hi mx) st) K ⟨⟩ := Eq.trans rfl rfl
@[simp ↓] theorem qHQ {d : Nat} {st : St} {ty : Nat} {s : Nat} {zs : List Value} {l : Operand} {c : Operand} : A6 Γ d (.mk ty s zs l c) st = (
   match ev Γ st.env l, ev Γ st.env c with
    | some (.t (.v (.int _ n))), some (.t (.v (.int _ m))) =>
      some (A2 st.hp d = none ∧ 0 ≤ n ∧ n ≤ m ∧ m ≤ 2147483648, .ls d 0 n.toNat none, ⟨st.env, (d, .sl ty s (List.replicate n.toNat (zs.map Am))) :: st.hp⟩)
    | _, _ => none) := Eq.trans rfl rfl
@[simp ↓] theorem qFr {d : Nat} {st : St} {K : AV → St → Prop} {ty : Nat} {s : Nat} {zs : List Value} {l : Operand} {c : Operand} : Ai P Γ d (.mk ty s zs l c) st K = Bo (A6 Γ d (.mk ty s zs l c) st) K ⟨⟩ := Eq.trans rfl rfl
@[simp ↓] theorem qH0 {d : Nat} {st : St} {f : FuncId} {caps : List Operand} : A6 Γ d (.mkf f caps) st = (
   (Hk Γ st.env caps).map fun as => (Ao as = true, (match Hl as with | some ts => .t (.fn f ts) | none => .fn f as), st)) := Eq.trans rfl rfl
@[simp ↓] theorem qEo {d : Nat} {st : St} {K : AV → St → Prop} {f : FuncId} {caps : List Operand} : Ai P Γ d (.mkf f caps) st K = Bo (A6 Γ d (.mkf f caps) st) K ⟨⟩ := Eq.trans rfl rfl
@[simp ↓] theorem qFs {d : Nat} {st : St} {f : FuncId} {caps : List Operand} : A6 Γ d (.mkfB f caps) st = (
   (Hk Γ st.env caps).map fun as => (Ao as = true, .fn (f + 1000000000) as, st)) := Eq.trans rfl rfl
@[simp ↓] theorem qDY {d : Nat} {st : St} {K : AV → St → Prop} {f : FuncId} {caps : List Operand} : Ai P Γ d (.mkfB f caps) st K = Bo (A6 Γ d (.mkfB f caps) st) K ⟨⟩ := Eq.trans rfl rfl
@[simp ↓] theorem qH1 {d : Nat} {st : St} {x : Operand} {i : Nat} : A6 Γ d (.ext x i) st = (
   match ev Γ st.env x with
    | some (.t (.tup vs)) => (vs[i]?).map fun t => (True, .t t, st)
    | some (.tu vs) => (vs[i]?).map fun t => (True, t, st)
    | _ => none) := Eq.trans rfl rfl
@[simp ↓] theorem qEp {d : Nat} {st : St} {K : AV → St → Prop} {x : Operand} {i : Nat} : Ai P Γ d (.ext x i) st K = Bo (A6 Γ d (.ext x i) st) K ⟨⟩ := Eq.trans rfl rfl
@[simp ↓] theorem qH2 {d : Nat} {st : St} {x : Operand} : A6 Γ d (.nck x) st = (
   match ev Γ st.env x with
    | some (.t (.ip cs k)) => some (True, .t (.ip cs k), st)
    | some (.lp id i k) => some (True, .lp id i k, st)
    | some (.t (.fn f cs)) => some (True, .t (.fn f cs), st)
    | some (.fn f cs) => some (True, .fn f cs, st)
    | _ => none) := Eq.trans rfl rfl
@[simp ↓] theorem qEq {d : Nat} {st : St} {K : AV → St → Prop} {x : Operand} : Ai P Γ d (.nck x) st K = Bo (A6 Γ d (.nck x) st) K ⟨⟩ := Eq.trans rfl rfl
@[simp ↓] theorem qEr {d : Nat} {st : St}  : A6 Γ d (.mkmap ) st = (
   some (A2 st.hp d = none, .lm d, ⟨st.env, (d, .mp []) :: st.hp⟩)) := Eq.trans rfl rfl
@[simp ↓] theorem qCK {d : Nat} {st : St} {K : AV → St → Prop}  : Ai P Γ d (.mkmap ) st K = Bo (A6 Γ d (.mkmap ) st) K ⟨⟩ := Eq.trans rfl rfl
@[simp ↓] theorem qH3 {d : Nat} {st : St} {u0 : Nat} {zs : List Value} {l : Operand} {c : Operand} : A6 Γ d (.mkB u0 zs l c) st = (
   match ev Γ st.env l, ev Γ st.env c with
    | some (.t (.v (.int _ n))), some (.t (.v (.int _ m))) =>
      some (A2 st.hp d = none ∧ 0 ≤ n ∧ n = m ∧ m ≤ 2147483648, .lb d n.toNat, ⟨st.env, (d, .bx (List.replicate n.toNat (.t (Am (zs.headD undef))))) :: st.hp⟩)
    | _, _ => none) := Eq.trans rfl rfl
@[simp ↓] theorem qEs {d : Nat} {st : St} {K : AV → St → Prop} {u0 : Nat} {zs : List Value} {l : Operand} {c : Operand} : Ai P Γ d (.mkB u0 zs l c) st K = Bo (A6 Γ d (.mkB u0 zs l c) st) K ⟨⟩ := Eq.trans rfl rfl
@[simp ↓] theorem qH4 {d : Nat} {st : St} {ty : Nat} {s : Nat} {zs : List Value} {l : Operand} {c : Operand} : A6 Γ d (.mkE ty s zs l c) st = (
   match ev Γ st.env l, ev Γ st.env c with
    | some (.t (.v (.int _ n))), some (.t (.v (.int _ m))) =>
      some (A2 st.hp d = none ∧ 0 ≤ n ∧ n ≤ m ∧ m ≤ 2147483648, .ls d 0 n.toNat (some m.toNat), ⟨st.env, (d, .sl ty s (List.replicate n.toNat (zs.map Am))) :: st.hp⟩)
    | _, _ => none) := Eq.trans rfl rfl
@[simp ↓] theorem qEt {d : Nat} {st : St} {K : AV → St → Prop} {ty : Nat} {s : Nat} {zs : List Value} {l : Operand} {c : Operand} : Ai P Γ d (.mkE ty s zs l c) st K = Bo (A6 Γ d (.mkE ty s zs l c) st) K ⟨⟩ := Eq.trans rfl rfl
@[simp ↓] theorem qH5 {d : Nat} {st : St} {x : Operand} : A6 Γ d (.rng x) st = (
   match ev Γ st.env x with
    | some (.t (.v (.string s))) => some (A2 st.hp d = none, .li d, ⟨st.env, (d, .it s 0) :: st.hp⟩)
    | _ => none) := Eq.trans rfl rfl
@[simp ↓] theorem qEu {d : Nat} {st : St} {K : AV → St → Prop} {x : Operand} : Ai P Γ d (.rng x) st K = Bo (A6 Γ d (.rng x) st) K ⟨⟩ := Eq.trans rfl rfl
@[simp ↓] theorem qH6 {d : Nat} {st : St} {x : Operand} : A6 Γ d (.nxt x) st = (
   match ev Γ st.env x with
    | some (.li id) => match A2 st.hp id with
      | some (.it s pos) => if pos < s.size then some (True, .t (.tup [.v (.bool true), .v (.int .i64 pos), .v (.int .i32 (Utf8.decode s pos).1)]), ⟨st.env, Ba id (.it s (pos + (Utf8.decode s pos).2)) st.hp⟩)
        else some (True, .t (.tup [.v (.bool false)]), st)
      | _ => none
    | _ => none) := Eq.trans rfl rfl
@[simp ↓] theorem qEv {d : Nat} {st : St} {K : AV → St → Prop} {x : Operand} : Ai P Γ d (.nxt x) st K = Bo (A6 Γ d (.nxt x) st) K ⟨⟩ := Eq.trans rfl rfl
@[simp ↓] theorem qFt {d : Nat} {st : St} {kt : KT} {zv : Value} {ok : Bool} {m : Operand} {k : Operand} : A6 Γ d (.lkup kt zv ok m k) st = (
   match ev Γ st.env k with
    | some (.t (.v kv)) =>
      let out (es : List (Value × T)) : Prop × AV × St :=
        (kt.fits kv = true ∧ Iy kt es, if ok then .t (.tup [(Ed kv es).getD (Gp zv), .v (.bool (Ed kv es).isSome)]) else .t ((Ed kv es).getD (Gp zv)), st)
      match ev Γ st.env m with
      | some (.t (.mp es)) => some (out es)
      | some (.lm id) => match A2 st.hp id with
        | some (.mp es) => some (out es)
        | _ => none
      | _ => none
    | _ => none) := Eq.trans rfl rfl
@[simp ↓] theorem qDZ {d : Nat} {st : St} {K : AV → St → Prop} {kt : KT} {zv : Value} {ok : Bool} {m : Operand} {k : Operand} : Ai P Γ d (.lkup kt zv ok m k) st K = Bo (A6 Γ d (.lkup kt zv ok m k) st) K ⟨⟩ := Eq.trans rfl rfl
@[simp ↓] theorem qH7 {d : Nat} {st : St} {kt : KT} {m : Operand} {k : Operand} {x : Operand} : A6 Γ d (.mup kt m k x) st = (
   match ev Γ st.env k, ev Γ st.env m with
    | some (.t (.v kv)), some (.lm id) => match A2 st.hp id with
      | some (.mp es) => ((ev Γ st.env x).bind toT).map fun t => (kt.fits kv = true ∧ Iy kt es, .un, ⟨st.env, Ba id (.mp (q0e kv t es)) st.hp⟩)
      | _ => none
    | _, _ => none) := Eq.trans rfl rfl
@[simp ↓] theorem qEw {d : Nat} {st : St} {K : AV → St → Prop} {kt : KT} {m : Operand} {k : Operand} {x : Operand} : Ai P Γ d (.mup kt m k x) st K = Bo (A6 Γ d (.mup kt m k x) st) K ⟨⟩ := Eq.trans rfl rfl
@[simp ↓] theorem qEx {d : Nat} {st : St} {kt : KT} {zv : Value} {m : Operand} {k : Operand} : A6 Γ d (.lkupA kt zv m k) st = (
   match ev Γ st.env k, ev Γ st.env m with
    | some (.t (.v kv)), some (.lm id) => match A2 st.hp id with
      | some (.mr es) => some (kt.fits kv = true ∧ I7 kt es, (O4 kv es).getD (Nn zv), st)
      | _ => none
    | _, _ => none) := Eq.trans rfl rfl
@[simp ↓] theorem qCL {d : Nat} {st : St} {K : AV → St → Prop} {kt : KT} {zv : Value} {m : Operand} {k : Operand} : Ai P Γ d (.lkupA kt zv m k) st K = Bo (A6 Γ d (.lkupA kt zv m k) st) K ⟨⟩ := Eq.trans rfl rfl
@[simp ↓] theorem qFu {d : Nat} {st : St} {kt : KT} {m : Operand} {k : Operand} {x : Operand} : A6 Γ d (.mupA kt m k x) st = (
   match ev Γ st.env k, ev Γ st.env m with
    | some (.t (.v kv)), some (.lm id) => match A2 st.hp id with
      | some (.mr es) => (ev Γ st.env x).map fun a => (kt.fits kv = true ∧ I7 kt es, .un, ⟨st.env, Ba id (.mr (q1t kv a es)) st.hp⟩)
      | _ => none
    | _, _ => none) := Eq.trans rfl rfl
@[simp ↓] theorem qDa {d : Nat} {st : St} {K : AV → St → Prop} {kt : KT} {m : Operand} {k : Operand} {x : Operand} : Ai P Γ d (.mupA kt m k x) st K = Bo (A6 Γ d (.mupA kt m k x) st) K ⟨⟩ := Eq.trans rfl rfl
@[simp ↓] theorem qFv {d : Nat} {st : St} {kt : KT} {m : Operand} {k : Operand} : A6 Γ d (.mdel kt m k) st = (
   match ev Γ st.env k, ev Γ st.env m with
    | some (.t (.v kv)), some (.lm id) => match A2 st.hp id with
      | some (.mr es) => some (kt.fits kv = true ∧ I7 kt es, .t (.tup []), ⟨st.env, Ba id (.mr (q1u kv es)) st.hp⟩)
      | _ => none
    | _, _ => none) := Eq.trans rfl rfl
@[simp ↓] theorem qDb {d : Nat} {st : St} {K : AV → St → Prop} {kt : KT} {m : Operand} {k : Operand} : Ai P Γ d (.mdel kt m k) st K = Bo (A6 Γ d (.mdel kt m k) st) K ⟨⟩ := Eq.trans rfl rfl
@[simp ↓] theorem qDc {d : Nat} {st : St} {pos : Bool} {x : Operand} : A6 Γ d (.isNilP pos x) st = (
   match ev Γ st.env x with
    | some (.lp _ _ _) => some (True, .t (.v (.bool (!pos))), st)
    | some (.t (.ip _ _)) => some (True, .t (.v (.bool (!pos))), st)
    | some (.t (.v (.pointer none))) => some (True, .t (.v (.bool pos)), st)
    | _ => none) := Eq.trans rfl rfl
@[simp ↓] theorem qBY {d : Nat} {st : St} {K : AV → St → Prop} {pos : Bool} {x : Operand} : Ai P Γ d (.isNilP pos x) st K = Bo (A6 Γ d (.isNilP pos x) st) K ⟨⟩ := Eq.trans rfl rfl
@[simp ↓] theorem qH8 {d : Nat} {st : St} {x : Operand} : A6 Γ d (.mvP x) st = (
   (ev Γ st.env x).bind fun a => if I9 st.hp a then some (True, a, st) else none) := Eq.trans rfl rfl
@[simp ↓] theorem qEy {d : Nat} {st : St} {K : AV → St → Prop} {x : Operand} : Ai P Γ d (.mvP x) st K = Bo (A6 Γ d (.mvP x) st) K ⟨⟩ := Eq.trans rfl rfl
@[simp ↓] theorem qFw {d : Nat} {st : St} {x : Operand} : A6 Γ d (.nckP x) st = (
   match ev Γ st.env x with
    | some (.lp id i k) => if I9 st.hp (.lp id i k) then some (True, .lp id i k, st) else none
    | _ => none) := Eq.trans rfl rfl
@[simp ↓] theorem qDd {d : Nat} {st : St} {K : AV → St → Prop} {x : Operand} : Ai P Γ d (.nckP x) st K = Bo (A6 Γ d (.nckP x) st) K ⟨⟩ := Eq.trans rfl rfl
@[simp ↓] theorem qFx {d : Nat} {st : St} {off : Nat} {x : Operand} : A6 Γ d (.fadP off x) st = (
   match ev Γ st.env x with
    | some (.lp id i k) => if I9 st.hp (.lp id i k) then some (True, .lp id i (k + off), st) else none
    | _ => none) := Eq.trans rfl rfl
@[simp ↓] theorem qDe {d : Nat} {st : St} {K : AV → St → Prop} {off : Nat} {x : Operand} : Ai P Γ d (.fadP off x) st K = Bo (A6 Γ d (.fadP off x) st) K ⟨⟩ := Eq.trans rfl rfl
@[simp ↓] theorem qH9 {d : Nat} {st : St} {n : Nat} {x : Operand} : A6 Γ d (.ldP n x) st = (
   match ev Γ st.env x with
    | some (.lp id i k) => match A2 st.hp id with
      | some (.bx cs) => if I9 st.hp (((cs.drop k).take n).headD .dead) then some (i = 0 ∧ k + n ≤ cs.length, ((cs.drop k).take n).headD .dead, st) else none
      | _ => none
    | _ => none) := Eq.trans rfl rfl
@[simp ↓] theorem qEz {d : Nat} {st : St} {K : AV → St → Prop} {n : Nat} {x : Operand} : Ai P Γ d (.ldP n x) st K = Bo (A6 Γ d (.ldP n x) st) K ⟨⟩ := Eq.trans rfl rfl
@[simp ↓] theorem qHA {d : Nat} {st : St} {id : Nat} {n : Nat} {a : Operand} {x : Operand} : A6 Γ d (.stR id n a x) st = (
   if Cb id (ev Γ st.env a) then ((ev Γ st.env x).bind fun v => match ev Γ st.env a with
      | some (.lp id i k) => match A2 st.hp id with
        | some (.sl ty s es) => (Hl v.cells).map fun ts =>
          (i < es.length ∧ k + n ≤ s ∧ ts.length = n ∧ Bf ts = true, .un,
            ⟨st.env, Ba id (.sl ty s (es.set i (if k = 0 ∧ n = s then ts else (es.getD i []).take k ++ ts ++ (es.getD i []).drop (k + n)))) st.hp⟩)
        | some (.rs ty s es) => some (i < es.length ∧ k + n ≤ s ∧ v.cells.length = n ∧ Ao v.cells = true, .un,
            ⟨st.env, Ba id (.rs ty s (es.set i (if k = 0 ∧ n = s then v.cells else (es.getD i []).take k ++ v.cells ++ (es.getD i []).drop (k + n)))) st.hp⟩)
        | some (.bx cs) => some (i = 0 ∧ k + n ≤ cs.length ∧ v.cells.length = n ∧ Ao v.cells = true, .un, ⟨st.env, Ba id (.bx (cs.take k ++ v.cells ++ cs.drop (k + n))) st.hp⟩)
        | _ => none
      | _ => none) else none) := Eq.trans rfl rfl
@[simp ↓] theorem qF0 {d : Nat} {st : St} {K : AV → St → Prop} {id : Nat} {n : Nat} {a : Operand} {x : Operand} : Ai P Γ d (.stR id n a x) st K = Bo (A6 Γ d (.stR id n a x) st) K ⟨⟩ := Eq.trans rfl rfl
@[simp ↓] theorem qFy {d : Nat} {st : St} {ty s : Nat} {parts : List Operand} : A6 Γ d (.bslA ty s parts) st = (
   (Hk Γ st.env parts).map fun as => (A2 st.hp d = none ∧ (∀ a ∈ as, a.cells.length = s ∧ Ao a.cells = true), .ls d 0 as.length none, ⟨st.env, (d, .rs ty s (as.map AV.cells)) :: st.hp⟩)) := Eq.trans rfl rfl
@[simp ↓] theorem qDf {d : Nat} {st : St} {K : AV → St → Prop} {ty s : Nat} {parts : List Operand} : Ai P Γ d (.bslA ty s parts) st K = Bo (A6 Γ d (.bslA ty s parts) st) K ⟨⟩ := Eq.trans rfl rfl
@[simp ↓] theorem qFz {d : Nat} {st : St} {ty s : Nat} {b x : Operand} : A6 Γ d (.appA ty s b x) st = (
   match ev Γ st.env x, ev Γ st.env b with
    | some (.ls ix 0 n none), some (.ls id 0 len none) => match A2 st.hp ix, A2 st.hp id with
      | some (.rs _ q news), some (.rs t q' es) => some (q = s ∧ n = news.length ∧ news ≠ [] ∧ t = ty ∧ q' = s ∧ len + news.length ≤ 2147483648 ∧ A2 (st.kill id).hp d = none, .ls d 0 (es.take len ++ news).length none, ⟨(st.kill id).env, (d, .rs ty s ((es.take len ++ news).map fun e => e.map (Ac id))) :: (st.kill id).hp⟩)
      | _, _ => none
    | _, _ => none) := Eq.trans rfl rfl
@[simp ↓] theorem qDg {d : Nat} {st : St} {K : AV → St → Prop} {ty s : Nat} {b x : Operand} : Ai P Γ d (.appA ty s b x) st K = Bo (A6 Γ d (.appA ty s b x) st) K ⟨⟩ := Eq.trans rfl rfl
@[simp ↓] theorem qHB {d : Nat} {st : St} {s : Nat} {zs : List Value} {x : Operand} : A6 Γ d (.clr s zs x) st = (
   match ev Γ st.env x with
    | some (.ls id off len _) => match A2 st.hp id with
      | some (.sl ty q es) => some (q = s, .t (.tup []), ⟨st.env, Ba id (.sl ty s (es.take off ++ List.replicate len (zs.map Am) ++ es.drop (off + len))) st.hp⟩)
      | _ => none
    | _ => none) := Eq.trans rfl rfl
@[simp ↓] theorem qF1 {d : Nat} {st : St} {K : AV → St → Prop} {s : Nat} {zs : List Value} {x : Operand} : Ai P Γ d (.clr s zs x) st K = Bo (A6 Γ d (.clr s zs x) st) K ⟨⟩ := Eq.trans rfl rfl
@[simp ↓] theorem qG0 {d : Nat} {st : St} {ty : Nat} {b x : Operand} : A6 Γ d (.appS ty b x) st = (
   match ev Γ st.env x, ev Γ st.env b with
    | some (.t (.v (.string s))), some (.ls id 0 len none) => match A2 st.hp id with
      | some (.sl t q es) => some (t = ty ∧ q = 1 ∧ 0 < s.size ∧ len + s.size ≤ 140737488355328 ∧ A2 (st.kill id).hp d = none, .ls d 0 (es.take len ++ O5 s).length none, ⟨(st.kill id).env, (d, .sl ty 1 (es.take len ++ O5 s)) :: (st.kill id).hp⟩)
      | _ => none
    | some (.t (.v (.string s))), some (.t (.sl [] (some 0) _)) => some (0 < s.size ∧ s.size ≤ 140737488355328 ∧ A2 st.hp d = none, .ls d 0 (O5 s).length none, ⟨st.env, (d, .sl ty 1 (O5 s)) :: st.hp⟩)
    | _, _ => none) := Eq.trans rfl rfl
@[simp ↓] theorem qDh {d : Nat} {st : St} {K : AV → St → Prop} {ty : Nat} {b x : Operand} : Ai P Γ d (.appS ty b x) st K = Bo (A6 Γ d (.appS ty b x) st) K ⟨⟩ := Eq.trans rfl rfl
@[simp ↓] theorem qHC {d : Nat} {st : St} {id s : Nat} {x : Operand} {i : Operand} : A6 Γ d (.iaR id s x i) st = (
   match ev Γ st.env x, ev Γ st.env i with
    | some (.ls j off len _), some (.t (.v (.int _ n))) => if j = id then (match A2 st.hp j with
      | some (.sl _ q _) => some (q = s ∧ 0 ≤ n ∧ n < len, .lp j (off + n.toNat) 0, st)
      | some (.rs _ q _) => some (q = s ∧ 0 ≤ n ∧ n < len, .lp j (off + n.toNat) 0, st)
      | _ => none) else none
    | _, _ => none) := Eq.trans rfl rfl
@[simp ↓] theorem qF2 {d : Nat} {st : St} {K : AV → St → Prop} {id s : Nat} {x : Operand} {i : Operand} : Ai P Γ d (.iaR id s x i) st K = Bo (A6 Γ d (.iaR id s x i) st) K ⟨⟩ := Eq.trans rfl rfl
@[simp ↓] theorem qG1 {d : Nat} {st : St} {id f : Nat} {a : Operand} {x : Operand} : A6 Γ d (.stF id f a x) st = (
   (ev Γ st.env x).bind fun v => match ev Γ st.env a with
    | some (.lp j i k) => if j = id ∧ k = f then (match A2 st.hp j with
      | some (.rs ty s es) => some (i < es.length ∧ f + 1 ≤ s ∧ v.one = true ∧ (es.getD i []).length = s, .un, ⟨st.env, Ba j (.rs ty s (es.set i ((es.getD i []).set f v))) st.hp⟩)
      | _ => none) else none
    | _ => none) := Eq.trans rfl rfl
@[simp ↓] theorem qDi {d : Nat} {st : St} {K : AV → St → Prop} {id f : Nat} {a : Operand} {x : Operand} : Ai P Γ d (.stF id f a x) st K = Bo (A6 Γ d (.stF id f a x) st) K ⟨⟩ := Eq.trans rfl rfl
@[simp ↓] theorem qHD {d : Nat} {st : St} {id : Nat} {n : Nat} {g : Bool} {a : Operand} : A6 Γ d (.ldR id n g a) st = (
   if Cb id (ev Γ st.env a) then (match ev Γ st.env a with
      | some (.t (.ip cs k)) => some (k + n ≤ cs.length, .t (H8 g ((cs.drop k).take n)), st)
      | some (.lp id i k) => match A2 st.hp id with
        | some (.sl _ s es) => some (i < es.length ∧ k + n ≤ s, .t (H8 g (((es.getD i []).drop k).take n)), st)
        | some (.rs _ s es) => some (i < es.length ∧ k + n ≤ s, I8 g (((es.getD i []).drop k).take n), st)
        | some (.bx cs) => some (i = 0 ∧ k + n ≤ cs.length, I8 g ((cs.drop k).take n), st)
        | _ => none
      | _ => none) else none) := Eq.trans rfl rfl
@[simp ↓] theorem qF3 {d : Nat} {st : St} {K : AV → St → Prop} {id : Nat} {n : Nat} {g : Bool} {a : Operand} : Ai P Γ d (.ldR id n g a) st K = Bo (A6 Γ d (.ldR id n g a) st) K ⟨⟩ := Eq.trans rfl rfl
@[simp ↓] theorem qHE {d : Nat} {st : St} {n : Nat} {g : Bool} {a : Operand} : A6 Γ d (.ldT n g a) st = (
   match ev Γ st.env a with
    | some (.t (.ip cs k)) => some (k + n ≤ cs.length, .t (H8 g ((cs.drop k).take n)), st)
    | _ => none) := Eq.trans rfl rfl
@[simp ↓] theorem qF4 {d : Nat} {st : St} {K : AV → St → Prop} {n : Nat} {g : Bool} {a : Operand} : Ai P Γ d (.ldT n g a) st K = Bo (A6 Γ d (.ldT n g a) st) K ⟨⟩ := Eq.trans rfl rfl
@[simp ↓] theorem qHF {d : Nat} {st : St} {kt : KT} {zv : Value} {ok : Bool} {m : Operand} {k : Operand} : A6 Γ d (.lkT kt zv ok m k) st = (
   match ev Γ st.env k, ev Γ st.env m with
    | some (.t (.v kv)), some (.t (.mp es)) => some (kt.fits kv = true ∧ Iy kt es, if ok then .t (.tup [(Ed kv es).getD (Gp zv), .v (.bool (Ed kv es).isSome)]) else .t ((Ed kv es).getD (Gp zv)), st)
    | _, _ => none) := Eq.trans rfl rfl
@[simp ↓] theorem qF5 {d : Nat} {st : St} {K : AV → St → Prop} {kt : KT} {zv : Value} {ok : Bool} {m : Operand} {k : Operand} : Ai P Γ d (.lkT kt zv ok m k) st K = Bo (A6 Γ d (.lkT kt zv ok m k) st) K ⟨⟩ := Eq.trans rfl rfl
@[simp ↓] theorem qDj {d : Nat} {st : St} {K : AV → St → Prop} {f : FuncId} {args : List Operand} : Ai P Γ d (.call f args) st K = asK (Hk Γ st.env args) (fun as => q2s P Γ st.hp f as (fun res => K (.t res) st) ⟨⟩) ⟨⟩ := Eq.trans rfl rfl
@[simp ↓] theorem qCM {d : Nat} {st : St} {K : AV → St → Prop} {x : Operand} {args : List Operand} : Ai P Γ d (.callv x args) st K = fnK ((ev Γ st.env x).bind Xx) (fun f cs => asK (Hk Γ st.env args) (fun as => q2s P Γ st.hp f (as ++ cs) (fun res => K (.t res) st) ⟨⟩) ⟨⟩) ⟨⟩ := Eq.trans rfl rfl
@[simp ↓] theorem qCN {d : Nat} {st : St} {K : AV → St → Prop} {f : FuncId} {args : List Operand} {rs : List Nat} {base : Nat} : Ai P Γ d (.hcall f args rs base) st K = asK (Hk Γ st.env args) (fun as => rs.Nodup ∧ Ry P Γ st f rs base (B8 rs st.hp) (as.map (Ae (Rw rs))) K ⟨⟩) ⟨⟩ := Eq.trans rfl rfl
@[simp ↓] theorem qBZ {d : Nat} {st : St} {K : AV → St → Prop} {x : Operand} {args : List Operand} {rs : List Nat} {base : Nat} : Ai P Γ d (.hcallv x args rs base) st K = fnK ((ev Γ st.env x).bind Xx) (fun f cs => asK (Hk Γ st.env args) (fun as => rs.Nodup ∧ Ry P Γ st f rs base (B8 rs st.hp) ((as ++ cs).map (Ae (Rw rs))) K ⟨⟩) ⟨⟩) ⟨⟩ := Eq.trans rfl rfl
@[simp ↓] theorem qBa {d : Nat} {st : St} {K : AV → St → Prop} {f : FuncId} {args : List Operand} {base : Nat} : Ai P Γ d (.hcallW f args base) st K = asK (Hk Γ st.env args) (fun as => ∃ rs, rs.Nodup ∧ Ry P Γ st f rs base (B8 rs st.hp) (as.map (Ae (Rw rs))) K ⟨⟩) ⟨⟩ := Eq.trans rfl rfl
@[simp ↓] theorem qB2 {d : Nat} {st : St} {K : AV → St → Prop} {x : Operand} {args : List Operand} {base : Nat} : Ai P Γ d (.hcallvW x args base) st K = fnK ((ev Γ st.env x).bind Xx) (fun f cs => asK (Hk Γ st.env args) (fun as => ∃ rs, rs.Nodup ∧ Ry P Γ st f rs base (B8 rs st.hp) ((as ++ cs).map (Ae (Rw rs))) K ⟨⟩) ⟨⟩) ⟨⟩ := Eq.trans rfl rfl
@[simp ↓] theorem qBb {d : Nat} {st : St} {K : AV → St → Prop} {x : Operand} {args : List Operand} {base : Nat} : Ai P Γ d (.hcallB x args base) st K = fnK ((ev Γ st.env x).bind q4A) (fun f cs => asK (Hk Γ st.env args) (fun as => ∃ rs, rs.Nodup ∧ Ry P Γ st f rs base (B8 rs st.hp) ((cs ++ as).map (Ae (Rw rs))) K ⟨⟩) ⟨⟩) ⟨⟩ := Eq.trans rfl rfl
@[simp ↓] theorem qCO {d : Nat} {st : St} {K : AV → St → Prop} {f : FuncId} {args : List Operand} {base : Nat} : Ai P Γ d (.ncall f args base) st K = asK (Hk Γ st.env args) (fun as => q9g P Γ st f base (as.map (Ae (Rw []))) K ⟨⟩) ⟨⟩ := Eq.trans rfl rfl
@[simp ↓] theorem qCP {d : Nat} {st : St} {K : AV → St → Prop} {f : FuncId} {args : List Operand} : Ai P Γ d (.callT f args) st K = asK (Hk Γ st.env args) (fun as => q9h P Γ f as (fun res => K (.t res) st) ⟨⟩) ⟨⟩ := Eq.trans rfl rfl
@[simp ↓] theorem qCQ {d : Nat} {st : St} {K : AV → St → Prop} {f : FuncId} {args : List Operand} {rs : List Nat} : Ai P Γ d (.rcall f args rs) st K = asK (Hk Γ st.env args) (fun as => rs.Nodup ∧ (∀ i ∈ rs, ∃ ty s es, A2 st.hp i = some (.sl ty s es)) ∧ q9i P Γ st f rs (B8 rs st.hp) (as.map (Ae (Rw rs))) K ⟨⟩) ⟨⟩ := Eq.trans rfl rfl
@[simp] theorem qHR {e : List (Nat × AV)} {t : Nat} : ev Γ e (.tmp t) = A2 e t := Eq.trans rfl rfl
@[simp] theorem qG2 {e : List (Nat × AV)} {v : Value} : ev Γ e (.const v) = some (Nn v) := Eq.trans rfl rfl
@[simp] theorem qF6 {e : List (Nat × AV)} {g : Nat} : ev Γ e (.global g) = (Γ g).map fun cs => .t (.ip cs 0) := Eq.trans rfl rfl
@[simp] theorem qHG {e : List (Nat × AV)} {f : FuncId} : ev Γ e (.func f) = some (.t (.fn f [])) := Eq.trans rfl rfl
@[simp] theorem qHS {e : List (Nat × AV)} {xs : List Operand} : Hk Γ e xs = Aa (xs.map (ev Γ e)) := Eq.trans rfl rfl
@[simp] theorem qDk {e : List (Nat × AV)} : C9 e none = some true := Eq.trans rfl rfl
@[simp] theorem qDl {e : List (Nat × AV)} {g : Nat} {b : Bool} : C9 e (some (g, b)) = match A2 e g with
  | some (.t (.v (.bool p))) => some (p == b)
  | some .un => some false
  | _ => none := Eq.trans rfl rfl
end
attribute [simp] RO.d St.put Aa A2 params Gh.run q7o Fp Zz Z5 Pj An Nn Gp Am Vx unV Rr F3 I9 O4 q1t q1u lenOf q8K H8 I8 AV.cells Hl toT U9 Yq As E8 Ba Xx q4A St.kill Ac kill1 no0 F2 del Cb Xy Up B8 Rw Np Et Rx Y4 C7 Qi Ae ren1 ren0 Bd Be H7 qBR tri toN Eg O6 q6t Ak.sh List.filter_cons
end Go.Lg
namespace Go.Lg
open Go
def inB (n : Int) (l : Nat) : Bool := match n with
 | .ofNat k => Nat.blt k l
 | .negSucc _ => false
theorem J6 {n : Int} {l : Nat} (h : inB n l = true) : 0 ≤ n ∧ n < l := by
 cases n with
 | ofNat k => simp only [inB, Nat.blt_eq] at h; exact ⟨Int.natCast_nonneg k, Int.ofNat_lt.2 h⟩
 | negSucc k => cases h
def nnB (n : Int) : Bool := match n with
 | .ofNat _ => true
 | .negSucc _ => false
theorem q2v {n : Int} (h : nnB n = true) : 0 ≤ n := by
 cases n with
 | ofNat k => exact Int.natCast_nonneg k
 | negSucc k => cases h
def Z7 (s : Nat) (es : List (List T)) : Bool := es.all fun e => Nat.beq e.length s
theorem Gu {s : Nat} {es : List (List T)} (h : Z7 s es = true) : Gk s es := fun e he => Nat.eq_of_beq_eq_true (List.all_eq_true.1 h e he)
def q3d (Γ : Tables) (env : List (Nat × AV)) (o : Option Operand) : Bool := match o with
 | none => true
 | some o => match ev Γ env o with
  | some (.t (.v (.int _ n))) => nnB n
  | _ => false
theorem Jz {Γ : Tables} {env : List (Nat × AV)} {o : Option Operand} {d : Nat} {p : Prop × Nat} (h : q3d Γ env o = true) (hp : E8 Γ env o d = some p) : p.1 := by
 unfold q3d at h; unfold E8 at hp
 cases o with
 | none => simp only [Option.some.injEq] at hp; subst hp; trivial
 | some o =>
  simp only at h hp
  split at h
  ·rename_i k n he; rw [he] at hp; simp only [Option.some.injEq] at hp; subst hp; exact q2v h
  ·cases h
def q5s (kt : KT) (es : List (Value × T)) : Bool := es.all fun e => kt.fits e.1
theorem q01 {kt : KT} {es : List (Value × T)} (h : q5s kt es = true) : Iy kt es := fun e he => List.all_eq_true.1 h e he
def q02 : BinOp → Value → Value → Bool
 | .quo, .int _ _, .int _ b => !(b == 0)
 | .rem, .int _ _, .int _ b => !(b == 0)
 | .shl, .int _ _, .int _ b => nnB b
 | .shr, .int _ _, .int _ b => nnB b
 | .add, .string a, .string b => Nat.ble (a.size + b.size) 9223372036854775807
 | _, _, _ => true
theorem qBc {op : BinOp} {x y : Value} {r : Prop × Value} (h : q02 op x y = true) (hr : Vx op x y = some r) : r.1 := by
  unfold Vx at hr
  split at hr
  all_goals first
    | (cases hr; done)
    | (split at hr
       · simp only [Option.some.injEq] at hr; subst hr; first | trivial | (simp [q02] at h; exact h)
       · cases hr)
    | (simp only [Option.some.injEq] at hr; subst hr; first | trivial | (simp only [q02] at h; exact q2v h) | (simp only [q02] at h; exact Nat.le_of_ble_eq_true h))
def qG3 : Option IntKind → Value → Bool
 | some k, .int j n => decide (j = k) && (Lit.int k n).wf
 | none, .bool _ => true
 | _, _ => false
def lkB : List (Option IntKind) → List Value → Bool
 | [], [] => true
 | k :: ks, v :: vs => qG3 k v && lkB ks vs
 | _, _ => false
theorem q6u : ∀ {ks : List (Option IntKind)} {vs : List Value}, lkB ks vs = true → Vs ks vs
 | [], [], _ => trivial
 | k :: ks, v :: vs, h => by
  simp only [lkB, Bool.and_eq_true] at h
  refine ⟨?_, q6u h.2⟩
  have h1 := h.1
  cases k <;> cases v <;> simp [qG3] at h1 <;> simp [lk1, h1]
 | [], _ :: _, h => by cases h
 | _ :: _, [], h => by cases h
def esB (s : Nat) (es : List (List T)) : Bool := es.all fun e => Nat.beq e.length s && Bf e
theorem q9m {s : Nat} {es : List (List T)} (h : esB s es = true) : ∀ e ∈ es, e.length = s ∧ Bf e = true := fun e he => by
 have := List.all_eq_true.1 h e he
 simp only [Bool.and_eq_true] at this
 exact ⟨Nat.eq_of_beq_eq_true this.1, this.2⟩
def q7s : List AV → List (Nat × Operand) → Bool
 | [], [] => true
 | a :: as, p :: ps => Nat.beq a.cells.length p.1 && q7s as ps
 | _, _ => false
theorem q5t : ∀ {as : List AV} {ps : List (Nat × Operand)}, q7s as ps = true → as.map (·.cells.length) = ps.map (·.1)
 | [], [], _ => rfl
 | a :: as, p :: ps, h => by
  simp only [q7s, Bool.and_eq_true] at h
  simp only [List.map_cons, q5t h.2, Nat.eq_of_beq_eq_true h.1]
 | [], _ :: _, h => by cases h
 | _ :: _, [], h => by cases h
def frB (hp : List (Nat × Ak)) (d : Nat) : Bool := match A2 hp d with
 | none => true
 | some _ => false
theorem Hm {hp : List (Nat × Ak)} {d : Nat} (h : frB hp d = true) : A2 hp d = none := by
 unfold frB at h; split at h
 ·assumption
 ·cases h
def neB {α : Type} : List α → Bool
 | [] => false
 | _ :: _ => true
theorem q4y {α : Type} {l : List α} (h : neB l = true) : l ≠ [] := by cases l <;> simp [neB] at h ⊢
def q6v (hp : List (Nat × Ak)) (id i k n : Nat) : Bool := match A2 hp id with
 | some (.sl _ s es) => Nat.blt i es.length && Nat.ble (k + n) s
 | some (.rs _ s es) => Nat.blt i es.length && Nat.ble (k + n) s
 | some (.bx cs) => Nat.beq i 0 && Nat.ble (k + n) cs.length
 | _ => false
def stC (hp : List (Nat × Ak)) (id i k n : Nat) (v : AV) : Bool := match A2 hp id with
 | some (.sl _ s es) => match Hl v.cells with
  | some ts => Nat.blt i es.length && Nat.ble (k + n) s && Nat.beq ts.length n && Bf ts
  | none => false
 | some (.rs _ s es) => Nat.blt i es.length && Nat.ble (k + n) s && Nat.beq v.cells.length n && Ao v.cells
 | some (.bx cs) => Nat.beq i 0 && Nat.ble (k + n) cs.length && Nat.beq v.cells.length n && Ao v.cells
 | _ => false
def Dm (Γ : Tables) (d : Nat) (io : Ar) (st : St) : Bool := match io with
 | .mv _ | .pick _ _ _ | .fadr _ _ | .eqb _ _ _ | .un _ _ | .conv _ _ | .bytesStr _ | .runeStr _ | .len _ _ | .cap _ | .ext _ _ | .nck _ | .nxt _ => true
 | .alloc fz _ => fz || frB st.hp d
 | .allocR _ _ => frB st.hp d
 | .box fz x => match ev Γ st.env x with
  | some a => if fz then (match Hl a.cells with | some ts => Bf ts | none => false) else frB st.hp d && Ao a.cells
  | none => false
 | .build parts => match Hk Γ st.env (parts.map (·.2)) with
  | some as => q7s as parts && Ao (as.flatMap AV.cells)
  | none => false
 | .bsl fz _ s parts => match Hk Γ st.env parts with
  | some as => match Aa (as.map fun a => Hl a.cells) with
   | some es => (fz || frB st.hp d) && esB s es
   | none => false
  | none => false
 | .bslA _ s parts => match Hk Γ st.env parts with
  | some as => frB st.hp d && as.all fun a => Nat.beq a.cells.length s && Ao a.cells
  | none => false
 | .appA ty s b x => match ev Γ st.env x, ev Γ st.env b with
  | some (.ls ix 0 n none), some (.ls id 0 len none) => match A2 st.hp ix, A2 st.hp id with
   | some (.rs _ q news), some (.rs t q' es) => Nat.beq q s && Nat.beq n news.length && neB news && Nat.beq t ty && Nat.beq q' s && Nat.ble (len + news.length) 2147483648 && frB (st.kill id).hp d
   | _, _ => false
  | _, _ => false
 | .load n _ a => match ev Γ st.env a with
  | some (.t (.ip cs k)) => Nat.ble (k + n) cs.length
  | some (.lp id i k) => q6v st.hp id i k n
  | _ => false
 | .ldR _ n _ a => match ev Γ st.env a with
  | some (.t (.ip cs k)) => Nat.ble (k + n) cs.length
  | some (.lp id i k) => q6v st.hp id i k n
  | _ => false
 | .ldT n _ a => match ev Γ st.env a with
  | some (.t (.ip cs k)) => Nat.ble (k + n) cs.length
  | _ => false
 | .store n a x => match ev Γ st.env x, ev Γ st.env a with
  | some v, some (.lp id i k) => stC st.hp id i k n v
  | _, _ => false
 | .stR _ n a x => match ev Γ st.env x, ev Γ st.env a with
  | some v, some (.lp id i k) => stC st.hp id i k n v
  | _, _ => false
 | .fld off n _ x => match ev Γ st.env x with
  | some (.ag cs) => Nat.ble (off + n) cs.length
  | some (.t (.agg ts)) => Nat.ble (off + n) ts.length
  | _ => false
 | .iadr s x i => match ev Γ st.env x, ev Γ st.env i with
  | some (.t (.sl es _ _)), some (.t (.v (.int _ n))) => inB n es.length && Z7 s es
  | some (.ls id _ len _), some (.t (.v (.int _ n))) => match A2 st.hp id with
   | some (.sl _ q _) => Nat.beq q s && inB n len
   | some (.rs _ q _) => Nat.beq q s && inB n len
   | _ => false
  | some (.lb _ m), some (.t (.v (.int _ n))) => Nat.beq s 1 && inB n m
  | _, _ => false
 | .iaR _ s x i => match ev Γ st.env x, ev Γ st.env i with
  | some (.ls id _ len _), some (.t (.v (.int _ n))) => match A2 st.hp id with
   | some (.sl _ q _) => Nat.beq q s && inB n len
   | some (.rs _ q _) => Nat.beq q s && inB n len
   | _ => false
  | _, _ => false
 | .stF _ f a x => match ev Γ st.env x, ev Γ st.env a with
  | some v, some (.lp id i _) => match A2 st.hp id with
   | some (.rs _ s es) => Nat.blt i es.length && Nat.ble (f + 1) s && v.one && Nat.beq (es.getD i []).length s
   | _ => false
  | _, _ => false
 | .iadT s x i => match ev Γ st.env x, ev Γ st.env i with
  | some (.t (.sl es _ _)), some (.t (.v (.int _ n))) => inB n es.length && Z7 s es
  | _, _ => false
 | .iadrA len _ _ i => match ev Γ st.env i with
  | some (.t (.v (.int _ n))) => inB n len
  | _ => false
 | .idxS x i => match ev Γ st.env x, ev Γ st.env i with
  | some (.t (.v (.string s))), some (.t (.v (.int _ n))) => inB n s.size
  | _, _ => false
 | .idxA len s _ x i => match ev Γ st.env x, ev Γ st.env i with
  | some (.t (.agg ts)), some (.t (.v (.int _ n))) => inB n len && Nat.ble (n.toNat * s + s) ts.length
  | some (.ag cs), some (.t (.v (.int _ n))) => inB n len && Nat.ble (n.toNat * s + s) cs.length
  | _, _ => false
 | .bin op x y => match ev Γ st.env x, ev Γ st.env y with
  | some (.t (.v a)), some (.t (.v b)) => q02 op a b
  | _, _ => false
 | .eqg _ ks x y => match (ev Γ st.env x).bind q4k, (ev Γ st.env y).bind q4k with
  | some as, some bs => lkB ks as && lkB ks bs
  | _, _ => false
 | .isNil _ x => match ev Γ st.env x with
  | some (.t (.sl es _ nl)) => match nl with
   | some _ => true
   | none => neB es
  | _ => false
 | .mmx mx xs => match Hk Γ st.env xs with
  | some as => match Rr mx as none with
   | some r => F3 r.1 as
   | none => false
  | none => false
 | .app fz ty s b x => match (ev Γ st.env x).bind (As st.hp), ev Γ st.env b with
  | some news, some a => Z7 s news && match a with
   | .t (.sl es (some c) _) => Z7 s es && Nat.beq c es.length && Nat.ble (es.length + news.length) 2147483648 && (fz || neB news || !(neB es)) && (fz || frB st.hp d)
   | .ls id off len (some c) => match A2 st.hp id with
    | some (.sl t q es) => Nat.beq t ty && Nat.beq q s && Nat.beq c len && Nat.ble (len + news.length) 2147483648 && (neB news || Nat.beq len 0) && (fz || frB st.hp d)
    | _ => false
   | .ls id 0 len none => match A2 st.hp id with
    | some (.sl t q es) => Nat.beq t ty && Nat.beq q s && Nat.ble (len + news.length) 2147483648 && (fz || frB (st.kill id).hp d)
    | _ => false
   | _ => false
  | _, _ => false
 | .appN _ s x => match ev Γ st.env x with
  | some (.t (.sl es _ _)) => frB st.hp d && Z7 s es && Nat.ble es.length 2147483648
  | _ => false
 | .appT _ s b x => match (ev Γ st.env x).bind (As st.hp), ev Γ st.env b with
  | some news, some (.t (.sl es (some c) _)) => Z7 s news && Z7 s es && Nat.beq c es.length && Nat.ble (es.length + news.length) 2147483648
  | _, _ => false
 | .appB b x => match (ev Γ st.env x).bind (As st.hp), ev Γ st.env b with
  | some news, some (.t (.sl es (some c) _)) => Z7 1 news && Z7 1 es && Nat.beq c es.length && Nat.ble (es.length + news.length) 140737488355328
  | _, _ => false
 | .appS ty b x => match ev Γ st.env x, ev Γ st.env b with
  | some (.t (.v (.string s))), some (.ls id 0 len none) => match A2 st.hp id with
   | some (.sl t q _) => Nat.beq t ty && Nat.beq q 1 && Nat.blt 0 s.size && Nat.ble (len + s.size) 140737488355328 && frB (st.kill id).hp d
   | _ => false
  | some (.t (.v (.string s))), some (.t (.sl [] (some 0) _)) => Nat.blt 0 s.size && Nat.ble s.size 140737488355328 && frB st.hp d
  | _, _ => false
 | .appR fz i ty b x => match ev Γ st.env x, ev Γ st.env b with
  | some (.t (.sl news _ _)), some (.ls id 0 len none) => match A2 st.hp i with
   | some (.sl t q _) => Nat.beq id i && Z7 1 news && Nat.beq t ty && Nat.beq q 1 && Nat.ble (len + news.length) 140737488355328 && (fz || frB (st.kill i).hp d)
   | _ => false
  | _, _ => false
 | .appZ _ s _ b n => match ev Γ st.env b, ev Γ st.env n with
  | some (.t (.sl es (some q) _)), some (.t (.v (.int _ m))) => frB st.hp d && decide (0 < m) && Z7 s es && decide ((q : Int) < es.length + m) && decide (es.length + m ≤ 2147483648)
  | _, _ => false
 | .cpy s x y => match ev Γ st.env x, (ev Γ st.env y).bind (As st.hp) with
  | some (.ls id _ _ _), some news => match A2 st.hp id with
   | some (.sl _ q _) => Nat.beq q s && Z7 s news
   | _ => false
  | _, _ => false
 | .clr s _ x => match ev Γ st.env x with
  | some (.ls id _ _ _) => match A2 st.hp id with
   | some (.sl _ q _) => Nat.beq q s
   | _ => false
  | _ => false
 | .slice s x lo hi mx => match ev Γ st.env x with
  | some (.t (.v (.string b))) => match E8 Γ st.env lo 0, E8 Γ st.env hi b.size with
   | some l, some h => Nat.beq s 0 && q3d Γ st.env lo && q3d Γ st.env hi && Nat.ble l.2 h.2 && Nat.ble h.2 b.size
   | _, _ => false
  | some (.t (.sl es _ _)) => match E8 Γ st.env lo 0, E8 Γ st.env hi es.length with
   | some l, some h => !(Nat.beq s 0) && Z7 s es && q3d Γ st.env lo && q3d Γ st.env hi && Nat.ble l.2 h.2 && match mx with
    | none => Nat.ble h.2 es.length
    | some _ => match E8 Γ st.env mx 0 with
     | some m => q3d Γ st.env mx && Nat.ble h.2 m.2 && Nat.ble m.2 es.length
     | none => false
   | _, _ => false
  | some (.ls id _ len _) => match E8 Γ st.env lo 0, E8 Γ st.env hi len with
   | some l, some h => !(Nat.beq s 0) && (match A2 st.hp id with | some (.sl _ q _) => Nat.beq q s | _ => false) && q3d Γ st.env lo && q3d Γ st.env hi && Nat.ble l.2 h.2 && match mx with
    | none => Nat.ble h.2 len
    | some _ => match E8 Γ st.env mx 0 with
     | some m => q3d Γ st.env mx && Nat.ble h.2 m.2 && Nat.ble m.2 len
     | none => false
   | _, _ => false
  | _ => false
 | .mk _ _ _ l c | .mkE _ _ _ l c => match ev Γ st.env l, ev Γ st.env c with
  | some (.t (.v (.int _ n))), some (.t (.v (.int _ m))) => frB st.hp d && nnB n && decide (n ≤ m) && decide (m ≤ 2147483648)
  | _, _ => false
 | .mkB _ _ l c => match ev Γ st.env l, ev Γ st.env c with
  | some (.t (.v (.int _ n))), some (.t (.v (.int _ m))) => frB st.hp d && nnB n && decide (n = m) && decide (m ≤ 2147483648)
  | _, _ => false
 | .mkf _ caps | .mkfB _ caps => match Hk Γ st.env caps with
  | some as => Ao as
  | none => false
 | .mkmap | .rng _ => frB st.hp d
 | .lkup kt _ _ m k => match ev Γ st.env k with
  | some (.t (.v kv)) => kt.fits kv && match ev Γ st.env m with
   | some (.t (.mp es)) => q5s kt es
   | some (.lm id) => match A2 st.hp id with
    | some (.mp es) => q5s kt es
    | _ => false
   | _ => false
  | _ => false
 | .lkT kt _ _ m k => match ev Γ st.env k, ev Γ st.env m with
  | some (.t (.v kv)), some (.t (.mp es)) => kt.fits kv && q5s kt es
  | _, _ => false
 | .mup kt m k _ => match ev Γ st.env k, ev Γ st.env m with
  | some (.t (.v kv)), some (.lm id) => match A2 st.hp id with
   | some (.mp es) => kt.fits kv && q5s kt es
   | _ => false
  | _, _ => false
 | _ => false
theorem q7t {hp : List (Nat × Ak)} {id i k n : Nat} (h : q6v hp id i k n = true) : (∃ t s es, A2 hp id = some (.sl t s es) ∧ i < es.length ∧ k + n ≤ s) ∨ (∃ t s es, A2 hp id = some (.rs t s es) ∧ i < es.length ∧ k + n ≤ s) ∨ ∃ cs, A2 hp id = some (.bx cs) ∧ i = 0 ∧ k + n ≤ cs.length := by
 unfold q6v at h
 split at h
 ·rename_i hl; simp only [Bool.and_eq_true, Nat.blt_eq, Nat.ble_eq] at h; exact .inl ⟨_, _, _, hl, h⟩
 ·rename_i hl; simp only [Bool.and_eq_true, Nat.blt_eq, Nat.ble_eq] at h; exact .inr (.inl ⟨_, _, _, hl, h⟩)
 ·rename_i hl; simp only [Bool.and_eq_true, Nat.beq_eq, Nat.ble_eq] at h; exact .inr (.inr ⟨_, hl, h⟩)
 ·cases h
variable {Γ : Tables} {d : Nat} {st s1 : St} {c : Prop} {r : AV}
theorem q9n {id i k n : Nat} {v : AV} (hc : stC st.hp id i k n v = true) (h : (match A2 st.hp id with
   | some (.sl ty s es) => (Hl v.cells).map fun ts =>
    (i < es.length ∧ k + n ≤ s ∧ ts.length = n ∧ Bf ts = true, AV.un,
     (⟨st.env, Ba id (.sl ty s (es.set i (if k = 0 ∧ n = s then ts else (es.getD i []).take k ++ ts ++ (es.getD i []).drop (k + n)))) st.hp⟩ : St))
   | some (.rs ty s es) => some (i < es.length ∧ k + n ≤ s ∧ v.cells.length = n ∧ Ao v.cells = true, .un,
     ⟨st.env, Ba id (.rs ty s (es.set i (if k = 0 ∧ n = s then v.cells else (es.getD i []).take k ++ v.cells ++ (es.getD i []).drop (k + n)))) st.hp⟩)
   | some (.bx cs) => some (i = 0 ∧ k + n ≤ cs.length ∧ v.cells.length = n ∧ Ao v.cells = true, .un, ⟨st.env, Ba id (.bx (cs.take k ++ v.cells ++ cs.drop (k + n))) st.hp⟩)
   | _ => none) = some (c, r, s1)) : c := by
 unfold stC at hc
 split at h
 ·rename_i hl; rw [hl] at hc
  simp only [Option.map_eq_some_iff, Prod.mk.injEq] at h
  obtain ⟨ts, hts, rfl, _⟩ := h
  simp only [hts, Bool.and_eq_true, Nat.blt_eq, Nat.ble_eq, Nat.beq_eq] at hc
  exact ⟨hc.1.1.1, hc.1.1.2, hc.1.2, hc.2⟩
 ·rename_i hl; rw [hl] at hc
  simp only [Option.some.injEq, Prod.mk.injEq] at h; obtain ⟨rfl, _⟩ := h
  simp only [Bool.and_eq_true, Nat.blt_eq, Nat.ble_eq, Nat.beq_eq] at hc
  exact ⟨hc.1.1.1, hc.1.1.2, hc.1.2, hc.2⟩
 ·rename_i hl; rw [hl] at hc
  simp only [Option.some.injEq, Prod.mk.injEq] at h; obtain ⟨rfl, _⟩ := h
  simp only [Bool.and_eq_true, Nat.blt_eq, Nat.ble_eq, Nat.beq_eq] at hc
  exact ⟨hc.1.1.1, hc.1.1.2, hc.1.2, hc.2⟩
 ·cases h
theorem qBd {io : Ar} (h : A6 Γ d io st = some (c, r, s1)) (hc : Dm Γ d io st = true) : c := by
 cases io with
 | mv x => simp only [A6, Option.map_eq_some_iff, Prod.mk.injEq] at h; obtain ⟨_, _, rfl, _⟩ := h; trivial
 | pick a b e => simp only [A6] at h; split at h <;> simp only [Option.some.injEq, Prod.mk.injEq, reduceCtorEq] at h; obtain ⟨rfl, _⟩ := h; trivial
 | fadr o a => simp only [A6] at h; split at h <;> simp only [Option.some.injEq, Prod.mk.injEq, reduceCtorEq] at h <;> (obtain ⟨rfl, _⟩ := h; trivial)
 | eqb o a => simp only [A6] at h; split at h <;> simp only [Option.some.injEq, Prod.mk.injEq, reduceCtorEq] at h; obtain ⟨rfl, _⟩ := h; trivial
 | cap a => simp only [A6] at h; split at h <;> simp only [Option.some.injEq, Prod.mk.injEq, reduceCtorEq] at h <;> (obtain ⟨rfl, _⟩ := h; trivial)
 | conv k a => simp only [A6] at h; split at h <;> simp only [Option.some.injEq, Prod.mk.injEq, reduceCtorEq] at h; obtain ⟨rfl, _⟩ := h; trivial
 | runeStr a => simp only [A6] at h; split at h <;> simp only [Option.some.injEq, Prod.mk.injEq, reduceCtorEq] at h; obtain ⟨rfl, _⟩ := h; trivial
 | nck a => simp only [A6] at h; split at h <;> simp only [Option.some.injEq, Prod.mk.injEq, reduceCtorEq] at h <;> (obtain ⟨rfl, _⟩ := h; trivial)
 | un o a => simp only [A6] at h; split at h <;> simp only [Option.map_eq_some_iff, Prod.mk.injEq, reduceCtorEq] at h; obtain ⟨_, _, rfl, _⟩ := h; trivial
 | ext a i => simp only [A6] at h; split at h <;> simp only [Option.map_eq_some_iff, Prod.mk.injEq, reduceCtorEq] at h <;> (obtain ⟨_, _, rfl, _⟩ := h; trivial)
 | bytesStr a => simp only [A6, Option.bind_eq_some_iff, Option.map_eq_some_iff, Prod.mk.injEq] at h; obtain ⟨_, _, _, _, rfl, _⟩ := h; trivial
 | len k a =>
  simp only [A6, Option.bind_eq_some_iff] at h
  obtain ⟨_, _, h⟩ := h
  split at h
  ·simp only [Option.map_eq_some_iff, Prod.mk.injEq] at h; obtain ⟨_, _, rfl, _⟩ := h; trivial
  ·cases h
 | nxt a =>
  simp only [A6] at h
  split at h
  ·split at h
   ·split at h <;> (simp only [Option.some.injEq, Prod.mk.injEq] at h; obtain ⟨rfl, _⟩ := h; trivial)
   ·cases h
  ·cases h
 | allocR ty zs =>
  simp only [A6, Option.some.injEq, Prod.mk.injEq] at h; obtain ⟨rfl, _⟩ := h
  exact Hm hc
 | alloc fz zs =>
  simp only [A6] at h; simp only [Dm, Bool.or_eq_true] at hc
  split at h
  ·simp only [Option.some.injEq, Prod.mk.injEq] at h; obtain ⟨rfl, _⟩ := h; trivial
  ·rename_i hf; simp only [Option.some.injEq, Prod.mk.injEq] at h; obtain ⟨rfl, _⟩ := h
   rcases hc with hc | hc
   ·exact absurd hc hf
   ·exact Hm hc
 | box fz x =>
  simp only [A6, Option.bind_eq_some_iff] at h; simp only [Dm] at hc
  obtain ⟨a, ha, h⟩ := h
  rw [ha] at hc
  simp only at hc
  split at h
  ·rename_i hf
   rw [if_pos hf] at hc
   simp only [Option.map_eq_some_iff, Prod.mk.injEq] at h
   obtain ⟨ts, hts, rfl, _⟩ := h
   rw [hts] at hc; exact hc
  ·rename_i hf
   rw [if_neg hf] at hc
   simp only [Option.some.injEq, Prod.mk.injEq] at h
   obtain ⟨rfl, _⟩ := h
   simp only [Bool.and_eq_true] at hc
   exact ⟨Hm hc.1, hc.2⟩
 | build parts =>
  simp only [A6, Option.map_eq_some_iff, Prod.mk.injEq] at h; simp only [Dm] at hc
  obtain ⟨as, has, rfl, _⟩ := h
  rw [has] at hc
  simp only [Bool.and_eq_true] at hc
  exact ⟨q5t hc.1, hc.2⟩
 | bsl fz ty s parts =>
  simp only [A6, Option.bind_eq_some_iff, Option.map_eq_some_iff] at h; simp only [Dm] at hc
  obtain ⟨as, has, es, hes, h⟩ := h
  rw [has] at hc
  simp only [hes, Bool.and_eq_true, Bool.or_eq_true] at hc
  split at h
  ·simp only [Prod.mk.injEq] at h; obtain ⟨rfl, _⟩ := h; exact q9m hc.2
  ·rename_i hf; simp only [Prod.mk.injEq] at h; obtain ⟨rfl, _⟩ := h
   rcases hc.1 with h1 | h1
   ·exact absurd h1 hf
   ·exact ⟨Hm h1, q9m hc.2⟩
 | bslA ty s parts =>
  simp only [A6, Option.map_eq_some_iff, Prod.mk.injEq] at h; simp only [Dm] at hc
  obtain ⟨as, has, rfl, _⟩ := h
  rw [has] at hc
  simp only [Bool.and_eq_true] at hc
  refine ⟨Hm hc.1, fun a ha => ?_⟩
  have := List.all_eq_true.1 hc.2 a ha
  simp only [Bool.and_eq_true, Nat.beq_eq] at this
  exact this
 | appA ty s b x =>
  simp only [A6] at h; simp only [Dm] at hc
  split at h
  ·rename_i h1 h2; rw [h1, h2] at hc
   simp only at hc
   split at h
   ·rename_i h3 h4; simp only [h3, h4, Bool.and_eq_true, Nat.beq_eq, Nat.ble_eq] at hc
    simp only [Option.some.injEq, Prod.mk.injEq] at h; obtain ⟨rfl, _⟩ := h
    exact ⟨hc.1.1.1.1.1.1, hc.1.1.1.1.1.2, q4y hc.1.1.1.1.2, hc.1.1.1.2, hc.1.1.2, hc.1.2, Hm hc.2⟩
   ·cases h
  ·cases h
 | load n g a =>
  simp only [A6] at h; simp only [Dm] at hc
  split at h
  ·rename_i ha; rw [ha] at hc; simp only [Option.some.injEq, Prod.mk.injEq] at h; obtain ⟨rfl, _⟩ := h; exact Nat.le_of_ble_eq_true hc
  ·rename_i ha; rw [ha] at hc; simp only at hc
   rcases q7t hc with ⟨t, s, es, hl, h1⟩ | ⟨t, s, es, hl, h1⟩ | ⟨cs, hl, h1⟩ <;> (rw [hl] at h; simp only [Option.some.injEq, Prod.mk.injEq] at h; obtain ⟨rfl, _⟩ := h; exact h1)
  ·cases h
 | ldR i n g a =>
  simp only [A6] at h; simp only [Dm] at hc
  split at h
  ·split at h
   ·rename_i ha; rw [ha] at hc; simp only [Option.some.injEq, Prod.mk.injEq] at h; obtain ⟨rfl, _⟩ := h; exact Nat.le_of_ble_eq_true hc
   ·rename_i ha; rw [ha] at hc; simp only at hc
    rcases q7t hc with ⟨t, s, es, hl, h1⟩ | ⟨t, s, es, hl, h1⟩ | ⟨cs, hl, h1⟩ <;> (rw [hl] at h; simp only [Option.some.injEq, Prod.mk.injEq] at h; obtain ⟨rfl, _⟩ := h; exact h1)
   ·cases h
  ·cases h
 | ldT n g a =>
  simp only [A6] at h; simp only [Dm] at hc
  split at h
  ·rename_i ha; rw [ha] at hc; simp only [Option.some.injEq, Prod.mk.injEq] at h; obtain ⟨rfl, _⟩ := h; exact Nat.le_of_ble_eq_true hc
  ·cases h
 | store n a x =>
  simp only [A6, Option.bind_eq_some_iff] at h; simp only [Dm] at hc
  obtain ⟨v, hv, h⟩ := h
  rw [hv] at hc
  split at h
  ·rename_i ha
   rw [ha] at hc
   exact q9n hc h
  ·cases h
 | stR id n a x =>
  simp only [A6] at h
  split at h
  ·simp only [Option.bind_eq_some_iff] at h; simp only [Dm] at hc
   obtain ⟨v, hv, h⟩ := h
   rw [hv] at hc
   split at h
   ·rename_i ha
    rw [ha] at hc
    exact q9n hc h
   ·cases h
  ·cases h
 | fld off n g x =>
  simp only [A6, Option.bind_eq_some_iff] at h; simp only [Dm] at hc
  obtain ⟨a, ha, h⟩ := h
  rw [ha] at hc
  split at h
  ·simp only [Option.some.injEq, Prod.mk.injEq] at h; obtain ⟨rfl, _⟩ := h; exact Nat.le_of_ble_eq_true hc
  ·simp only [Option.some.injEq, Prod.mk.injEq] at h; obtain ⟨rfl, _⟩ := h; exact Nat.le_of_ble_eq_true hc
  ·cases h
 | iadr s x i =>
  simp only [A6] at h; simp only [Dm] at hc
  split at h
  ·rename_i h1 h2; rw [h1, h2] at hc; simp only [Option.some.injEq, Prod.mk.injEq] at h; obtain ⟨rfl, _⟩ := h
   simp only [Bool.and_eq_true] at hc
   exact ⟨(J6 hc.1).1, (J6 hc.1).2, Gu hc.2⟩
  ·rename_i h1 h2; rw [h1, h2] at hc
   simp only at hc
   split at h
   ·rename_i hl; simp only [hl, Bool.and_eq_true] at hc; simp only [Option.some.injEq, Prod.mk.injEq] at h; obtain ⟨rfl, _⟩ := h; exact ⟨Nat.eq_of_beq_eq_true hc.1, J6 hc.2⟩
   ·rename_i hl; simp only [hl, Bool.and_eq_true] at hc; simp only [Option.some.injEq, Prod.mk.injEq] at h; obtain ⟨rfl, _⟩ := h; exact ⟨Nat.eq_of_beq_eq_true hc.1, J6 hc.2⟩
   ·cases h
  ·rename_i h1 h2; rw [h1, h2] at hc
   simp only [Bool.and_eq_true] at hc
   split at h
   ·simp only [Option.some.injEq, Prod.mk.injEq] at h; obtain ⟨rfl, _⟩ := h; exact ⟨Nat.eq_of_beq_eq_true hc.1, J6 hc.2⟩
   ·cases h
  ·cases h
 | iaR id0 s x i =>
  simp only [A6] at h; simp only [Dm] at hc
  split at h
  ·rename_i h1 h2; rw [h1, h2] at hc
   simp only at hc
   split at h
   ·split at h
    ·rename_i hl; simp only [hl, Bool.and_eq_true] at hc; simp only [Option.some.injEq, Prod.mk.injEq] at h; obtain ⟨rfl, _⟩ := h; exact ⟨Nat.eq_of_beq_eq_true hc.1, J6 hc.2⟩
    ·rename_i hl; simp only [hl, Bool.and_eq_true] at hc; simp only [Option.some.injEq, Prod.mk.injEq] at h; obtain ⟨rfl, _⟩ := h; exact ⟨Nat.eq_of_beq_eq_true hc.1, J6 hc.2⟩
    ·cases h
   ·cases h
  ·cases h
 | stF id0 f a x =>
  simp only [A6, Option.bind_eq_some_iff] at h; simp only [Dm] at hc
  obtain ⟨v, hv, h⟩ := h
  rw [hv] at hc
  split at h
  ·rename_i ha
   rw [ha] at hc
   simp only at hc
   split at h
   ·split at h
    ·rename_i hl; simp only [hl, Bool.and_eq_true, Nat.blt_eq, Nat.ble_eq, Nat.beq_eq] at hc; simp only [Option.some.injEq, Prod.mk.injEq] at h; obtain ⟨rfl, _⟩ := h; exact ⟨hc.1.1.1, hc.1.1.2, hc.1.2, hc.2⟩
    ·cases h
   ·cases h
  ·cases h
 | iadT s x i =>
  simp only [A6] at h; simp only [Dm] at hc
  split at h
  ·rename_i h1 h2; rw [h1, h2] at hc; simp only [Option.some.injEq, Prod.mk.injEq] at h; obtain ⟨rfl, _⟩ := h
   simp only [Bool.and_eq_true] at hc
   exact ⟨(J6 hc.1).1, (J6 hc.1).2, Gu hc.2⟩
  ·cases h
 | iadrA len s x i =>
  simp only [A6] at h; simp only [Dm] at hc
  split at h
  ·rename_i h1 h2; rw [h2] at hc; simp only [Option.some.injEq, Prod.mk.injEq] at h; obtain ⟨rfl, _⟩ := h; exact J6 hc
  ·rename_i h1 h2; rw [h2] at hc; simp only [Option.some.injEq, Prod.mk.injEq] at h; obtain ⟨rfl, _⟩ := h; exact J6 hc
  ·cases h
 | idxS x i =>
  simp only [A6] at h; simp only [Dm] at hc
  split at h
  ·rename_i h1 h2; rw [h1, h2] at hc; simp only [Option.some.injEq, Prod.mk.injEq] at h; obtain ⟨rfl, _⟩ := h; exact J6 hc
  ·cases h
 | idxA len s g x i =>
  simp only [A6] at h; simp only [Dm] at hc
  split at h
  ·rename_i h1 h2; rw [h1, h2] at hc; simp only [Option.some.injEq, Prod.mk.injEq] at h; obtain ⟨rfl, _⟩ := h
   simp only [Bool.and_eq_true, Nat.ble_eq] at hc
   exact ⟨(J6 hc.1).1, (J6 hc.1).2, hc.2⟩
  ·rename_i h1 h2; rw [h1, h2] at hc; simp only [Option.some.injEq, Prod.mk.injEq] at h; obtain ⟨rfl, _⟩ := h
   simp only [Bool.and_eq_true, Nat.ble_eq] at hc
   exact ⟨(J6 hc.1).1, (J6 hc.1).2, hc.2⟩
  ·cases h
 | bin op x y =>
  simp only [A6] at h; simp only [Dm] at hc
  split at h
  ·rename_i h1 h2; rw [h1, h2] at hc
   simp only [Option.map_eq_some_iff, Prod.mk.injEq] at h
   obtain ⟨q, hq, rfl, _⟩ := h
   exact qBc hc hq
  ·cases h
 | eqg pos ks x y =>
  simp only [A6, Option.bind_eq_some_iff, Option.map_eq_some_iff, Prod.mk.injEq] at h; simp only [Dm] at hc
  obtain ⟨as, ⟨a, ha, ha2⟩, bs, ⟨b, hb, hb2⟩, rfl, _⟩ := h
  rw [ha, hb] at hc
  simp only [Option.bind_some, ha2, hb2, Bool.and_eq_true] at hc
  exact ⟨q6u hc.1, q6u hc.2⟩
 | isNil pos x =>
  simp only [A6] at h; simp only [Dm] at hc
  split at h
  ·rename_i h1; rw [h1] at hc; simp only at hc
   split at h
   ·simp only [Option.some.injEq, Prod.mk.injEq] at h; obtain ⟨rfl, _⟩ := h; trivial
   ·simp only [Option.some.injEq, Prod.mk.injEq] at h; obtain ⟨rfl, _⟩ := h; exact q4y hc
  ·cases h
 | mmx mx xs =>
  simp only [A6, Option.bind_eq_some_iff, Option.map_eq_some_iff, Prod.mk.injEq] at h; simp only [Dm] at hc
  obtain ⟨as, has, q, hq, rfl, _⟩ := h
  rw [has] at hc
  simp only [hq] at hc
  exact hc
 | app fz ty s b x =>
  simp only [A6, Option.bind_eq_some_iff] at h; simp only [Dm] at hc
  obtain ⟨news, ⟨v, hv, hn⟩, a, ha, h⟩ := h
  rw [hv, ha] at hc
  simp only [Option.bind_some, hn, Bool.and_eq_true] at hc
  obtain ⟨hw, hc⟩ := hc
  have hw := Gu hw
  have fin : ∀ {c0 : Prop} {es : List (List T)} {st' : St}, (if fz = true then some (Gk s news ∧ c0, AV.t (.sl es none none), st') else some ((Gk s news ∧ c0) ∧ A2 st'.hp d = none, AV.ls d 0 es.length none, (⟨st'.env, (d, .sl ty s es) :: st'.hp⟩ : St))) = some (c, r, s1) → c0 → (fz = true ∨ frB st'.hp d = true) → c := by
   intro c0 es st' h h0 hf
   split at h
   ·simp only [Option.some.injEq, Prod.mk.injEq] at h; obtain ⟨rfl, _⟩ := h; exact ⟨hw, h0⟩
   ·rename_i hfz; simp only [Option.some.injEq, Prod.mk.injEq] at h; obtain ⟨rfl, _⟩ := h
    rcases hf with hf | hf
    ·exact absurd hf hfz
    ·exact ⟨⟨hw, h0⟩, Hm hf⟩
  split at h
  ·simp only [Bool.and_eq_true, Bool.or_eq_true, Nat.beq_eq, Nat.ble_eq] at hc
   refine fin h ⟨Gu hc.1.1.1.1, hc.1.1.1.2, hc.1.1.2, ?_⟩ hc.2
   rcases hc.1.2 with (h1 | h1) | h1
   ·exact .inl h1
   ·exact .inr (.inl (q4y h1))
   ·refine .inr (.inr ?_)
    rename_i es _ _
    cases es with
    | nil => rfl
    | cons => simp [neB] at h1
  ·split at h
   ·rename_i hl; simp only [hl, Bool.and_eq_true, Bool.or_eq_true, Nat.beq_eq, Nat.ble_eq] at hc
    refine fin h ⟨hc.1.1.1.1.1, hc.1.1.1.1.2, hc.1.1.1.2, hc.1.1.2, ?_⟩ hc.2
    rcases hc.1.2 with h1 | h1
    ·exact .inl (q4y h1)
    ·exact .inr h1
   ·cases h
  ·split at h
   ·rename_i hl; simp only [hl, Bool.and_eq_true, Bool.or_eq_true, Nat.beq_eq, Nat.ble_eq] at hc
    exact fin h ⟨hc.1.1.1, hc.1.1.2, hc.1.2⟩ hc.2
   ·cases h
  ·cases h
 | appN ty s x =>
  simp only [A6] at h; simp only [Dm] at hc
  split at h
  ·rename_i h1; rw [h1] at hc; simp only [Bool.and_eq_true, Nat.ble_eq] at hc; simp only [Option.some.injEq, Prod.mk.injEq] at h; obtain ⟨rfl, _⟩ := h; exact ⟨Hm hc.1.1, Gu hc.1.2, hc.2⟩
  ·cases h
 | appT ty s b x =>
  simp only [A6, Option.bind_eq_some_iff] at h; simp only [Dm] at hc
  obtain ⟨news, ⟨v, hv, hn⟩, h⟩ := h
  split at h
  ·rename_i hb; rw [hv, hb] at hc; simp only [Option.bind_some, hn, Bool.and_eq_true, Nat.beq_eq, Nat.ble_eq] at hc
   simp only [Option.some.injEq, Prod.mk.injEq] at h; obtain ⟨rfl, _⟩ := h; exact ⟨Gu hc.1.1.1, Gu hc.1.1.2, hc.1.2, hc.2⟩
  ·cases h
 | appB b x =>
  simp only [A6, Option.bind_eq_some_iff] at h; simp only [Dm] at hc
  obtain ⟨news, ⟨v, hv, hn⟩, h⟩ := h
  split at h
  ·rename_i hb; rw [hv, hb] at hc; simp only [Option.bind_some, hn, Bool.and_eq_true, Nat.beq_eq, Nat.ble_eq] at hc
   simp only [Option.some.injEq, Prod.mk.injEq] at h; obtain ⟨rfl, _⟩ := h; exact ⟨Gu hc.1.1.1, Gu hc.1.1.2, hc.1.2, hc.2⟩
  ·cases h
 | appS ty b x =>
  simp only [A6] at h; simp only [Dm] at hc
  split at h
  ·rename_i h1 h2; rw [h1, h2] at hc
   simp only at hc
   split at h
   ·rename_i h3; simp only [h3, Bool.and_eq_true, Nat.beq_eq, Nat.ble_eq, Nat.blt_eq] at hc
    simp only [Option.some.injEq, Prod.mk.injEq] at h; obtain ⟨rfl, _⟩ := h
    exact ⟨hc.1.1.1.1, hc.1.1.1.2, hc.1.1.2, hc.1.2, Hm hc.2⟩
   ·cases h
  ·rename_i h1 h2; rw [h1, h2] at hc
   simp only [Bool.and_eq_true, Nat.ble_eq, Nat.blt_eq] at hc
   simp only [Option.some.injEq, Prod.mk.injEq] at h; obtain ⟨rfl, _⟩ := h
   exact ⟨hc.1.1, hc.1.2, Hm hc.2⟩
  ·cases h
 | appR fz i ty b x =>
  simp only [A6] at h; simp only [Dm] at hc
  split at h
  ·rename_i h1 h2; rw [h1, h2] at hc
   simp only at hc
   split at h
   ·rename_i hl
    simp only [hl, Bool.and_eq_true, Bool.or_eq_true, Nat.beq_eq, Nat.ble_eq] at hc
    split at h
    ·simp only [Option.some.injEq, Prod.mk.injEq] at h; obtain ⟨rfl, _⟩ := h; exact ⟨hc.1.1.1.1.1, Gu hc.1.1.1.1.2, hc.1.1.1.2, hc.1.1.2, hc.1.2⟩
    ·rename_i hf; simp only [Option.some.injEq, Prod.mk.injEq] at h; obtain ⟨rfl, _⟩ := h
     rcases hc.2 with h3 | h3
     ·exact absurd h3 hf
     ·exact ⟨⟨hc.1.1.1.1.1, Gu hc.1.1.1.1.2, hc.1.1.1.2, hc.1.1.2, hc.1.2⟩, Hm h3⟩
   ·cases h
  ·cases h
 | appZ ty s zs b n =>
  simp only [A6] at h; simp only [Dm] at hc
  split at h
  ·rename_i h1 h2; rw [h1, h2] at hc
   simp only [Bool.and_eq_true, decide_eq_true_eq] at hc
   simp only [Option.some.injEq, Prod.mk.injEq] at h; obtain ⟨rfl, _⟩ := h
   exact ⟨Hm hc.1.1.1.1, hc.1.1.1.2, ⟨Gu hc.1.1.2, hc.1.2⟩, hc.2⟩
  ·cases h
 | cpy s x y =>
  simp only [A6] at h; simp only [Dm] at hc
  split at h
  ·rename_i h1; rw [h1] at hc
   split at h
   ·rename_i hl
    simp only [Option.map_eq_some_iff, Prod.mk.injEq] at h
    obtain ⟨news, hn, rfl, _⟩ := h
    rw [hn] at hc
    simp only [hl, Bool.and_eq_true, Nat.beq_eq] at hc
    exact ⟨hc.1, Gu hc.2⟩
   ·cases h
  ·cases h
 | clr s zs x =>
  simp only [A6] at h; simp only [Dm] at hc
  split at h
  ·rename_i h1; rw [h1] at hc; simp only at hc
   split at h
   ·rename_i hl; rw [hl] at hc; simp only [Option.some.injEq, Prod.mk.injEq] at h; obtain ⟨rfl, _⟩ := h; exact Nat.eq_of_beq_eq_true hc
   ·cases h
  ·cases h
 | slice s x lo hi mx =>
  simp only [A6, Option.bind_eq_some_iff] at h; simp only [Dm] at hc
  obtain ⟨a, ha, h⟩ := h
  rw [ha] at hc
  split at h
  ·simp only [Option.bind_eq_some_iff, Option.map_eq_some_iff, Prod.mk.injEq] at h
   obtain ⟨l, hl, q, hq, rfl, _⟩ := h
   simp only [hl, hq, Bool.and_eq_true, Nat.beq_eq, Nat.ble_eq] at hc
   exact ⟨hc.1.1.1.1, Jz hc.1.1.1.2 hl, Jz hc.1.1.2 hq, hc.1.2, hc.2⟩
  ·simp only [Option.bind_eq_some_iff] at h
   obtain ⟨l, hl, q, hq, h⟩ := h
   simp only [hl, hq, Bool.and_eq_true, Nat.beq_eq, Nat.ble_eq, Bool.not_eq_true'] at hc
   have hs : s ≠ 0 := fun e => by subst e; simp at hc
   obtain ⟨⟨⟨⟨⟨_, hw⟩, h1⟩, h2⟩, h3⟩, hc⟩ := hc
   split at h
   ·simp only [Option.some.injEq, Prod.mk.injEq] at h; obtain ⟨rfl, _⟩ := h
    exact ⟨hs, Gu hw, Jz h1 hl, Jz h2 hq, h3, Nat.le_of_ble_eq_true hc⟩
   ·simp only [Option.map_eq_some_iff, Prod.mk.injEq] at h
    obtain ⟨m, hm, rfl, _⟩ := h
    simp only [hm, Bool.and_eq_true, Nat.ble_eq] at hc
    exact ⟨hs, Gu hw, Jz h1 hl, Jz h2 hq, Jz hc.1.1 hm, h3, hc.1.2, hc.2⟩
  ·simp only [Option.bind_eq_some_iff] at h
   obtain ⟨l, hl, q, hq, h⟩ := h
   simp only [hl, hq, Bool.and_eq_true, Nat.beq_eq, Nat.ble_eq, Bool.not_eq_true'] at hc
   have hs : s ≠ 0 := fun e => by subst e; simp at hc
   obtain ⟨⟨⟨⟨⟨_, hw⟩, h1⟩, h2⟩, h3⟩, hc⟩ := hc
   split at h
   ·rename_i hlk
    rw [hlk] at hw
    split at h
    ·simp only [Option.some.injEq, Prod.mk.injEq] at h; obtain ⟨rfl, _⟩ := h
     exact ⟨hs, Nat.eq_of_beq_eq_true hw, Jz h1 hl, Jz h2 hq, h3, Nat.le_of_ble_eq_true hc⟩
    ·simp only [Option.map_eq_some_iff, Prod.mk.injEq] at h
     obtain ⟨m, hm, rfl, _⟩ := h
     simp only [hm, Bool.and_eq_true, Nat.ble_eq] at hc
     exact ⟨hs, Nat.eq_of_beq_eq_true hw, Jz h1 hl, Jz h2 hq, Jz hc.1.1 hm, h3, hc.1.2, hc.2⟩
   ·cases h
  ·cases h
 | mk ty s zs l q =>
  simp only [A6] at h; simp only [Dm] at hc
  split at h
  ·rename_i h1 h2; rw [h1, h2] at hc
   simp only [Bool.and_eq_true, decide_eq_true_eq] at hc
   simp only [Option.some.injEq, Prod.mk.injEq] at h; obtain ⟨rfl, _⟩ := h
   exact ⟨Hm hc.1.1.1, q2v hc.1.1.2, hc.1.2, hc.2⟩
  ·cases h
 | mkE ty s zs l q =>
  simp only [A6] at h; simp only [Dm] at hc
  split at h
  ·rename_i h1 h2; rw [h1, h2] at hc
   simp only [Bool.and_eq_true, decide_eq_true_eq] at hc
   simp only [Option.some.injEq, Prod.mk.injEq] at h; obtain ⟨rfl, _⟩ := h
   exact ⟨Hm hc.1.1.1, q2v hc.1.1.2, hc.1.2, hc.2⟩
  ·cases h
 | mkB ty zs l q =>
  simp only [A6] at h; simp only [Dm] at hc
  split at h
  ·rename_i h1 h2; rw [h1, h2] at hc
   simp only [Bool.and_eq_true, decide_eq_true_eq] at hc
   simp only [Option.some.injEq, Prod.mk.injEq] at h; obtain ⟨rfl, _⟩ := h
   exact ⟨Hm hc.1.1.1, q2v hc.1.1.2, hc.1.2, hc.2⟩
  ·cases h
 | mkf f caps =>
  simp only [A6, Option.map_eq_some_iff, Prod.mk.injEq] at h; simp only [Dm] at hc
  obtain ⟨as, has, rfl, _⟩ := h
  rw [has] at hc; exact hc
 | mkfB f caps =>
  simp only [A6, Option.map_eq_some_iff, Prod.mk.injEq] at h; simp only [Dm] at hc
  obtain ⟨as, has, rfl, _⟩ := h
  rw [has] at hc; exact hc
 | mkmap => simp only [A6, Option.some.injEq, Prod.mk.injEq] at h; obtain ⟨rfl, _⟩ := h; exact Hm hc
 | rng x =>
  simp only [A6] at h; simp only [Dm] at hc
  split at h
  ·simp only [Option.some.injEq, Prod.mk.injEq] at h; obtain ⟨rfl, _⟩ := h; exact Hm hc
  ·cases h
 | lkup kt zv ok m k =>
  simp only [A6] at h; simp only [Dm] at hc
  split at h
  ·rename_i hk; rw [hk] at hc; simp only [Bool.and_eq_true] at hc
   obtain ⟨hf, hc⟩ := hc
   split at h
   ·rename_i hm; rw [hm] at hc; simp only [Option.some.injEq, Prod.mk.injEq] at h; obtain ⟨rfl, _⟩ := h; exact ⟨hf, q01 hc⟩
   ·rename_i hm; rw [hm] at hc; simp only at hc
    split at h
    ·rename_i hl; rw [hl] at hc; simp only [Option.some.injEq, Prod.mk.injEq] at h; obtain ⟨rfl, _⟩ := h; exact ⟨hf, q01 hc⟩
    ·cases h
   ·cases h
  ·cases h
 | lkT kt zv ok m k =>
  simp only [A6] at h; simp only [Dm] at hc
  split at h
  ·rename_i h1 h2; rw [h1, h2] at hc; simp only [Bool.and_eq_true] at hc; simp only [Option.some.injEq, Prod.mk.injEq] at h; obtain ⟨rfl, _⟩ := h; exact ⟨hc.1, q01 hc.2⟩
  ·cases h
 | mup kt m k x =>
  simp only [A6] at h; simp only [Dm] at hc
  split at h
  ·rename_i h1 h2; rw [h1, h2] at hc; simp only at hc
   split at h
   ·rename_i hl; simp only [hl, Bool.and_eq_true] at hc
    simp only [Option.map_eq_some_iff, Prod.mk.injEq] at h
    obtain ⟨_, _, rfl, _⟩ := h
    exact ⟨hc.1, q01 hc.2⟩
   ·cases h
  ·cases h
 | _ => cases hc
end Go.Lg
namespace Go.Lg
open Go
structure Fe where
 ic : IC
 N : Nat
 n : Nat
 rv : List RV
abbrev Tbl := List (Nat × Fe)
def q2w (P : Program) : Tbl → Prop
 | [] => True
 | (f, e) :: l => Ax P f e.ic e.N e.n e.rv = true ∧ q2w P l
theorem Ur {P : Program} : ∀ {tb : Tbl} {f : Nat} {e : Fe}, q2w P tb → A2 tb f = some e → Ax P f e.ic e.N e.n e.rv = true
 | [], _, _, _, h => by simp [A2] at h
 | (k, v) :: l, f, e, ho, h => by
  simp only [A2] at h
  split at h
  ·rename_i hk; subst hk; simp only [Option.some.injEq] at h; subst h; exact ho.1
  ·exact Ur ho.2 h
structure Or where
 p : FuncId → List T → Option T
 f : FuncId → List T → Option T
 h : FuncId → List (Nat × Ak) → List AV → Option (AV × List (Nat × Ak))
structure q1w (P : Program) (Γ : Tables) (o : Or) : Prop where
 p : ∀ f ts r, o.p f ts = some r → Aw P Γ f ts r
 f : ∀ f ts r, o.f f ts = some r → A5 P Γ f ts r
 h : ∀ f hp as r hp', o.h f hp as = some (r, hp') → C3 P Γ f hp as r hp'
def q9o (rs : List Nat) (base : Nat) (hp : List (Nat × Ak)) : List (Nat × Ak) → Bool
 | [] => true
 | (j, r) :: l => (if j < 1000000 then frB hp (base + j) && Nat.blt (base + j) 1000000 else Nat.blt (j - 1000000) rs.length && (match A2 hp (rs.getD (j - 1000000) 0), r with
   | some (.sl _ s es), .sl _ s' es' => Nat.beq s s' && Nat.beq es.length es'.length
   | some (.rs _ s es), .sl _ s' es' => Nat.beq s s' && Nat.beq es.length es'.length
   | some (.sl _ s es), .rs _ s' es' => Nat.beq s s' && Nat.beq es.length es'.length
   | some (.rs _ s es), .rs _ s' es' => Nat.beq s s' && Nat.beq es.length es'.length
   | some (.bx _), .bx _ => true
   | some (.mp _), .mp _ => true
   | some (.it _ _), .it _ _ => true
   | _, _ => false)) && q9o rs base hp l
theorem q4z {rs : List Nat} {base : Nat} {hp : List (Nat × Ak)} : ∀ {l : List (Nat × Ak)}, q9o rs base hp l = true → Qi rs base hp l
 | [], _ => trivial
 | (j, r) :: l, h => by
  simp only [q9o, Bool.and_eq_true] at h
  refine ⟨?_, q4z h.2⟩
  have h1 := h.1
  split at h1
  ·rename_i hj
   simp only [Bool.and_eq_true, Nat.blt_eq] at h1
   rw [if_pos hj]
   exact ⟨Hm h1.1, h1.2⟩
  ·rename_i hj
   rw [if_neg hj]
   simp only [Bool.and_eq_true, Nat.blt_eq] at h1
   refine ⟨h1.1, ?_⟩
   have h2 := h1.2
   split at h2
   all_goals first
    | (cases h2; done)
    | (rename_i hl; simp only [Bool.and_eq_true, Nat.beq_eq] at h2; rw [hl]; simp [Ak.sh, h2]; done)
    | (rename_i hl; rw [hl]; rfl)
def q9p : List Nat → Bool
 | [] => true
 | a :: l => !(l.contains a) && q9p l
theorem q50 : ∀ {l : List Nat}, q9p l = true → l.Nodup
 | [], _ => List.nodup_nil
 | a :: l, h => by
  simp only [q9p, Bool.and_eq_true, Bool.not_eq_true'] at h
  exact List.nodup_cons.2 ⟨fun hm => by simp [hm] at h, q50 h.2⟩
def q5u : AV → List Nat
 | .ls i _ _ _ => [i]
 | .lp i _ _ => [i]
 | .lm i => [i]
 | .lb i _ => [i]
 | .li i => [i]
 | _ => []
def q9q : AV → List Nat
 | .ag cs => cs.flatMap q5u
 | .tu cs => cs.flatMap fun c => match c with | .ag ds => ds.flatMap q5u | c => q5u c
 | .fn _ cs => cs.flatMap q5u
 | a => q5u a
def qG4 : Ak → List Nat
 | .bx cs => cs.flatMap q9q
 | .rs _ _ es => es.flatMap fun e => e.flatMap q9q
 | _ => []
def q51 (hp : List (Nat × Ak)) : Nat → List Nat → List Nat → List Nat
 | 0, _, acc => acc
 | _ + 1, [], acc => acc
 | k + 1, a :: l, acc =>
  if acc.contains a then q51 hp k l acc
  else match A2 hp a with
   | some r => q51 hp k (l ++ qG4 r) (acc ++ [a])
   | none => q51 hp k l acc
def qG5 (hp : List (Nat × Ak)) (as : List AV) : List Nat := q51 hp 10000 (as.flatMap q9q) []
def q7u : Value → Value → Bool
 | .bool a, .bool b => a == b
 | .int k a, .int j b => decide (k = j) && decide (a = b)
 | .string a, .string b => a.data.toList == b.data.toList
 | .pointer none, .pointer none => true
 | .slice none 0 0, .slice none 0 0 => true
 | .map none, .map none => true
 | .nilFunc, .nilFunc => true
 | _, _ => false
theorem q5v {x y : Value} (h : q7u x y = true) : x = y := by
 unfold q7u at h
 split at h
 ·simp at h; rw [h]
 ·simp only [Bool.and_eq_true, decide_eq_true_eq] at h; rw [h.1, h.2]
 ·rename_i a b
  have h := eq_of_beq h
  obtain ⟨⟨a⟩⟩ := a
  obtain ⟨⟨b⟩⟩ := b
  simp only at h
  rw [h]
 all_goals first | rfl | cases h
def eqL {α : Type} (p : α → α → Bool) : List α → List α → Bool
 | [], [] => true
 | a :: as, b :: bs => p a b && eqL p as bs
 | _, _ => false
theorem Rz {α : Type} {p : α → α → Bool} (hp : ∀ a b, p a b = true → a = b) : ∀ {l m : List α}, eqL p l m = true → l = m
 | [], [], _ => rfl
 | a :: as, b :: bs, h => by
  simp only [eqL, Bool.and_eq_true] at h
  rw [hp _ _ h.1, Rz hp h.2]
 | [], _ :: _, h => by cases h
 | _ :: _, [], h => by cases h
def eqT : Nat → T → T → Bool
 | 0, _, _ => false
 | n + 1, x, y => match x, y with
  | .v a, .v b => q7u a b
  | .sl es c b, .sl fs d e => decide (c = d) && decide (b = e) && eqL (eqL (eqT n)) es fs
  | .agg cs, .agg ds => eqL (eqT n) cs ds
  | .tup cs, .tup ds => eqL (eqT n) cs ds
  | .ip cs k, .ip ds j => Nat.beq k j && eqL (eqT n) cs ds
  | .fn f cs, .fn g ds => Nat.beq f g && eqL (eqT n) cs ds
  | .mp es, .mp fs => eqL (fun a b => q7u a.1 b.1 && eqT n a.2 b.2) es fs
  | _, _ => false
theorem q9r : ∀ (n : Nat) (x y : T), eqT n x y = true → x = y
 | 0, _, _, h => by cases h
 | n + 1, x, y, h => by
  have ih := q9r n
  simp only [eqT] at h
  split at h
  ·rw [q5v h]
  ·simp only [Bool.and_eq_true, decide_eq_true_eq] at h
   rw [h.1.1, h.1.2, Rz (fun _ _ q => Rz ih q) h.2]
  ·rw [Rz ih h]
  ·rw [Rz ih h]
  ·simp only [Bool.and_eq_true, Nat.beq_eq] at h; rw [h.1, Rz ih h.2]
  ·simp only [Bool.and_eq_true, Nat.beq_eq] at h; rw [show _ = _ from h.1, Rz ih h.2]
  ·rw [Rz (fun a b q => ?_) h]
   simp only [Bool.and_eq_true] at q
   exact Prod.ext (q5v q.1) (ih _ _ q.2)
  ·cases h
def Xz : List (Nat × Ak) → List (Nat × Ak) → Bool
 | [], [] => true
 | (i, .sl t s es) :: l, (j, .sl u q fs) :: m => Nat.beq i j && Nat.beq t u && Nat.beq s q && eqL (eqL (eqT 100)) es fs && Xz l m
 | _, _ => false
theorem q7v : ∀ {l m : List (Nat × Ak)}, Xz l m = true → l = m
 | [], [], _ => rfl
 | (i, .sl t s es) :: l, (j, .sl u q fs) :: m, h => by
  simp only [Xz, Bool.and_eq_true, Nat.beq_eq] at h
  obtain ⟨⟨⟨⟨h1, h2⟩, h3⟩, h4⟩, h5⟩ := h
  rw [h1, h2, h3, Rz (fun _ _ q => Rz (q9r 100) q) h4, q7v h5]
 | [], _ :: _, h => by simp [Xz] at h
 | _ :: _, [], h => by simp [Xz] at h
 | (_, .rs _ _ _) :: _, _ :: _, h => by simp [Xz] at h
 | (_, .bx _) :: _, _ :: _, h => by simp [Xz] at h
 | (_, .mp _) :: _, _ :: _, h => by simp [Xz] at h
 | (_, .mr _) :: _, _ :: _, h => by simp [Xz] at h
 | (_, .it _ _) :: _, _ :: _, h => by simp [Xz] at h
 | (_, .sl _ _ _) :: _, (_, .rs _ _ _) :: _, h => by simp [Xz] at h
 | (_, .sl _ _ _) :: _, (_, .bx _) :: _, h => by simp [Xz] at h
 | (_, .sl _ _ _) :: _, (_, .mp _) :: _, h => by simp [Xz] at h
 | (_, .sl _ _ _) :: _, (_, .mr _) :: _, h => by simp [Xz] at h
 | (_, .sl _ _ _) :: _, (_, .it _ _) :: _, h => by simp [Xz] at h
def qDm (hp : List (Nat × Ak)) (i : Nat) : Bool := match A2 hp i with
 | some (.sl _ _ _) => true
 | _ => false
theorem qBe {hp : List (Nat × Ak)} {i : Nat} (h : qDm hp i = true) : ∃ ty s es, A2 hp i = some (.sl ty s es) := by
 unfold qDm at h
 split at h
 ·rename_i hl; exact ⟨_, _, _, hl⟩
 ·cases h
section
variable (o : Or) (Γ : Tables)
def hE (st : St) (f : FuncId) (as : List AV) (rs : List Nat) (base : Nat) : Option (AV × St) :=
 if q9p rs then match o.h f (B8 rs st.hp) (as.map (Ae (Rw rs))) with
  | some (res, hp') => if q9o rs base st.hp hp' then some (Ae (fun i => some (Np rs base i)) res, C7 rs base hp' st) else none
  | none => none
 else none
def cE (hp : List (Nat × Ak)) (f : FuncId) (as : List AV) : Option T := match Aa (as.map toT) with
 | some ts => o.p f ts
 | none => match Aa (as.map (An hp 4)) with
  | some ts => o.f f ts
  | none => none
def q9s (d : Nat) (io : Ar) (st : St) : Option (AV × St) := match A6 Γ d io st with
 | some (_, r, s1) => if Dm Γ d io st then some (r, s1) else none
 | none => none
def opE (d : Nat) (io : Ar) (st : St) : Option (AV × St) := match io with
 | .call f args => match Hk Γ st.env args with
  | some as => match cE o st.hp f as with
   | some r => some (.t r, st)
   | none => none
  | none => none
 | .callv x args => match (ev Γ st.env x).bind Xx, Hk Γ st.env args with
  | some p, some as => match cE o st.hp p.1 (as ++ p.2) with
   | some r => some (.t r, st)
   | none => none
  | _, _ => none
 | .callT f args => match Hk Γ st.env args with
  | some as => match Aa (as.map toT) with
   | some ts => match o.p f ts with
    | some r => some (.t r, st)
    | none => none
   | none => none
  | none => none
 | .hcall f args rs base => match Hk Γ st.env args with
  | some as => hE o st f as rs base
  | none => none
 | .hcallv x args rs base => match (ev Γ st.env x).bind Xx, Hk Γ st.env args with
  | some p, some as => hE o st p.1 (as ++ p.2) rs base
  | _, _ => none
 | .hcallW f args base => match Hk Γ st.env args with
  | some as => hE o st f as (qG5 st.hp as) base
  | none => none
 | .hcallvW x args base => match (ev Γ st.env x).bind Xx, Hk Γ st.env args with
  | some p, some as => hE o st p.1 (as ++ p.2) (qG5 st.hp (as ++ p.2)) base
  | _, _ => none
 | .ncall f args base => match Hk Γ st.env args with
  | some as => match o.h f [] (as.map (Ae (Rw []))) with
   | some (res, hp') => if q9o [] base st.hp hp' then some (Ae (fun i => some (Np [] base i)) res, ⟨st.env, Et [] base hp' ++ st.hp⟩) else none
   | none => none
  | none => none
 | .rcall f args rs => match Hk Γ st.env args with
  | some as => if q9p rs && rs.all (qDm st.hp) then match o.h f (B8 rs st.hp) (as.map (Ae (Rw rs))) with
    | some (res, hp') => if Xz hp' (B8 rs st.hp) then some (Ae (fun i => some (Np rs 0 i)) res, st) else none
    | none => none
   else none
  | none => none
 | .hcallB _ _ _ => none
 | io => q9s Γ d io st
def osE : List RO → St → Option St
 | [], s => some s
 | ro :: ros, s => match C9 s.env ro.guard with
  | some true => match opE o Γ ro.d ro.op s with
   | some (r, s1) => osE ros (s1.put ro.dst r)
   | none => none
  | some false => osE ros (s.put ro.dst .un)
  | none => none
def q03 (F : St → Option (AX × St)) : Nat → St → Option (AX × St)
 | 0, _ => none
 | n + 1, s => match F s with
  | some (.normal, s1) => q03 F n s1
  | x => x
def By : IC → St → Option (AX × St)
 | .skip, s => some (.normal, s)
 | .reg ros gs, s => match osE o Γ ros s with
  | some s1 => some (.normal, gs.foldl (fun s g => g.run s) s1)
  | none => none
 | .seq a b, s => match By a s with
  | some (.normal, s1) => By b s1
  | x => x
 | .cond c a b, s => match ev Γ s.env c with
  | some (.t (.v (.bool true))) => By a s
  | some (.t (.v (.bool false))) => By b s
  | _ => none
 | .block id a, s => match By a s with
  | some (.exit i, s1) => if i = id then some (.normal, s1) else some (.exit i, s1)
  | x => x
 | .loop a, s => q03 (By a) 100000000 s
 | .exit i, s => some (.exit i, s)
 | .ret, s => some (.ret, s)
 | .scope a, s => By a s
 | .gh a gs, s => match By a s with
  | some (.normal, s1) => some (.normal, gs.foldl (fun s g => g.run s) s1)
  | x => x
 | .ghW a, s => By a s
 | .pre gs a, s => By a (gs.foldl (fun s g => g.run s) s)
 | .dead, _ => none
end
section
variable {P : Program} {Γ : Tables} {o : Or}
theorem q7w (ho : q1w P Γ o) {st : St} {f : FuncId} {as : List AV} {rs : List Nat} {base : Nat} {r : AV} {s1 : St} (h : hE o st f as rs base = some (r, s1)) :
  ∃ res hp', rs.Nodup ∧ C3 P Γ f (B8 rs st.hp) (as.map (Ae (Rw rs))) res hp' ∧ Qi rs base st.hp hp' ∧ r = Ae (fun i => some (Np rs base i)) res ∧ s1 = C7 rs base hp' st := by
 unfold hE at h
 split at h
 ·rename_i hn
  split at h
  ·rename_i res hp' hh
   split at h
   ·rename_i hb
    simp only [Option.some.injEq, Prod.mk.injEq] at h
    exact ⟨res, hp', q50 hn, ho.h _ _ _ _ _ hh, q4z hb, h.1.symm, h.2.symm⟩
   ·cases h
  ·cases h
 ·cases h
theorem qCR (ho : q1w P Γ o) {hp : List (Nat × Ak)} {f : FuncId} {as : List AV} {r : T} (h : cE o hp f as = some r) : W8 P Γ hp f as r := by
 unfold cE at h
 split at h
 ·rename_i ts hts; exact .inl ⟨ts, hts, ho.p _ _ _ h⟩
 ·split at h
  ·rename_i ts hts; exact .inr ⟨ts, hts, ho.f _ _ _ h⟩
  ·cases h
theorem qBf {d : Nat} {io : Ar} {st s1 : St} {r : AV} (h : q9s Γ d io st = some (r, s1)) : ∃ c, A6 Γ d io st = some (c, r, s1) ∧ c := by
 unfold q9s at h
 split at h
 ·rename_i c r' s' hs
  split at h
  ·rename_i hc
   simp only [Option.some.injEq, Prod.mk.injEq] at h
   obtain ⟨rfl, rfl⟩ := h
   exact ⟨c, hs, qBd hs hc⟩
  ·cases h
 ·cases h
theorem qDn (ho : q1w P Γ o) {d : Nat} {io : Ar} {st s1 : St} {r : AV} (h : opE o Γ d io st = some (r, s1)) : Bw P Γ d io st r s1 := by
 unfold opE at h
 split at h
 ·split at h
  ·rename_i as has
   split at h
   ·rename_i res hc; simp only [Option.some.injEq, Prod.mk.injEq] at h; exact ⟨as, res, has, qCR ho hc, h.1.symm, h.2.symm⟩
   ·cases h
  ·cases h
 ·split at h
  ·rename_i p as hp has
   obtain ⟨a, ha, hf⟩ := Option.bind_eq_some_iff.1 hp
   split at h
   ·rename_i res hc; simp only [Option.some.injEq, Prod.mk.injEq] at h; exact ⟨a, p.1, p.2, as, res, ha, hf, has, qCR ho hc, h.1.symm, h.2.symm⟩
   ·cases h
  ·cases h
 ·split at h
  ·rename_i as has
   split at h
   ·rename_i ts hts
    split at h
    ·rename_i res hc; simp only [Option.some.injEq, Prod.mk.injEq] at h; exact ⟨as, ts, res, has, hts, .inl (ho.p _ _ _ hc), h.1.symm, h.2.symm⟩
    ·cases h
   ·cases h
  ·cases h
 ·split at h
  ·rename_i as has
   obtain ⟨res, hp', h1, h2, h3, h4, h5⟩ := q7w ho h
   exact ⟨as, res, hp', has, h1, h2, h3, h4, h5⟩
  ·cases h
 ·split at h
  ·rename_i p as hp has
   obtain ⟨a, ha, hf⟩ := Option.bind_eq_some_iff.1 hp
   obtain ⟨res, hp', h1, h2, h3, h4, h5⟩ := q7w ho h
   exact ⟨a, p.1, p.2, as, res, hp', ha, hf, has, h1, h2, h3, h4, h5⟩
  ·cases h
 ·split at h
  ·rename_i as has
   obtain ⟨res, hp', h1, h2, h3, h4, h5⟩ := q7w ho h
   exact ⟨_, as, res, hp', has, h1, h2, h3, h4, h5⟩
  ·cases h
 ·split at h
  ·rename_i p as hp has
   obtain ⟨a, ha, hf⟩ := Option.bind_eq_some_iff.1 hp
   obtain ⟨res, hp', h1, h2, h3, h4, h5⟩ := q7w ho h
   exact ⟨_, a, p.1, p.2, as, res, hp', ha, hf, has, h1, h2, h3, h4, h5⟩
  ·cases h
 ·split at h
  ·rename_i as has
   split at h
   ·rename_i res hp' hh
    split at h
    ·rename_i hb
     simp only [Option.some.injEq, Prod.mk.injEq] at h
     exact ⟨as, res, hp', has, ho.h _ _ _ _ _ hh, q4z hb, h.1.symm, h.2.symm⟩
    ·cases h
   ·cases h
  ·cases h
 ·split at h
  ·rename_i as has
   split at h
   ·rename_i hb
    simp only [Bool.and_eq_true] at hb
    split at h
    ·rename_i res hp' hh
     split at h
     ·rename_i he
      simp only [Option.some.injEq, Prod.mk.injEq] at h
      rw [q7v he] at hh
      exact ⟨as, res, has, q50 hb.1, fun i hi => qBe (List.all_eq_true.1 hb.2 i hi), ho.h _ _ _ _ _ hh, h.1.symm, h.2.symm⟩
     ·cases h
    ·cases h
   ·cases h
  ·cases h
 ·cases h
 ·rename_i h1 h2 h3 h4 h5 h6 h7 h8 h9 h10
  have := qBf h
  unfold Bw
  split
  all_goals first
   | exact this
   | (exfalso; first | exact h1 _ _ rfl | exact h2 _ _ rfl | exact h3 _ _ rfl | exact h4 _ _ _ _ rfl | exact h5 _ _ _ _ rfl | exact h6 _ _ _ rfl | exact h7 _ _ _ rfl | exact h8 _ _ _ rfl | exact h9 _ _ _ rfl | exact h10 _ _ _ rfl)
theorem q6w (ho : q1w P Γ o) : ∀ {ros : List RO} {s s1 : St}, osE o Γ ros s = some s1 → K3 P Γ ros s s1
 | [], s, s1, h => by simp only [osE, Option.some.injEq] at h; exact h.symm
 | ro :: ros, s, s1, h => by
  simp only [osE] at h
  split at h
  ·rename_i hw
   split at h
   ·rename_i r s2 hr; exact ⟨_, .inl ⟨hw, r, s2, qDn ho hr, rfl⟩, q6w ho h⟩
   ·cases h
  ·rename_i hw; exact ⟨_, .inr ⟨hw, rfl⟩, q6w ho h⟩
  ·cases h
theorem E2 (ho : q1w P Γ o) : ∀ {c : IC} {s s1 : St} {e : AX}, By o Γ c s = some (e, s1) → awp P Γ c (fun e2 s2 => e2 = e ∧ s2 = s1) s
 | .skip, s, s1, e, h => by simp only [By, Option.some.injEq, Prod.mk.injEq] at h; exact ⟨h.1, h.2⟩
 | .reg ros gs, s, s1, e, h => by
  simp only [By] at h
  split at h
  ·rename_i s2 hs; simp only [Option.some.injEq, Prod.mk.injEq] at h; exact ⟨s2, q6w ho hs, h.1, h.2⟩
  ·cases h
 | .seq a b, s, s1, e, h => by
  simp only [By] at h
  split at h
  ·rename_i s2 hs
   refine Ag (c := a) (E2 ho hs) fun e2 s3 ⟨he, hs3⟩ => ?_
   subst he; subst hs3
   exact E2 ho h
  ·rename_i hn
   refine Ag (c := a) (E2 ho h) fun e2 s3 ⟨he, hs3⟩ => ?_
   subst he; subst hs3
   cases e2 with
   | normal => exact absurd h (hn _)
   | exit i => exact ⟨rfl, rfl⟩
   | ret => exact ⟨rfl, rfl⟩
 | .cond c a b, s, s1, e, h => by
  simp only [By] at h
  split at h
  ·rename_i hc; exact ⟨true, hc, fun _ => E2 ho h, fun h => by cases h⟩
  ·rename_i hc; exact ⟨false, hc, (fun h => by cases h), fun _ => E2 ho h⟩
  ·cases h
 | .block id a, s, s1, e, h => by
  simp only [By] at h
  split at h
  ·rename_i i s2 hs
   refine Ag (c := a) (E2 ho hs) fun e2 s3 ⟨he, hs3⟩ => ?_
   subst he; subst hs3
   split at h
   ·rename_i hi; simp only [Option.some.injEq, Prod.mk.injEq] at h; simp only [J5, if_pos hi]; exact ⟨h.1, h.2⟩
   ·rename_i hi; simp only [Option.some.injEq, Prod.mk.injEq] at h; simp only [J5, if_neg hi]; exact ⟨h.1, h.2⟩
  ·rename_i hn
   refine Ag (c := a) (E2 ho h) fun e2 s3 ⟨he, hs3⟩ => ?_
   subst he; subst hs3
   cases e2 with
   | normal => exact ⟨rfl, rfl⟩
   | exit i => exact absurd h (hn _ _)
   | ret => exact ⟨rfl, rfl⟩
 | .loop a, s, s1, e, h => by
  simp only [By] at h
  have key : ∀ (n : Nat) (s : St), q03 (By o Γ a) n s = some (e, s1) → q7p (awp P Γ a) (fun e2 s2 => e2 = e ∧ s2 = s1) n s := by
   intro n
   induction n with
   | zero => intro s h; cases h
   | succ n ih =>
    intro s h
    simp only [q03] at h
    split at h
    ·rename_i s2 hs
     refine Ag (c := a) (E2 ho hs) fun e2 s3 ⟨he, hs3⟩ => ?_
     subst he; subst hs3
     exact ih _ h
    ·rename_i hn
     refine Ag (c := a) (E2 ho h) fun e2 s3 ⟨he, hs3⟩ => ?_
     subst he; subst hs3
     cases e2 with
     | normal => exact absurd h (hn _)
     | exit i => exact ⟨rfl, rfl⟩
     | ret => exact ⟨rfl, rfl⟩
  exact ⟨_, key _ s h⟩
 | .exit i, s, s1, e, h => by simp only [By, Option.some.injEq, Prod.mk.injEq] at h; exact ⟨h.1, h.2⟩
 | .ret, s, s1, e, h => by simp only [By, Option.some.injEq, Prod.mk.injEq] at h; exact ⟨h.1, h.2⟩
 | .scope a, s, s1, e, h => E2 (c := a) ho h
 | .gh a gs, s, s1, e, h => by
  simp only [By] at h
  split at h
  ·rename_i s2 hs
   refine Ag (c := a) (E2 ho hs) fun e2 s3 ⟨he, hs3⟩ => ?_
   subst he; subst hs3
   simp only [Option.some.injEq, Prod.mk.injEq] at h
   exact ⟨h.1, h.2⟩
  ·rename_i hn
   refine Ag (c := a) (E2 ho h) fun e2 s3 ⟨he, hs3⟩ => ?_
   subst he; subst hs3
   cases e2 with
   | normal => exact absurd h (hn _)
   | exit i => exact ⟨rfl, rfl⟩
   | ret => exact ⟨rfl, rfl⟩
 | .ghW a, s, s1, e, h => by
  refine Ag (c := a) (E2 (c := a) ho h) fun e2 s3 ⟨he, hs3⟩ => ?_
  subst he; subst hs3
  cases e2 with
  | normal => exact ⟨_, fun _ _ _ _ _ _ _ _ h => h, rfl, rfl⟩
  | exit i => exact ⟨rfl, rfl⟩
  | ret => exact ⟨rfl, rfl⟩
 | .pre gs a, s, s1, e, h => E2 (c := a) ho h
 | .dead, s, s1, e, h => by cases h
end
section
def rvC (s : St) : RV → Bool
 | .tmp _ => true
 | .cell t n _ => match A2 s.env t with
  | some (.lp id _ k) => match A2 s.hp id with
   | some (.bx cs) => Nat.ble (k + n) cs.length
   | _ => false
  | _ => false
theorem Z8 {s : St} {rv : RV} {c : Prop} {a : AV} (h : rvC s rv = true) (hr : Zz s rv = some (c, a)) : c := by
 cases rv with
 | tmp t => simp only [Zz, Option.map_eq_some_iff, Prod.mk.injEq] at hr; obtain ⟨_, _, rfl, _⟩ := hr; trivial
 | cell t n g =>
  simp only [Zz] at hr; simp only [rvC] at h
  split at h
  ·rename_i id i k hl
   rw [hl] at hr
   simp only at hr
   split at h
   ·rename_i cs hb
    rw [hb] at hr
    simp only [Option.some.injEq, Prod.mk.injEq] at hr
    rw [← hr.1]; exact Nat.le_of_ble_eq_true h
   ·cases h
  ·cases h
theorem S0 {s : St} {rv : RV} {c : Prop} {a : T} (h : rvC s rv = true) (hr : Z5 s rv = some (c, a)) : c := by
 simp only [Z5, Option.bind_eq_some_iff, Option.map_eq_some_iff, Prod.mk.injEq] at hr
 obtain ⟨q, hq, t, _, hc, _⟩ := hr
 rw [← hc]; exact Z8 h hq
def q8i (s : St) (rvs : List RV) : Option T := match Pj s rvs with
 | some (_, r) => if rvs.all (rvC s) then some r else none
 | none => none
theorem q7x {s : St} {rvs : List RV} {r : T} (h : q8i s rvs = some r) : ∃ c, Pj s rvs = some (c, r) ∧ c := by
 unfold q8i at h
 split at h
 ·rename_i c r' hr
  split at h
  ·rename_i ha
   simp only [Option.some.injEq] at h; subst h
   refine ⟨c, hr, ?_⟩
   have hb : ∀ x ∈ rvs, rvC s x = true := List.all_eq_true.1 ha
   unfold Pj at hr
   split at hr
   ·simp only [Option.some.injEq, Prod.mk.injEq] at hr; rw [← hr.1]; trivial
   ·exact S0 (hb _ (by simp)) hr
   ·simp only [Option.bind_eq_some_iff, Option.map_eq_some_iff, Prod.mk.injEq] at hr
    obtain ⟨p, hp, q, hq, h1, _⟩ := hr
    rw [← h1]; exact ⟨S0 (hb _ (by simp)) hp, S0 (hb _ (by simp)) hq⟩
   ·simp only [Option.bind_eq_some_iff, Option.map_eq_some_iff, Prod.mk.injEq] at hr
    obtain ⟨p, hp, q, hq, u, hu, h1, _⟩ := hr
    rw [← h1]; exact ⟨S0 (hb _ (by simp)) hp, S0 (hb _ (by simp)) hq, S0 (hb _ (by simp)) hu⟩
   ·simp only [Option.bind_eq_some_iff, Option.map_eq_some_iff, Prod.mk.injEq] at hr
    obtain ⟨p, hp, q, hq, u, hu, y, hy, h1, _⟩ := hr
    rw [← h1]; exact ⟨S0 (hb _ (by simp)) hp, S0 (hb _ (by simp)) hq, S0 (hb _ (by simp)) hu, S0 (hb _ (by simp)) hy⟩
   ·cases hr
  ·cases h
 ·cases h
def q7y (s : St) (rvs : List RV) : Option AV := match Up s rvs with
 | some (_, r) => if rvs.all (rvC s) then some r else none
 | none => none
theorem q9t {s : St} {rvs : List RV} {r : AV} (h : q7y s rvs = some r) : ∃ c, Up s rvs = some (c, r) ∧ c := by
 unfold q7y at h
 split at h
 ·rename_i c r' hr
  split at h
  ·rename_i ha
   simp only [Option.some.injEq] at h; subst h
   refine ⟨c, hr, ?_⟩
   have hb : ∀ x ∈ rvs, rvC s x = true := List.all_eq_true.1 ha
   unfold Up at hr
   split at hr
   ·simp only [Option.some.injEq, Prod.mk.injEq] at hr; rw [← hr.1]; trivial
   ·exact Z8 (hb _ (by simp)) hr
   ·simp only [Option.bind_eq_some_iff, Option.map_eq_some_iff, Prod.mk.injEq] at hr
    obtain ⟨p, hp, q, hq, u, _, h1, _⟩ := hr
    rw [← h1]; exact ⟨Z8 (hb _ (by simp)) hp, Z8 (hb _ (by simp)) hq⟩
   ·simp only [Option.bind_eq_some_iff, Option.map_eq_some_iff, Prod.mk.injEq] at hr
    obtain ⟨p, hp, q, hq, u, hu, y, _, h1, _⟩ := hr
    rw [← h1]; exact ⟨Z8 (hb _ (by simp)) hp, Z8 (hb _ (by simp)) hq, Z8 (hb _ (by simp)) hu⟩
   ·cases hr
  ·cases h
 ·cases h
def q1f : AV → Bool
 | .t x => D2 x
 | .fn _ cs => cs.isEmpty
 | _ => true
def qCS : AV → Bool
 | .ag cs => cs.all q1f
 | a => q1f a
def q0v : AV → Bool
 | .ag cs => cs.all q1f
 | .tu cs => cs.all qCS
 | a => q1f a
def q9u : Ak → Bool
 | .sl _ _ es => es.all fun e => e.all D2
 | .bx cs => cs.all q0v
 | .rs _ _ es => es.all fun e => e.all q0v
 | .mr es => es.all fun e => q0v e.2
 | .mp es => es.all fun e => D2 e.2
 | .it _ _ => true
def q52 (s : St) : Bool := (s.env.all fun p => q0v p.2) && s.hp.all fun p => q9u p.2
theorem q5w {a : AV} : q1f a = true → (match a with | .t x => D2 x = true | .fn _ cs => cs = [] | _ => True) := by
 intro h
 cases a <;> simp [q1f] at h ⊢ <;> exact h
theorem Xr {a : AV} (h : q0v a = true) : G3 a := by
 cases a with
 | ag cs => exact fun c hc => q5w (List.all_eq_true.1 h c hc)
 | tu cs =>
  intro c hc
  have h1 := List.all_eq_true.1 h c hc
  cases c with
  | ag ds => exact fun d hd => q5w (List.all_eq_true.1 h1 d hd)
  | t x => exact h1
  | fn f cs => simpa [qCS, q1f] using h1
  | _ => trivial
 | t x => exact h
 | fn f cs => simpa [q0v, q1f, G3] using h
 | _ => trivial
theorem q8j {r : Ak} (h : q9u r = true) : Nr r := by
 cases r with
 | sl t s es => exact fun e he x hx => List.all_eq_true.1 (List.all_eq_true.1 h e he) x hx
 | rs t s es => exact fun e he x hx => Xr (List.all_eq_true.1 (List.all_eq_true.1 h e he) x hx)
 | bx cs => exact fun e he => Xr (List.all_eq_true.1 h e he)
 | mr es => exact fun e he => Xr (List.all_eq_true.1 h e he)
 | mp es => exact fun e he => List.all_eq_true.1 h e he
 | it s p => trivial
theorem q0w {α : Type} {p : α → Prop} {q : α → Bool} (hq : ∀ a, q a = true → p a) : ∀ {l : List (Nat × α)}, (l.all fun x => q x.2) = true → Hv p l
 | [], _ => trivial
 | x :: l, h => by simp only [List.all_cons, Bool.and_eq_true] at h; exact ⟨hq _ h.1, q0w hq h.2⟩
theorem q4M {s : St} (h : q52 s = true) : E6 s := by
 simp only [q52, Bool.and_eq_true] at h
 exact ⟨q0w (fun _ => Xr) h.1, q0w (fun _ => q8j) h.2⟩
def q2x (x : Option (AX × St)) : Option St := match x with
 | some (.normal, s) => some s
 | some (.ret, s) => some s
 | _ => none
variable (tb : Tbl) (o : Or) (Γ : Tables)
def pE (f : FuncId) (ts : List T) : Option T := match A2 tb f with
 | some e => if Nat.beq ts.length e.n then match q2x (By o Γ e.ic ⟨params 0 ts, []⟩) with
   | some s => q8i s e.rv
   | none => none
  else none
 | none => none
def fE (f : FuncId) (ts : List T) : Option T := match A2 tb f with
 | some e => if Nat.beq ts.length e.n then match q2x (By o Γ e.ic ⟨params 0 ts, []⟩) with
   | some s => if q52 s then q8i s e.rv else none
   | none => none
  else none
 | none => none
def hhE (f : FuncId) (hp : List (Nat × Ak)) (as : List AV) : Option (AV × List (Nat × Ak)) := match A2 tb f with
 | some e => if Nat.beq as.length e.n then match q2x (By o Γ e.ic ⟨Xy 0 as, hp⟩) with
   | some s => match q7y s e.rv with
    | some r => some (r, s.hp)
    | none => none
   | none => none
  else none
 | none => none
variable {tb : Tbl} {o : Or} {Γ : Tables} {P : Program}
theorem q7z {x : Option (AX × St)} {s : St} (h : q2x x = some s) : x = some (.normal, s) ∨ x = some (.ret, s) := by
 unfold q2x at h
 split at h
 ·simp only [Option.some.injEq] at h; subst h; exact .inl rfl
 ·simp only [Option.some.injEq] at h; subst h; exact .inr rfl
 ·cases h
theorem q2y (ho : q1w P Γ o) {c : IC} {s s1 : St} (h : q2x (By o Γ c s) = some s1) {Q : AX → St → Prop} (h1 : Q .normal s1) (h2 : Q .ret s1) : awp P Γ c Q s := by
 rcases q7z h with h | h
 ·exact Ag (E2 ho h) fun e s2 ⟨he, hs⟩ => by subst he; subst hs; exact h1
 ·exact Ag (E2 ho h) fun e s2 ⟨he, hs⟩ => by subst he; subst hs; exact h2
theorem qCT (ht : q2w P tb) (ho : q1w P Γ o) {f : FuncId} {ts : List T} {r : T} (h : pE tb o Γ f ts = some r) : Aw P Γ f ts r := by
 unfold pE at h
 split at h
 ·rename_i e he
  split at h
  ·rename_i hn
   split at h
   ·rename_i s hs
    obtain ⟨c, h1, h2⟩ := q7x h
    exact q2q (Ur ht he) (Nat.eq_of_beq_eq_true hn) (q2y ho hs ⟨c, h1, h2⟩ ⟨c, h1, h2⟩)
   ·cases h
  ·cases h
 ·cases h
theorem qG6 (ht : q2w P tb) (ho : q1w P Γ o) {f : FuncId} {ts : List T} {r : T} (h : fE tb o Γ f ts = some r) : A5 P Γ f ts r := by
 unfold fE at h
 split at h
 ·rename_i e he
  split at h
  ·rename_i hn
   split at h
   ·rename_i s hs
    split at h
    ·rename_i hf
     obtain ⟨c, h1, h2⟩ := q7x h
     exact q1d (Ur ht he) (Nat.eq_of_beq_eq_true hn) (q2y ho hs ⟨c, h1, h2, q4M hf⟩ ⟨c, h1, h2, q4M hf⟩)
    ·cases h
   ·cases h
  ·cases h
 ·cases h
theorem qDo (ht : q2w P tb) (ho : q1w P Γ o) {f : FuncId} {hp hp' : List (Nat × Ak)} {as : List AV} {r : AV} (h : hhE tb o Γ f hp as = some (r, hp')) : C3 P Γ f hp as r hp' := by
 unfold hhE at h
 split at h
 ·rename_i e he
  split at h
  ·rename_i hn
   split at h
   ·rename_i s hs
    split at h
    ·rename_i r' hr
     simp only [Option.some.injEq, Prod.mk.injEq] at h
     obtain ⟨rfl, rfl⟩ := h
     obtain ⟨c, h1, h2⟩ := q9t hr
     exact q7r (Ur ht he) (Nat.eq_of_beq_eq_true hn) (q2y ho hs ⟨c, h1, h2, rfl⟩ ⟨c, h1, h2, rfl⟩)
    ·cases h
   ·cases h
  ·cases h
 ·cases h
end
end Go.Lg
